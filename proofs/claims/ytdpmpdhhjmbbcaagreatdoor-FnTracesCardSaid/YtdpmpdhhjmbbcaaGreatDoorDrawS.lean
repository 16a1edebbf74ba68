/- Chapters 2 and 4, the walks: the samples that the reference draws: some fresh numbers, small ones. -/
import Derived.Test.YtdpmpdhhjmbbcaaGreatDoorProg
import Derived.Test.YtdpmpdhhjmbbcaaGreatDoorDraw
import Derived.Deep.RegionHeld3
import Derived.Deep.DeepCutAuto
namespace Go.Proofs.YtdpmpdhhjmbbcaaGreatDoor
open Go.RowKit

theorem least_any (a b : Int) (w : World) : Calls Tryz.prog 59 #[.int .i64 a, .int .i64 b] w fun e w' => e = .returned (.int .i64 (min a b)) ∧ w = w' := by
  by_cases h : a < b
  all_goals
    go_enter Tryz.func59, Tryz.ntmps59
    go_wp2
    go_ret
    exact ⟨ret_int (by omega), rfl⟩
def lenS : Value → Nat
  | .slice _ m _ => m
  | _ => 0
theorem OwnI.cellOf {w : World} {lo g n c j : Nat} {ys : List Int} {s : Int} (h : OwnI w lo (some ⟨g, 0, none⟩) n c ys) (hs : ys[j]? = some s) : w.cell? ⟨g, j, none⟩ = some (.int .i64 s) := by
  have hl := (List.getElem?_eq_some_iff.1 hs).1
  rw [World.ownsRow.cellAt h j (by have := h.len; omega), cI_get, hs]; rfl
theorem OwnI.dr {w : World} {lo n c : Nat} {A : Option Addr} {ys : List Int} (h : OwnI w lo A n c ys) : OwnI w.drew lo A n c ys := h
/-- some fresh numbers, m at most, and the cursor -/
def RetCI (w : World) (g : Nat) (A : Option Addr) (n c : Nat) (xs : List Int) (b m : Nat) (e : Ending) (w' : World) : Prop :=
  ∃ (A' : Option Addr) (n' c' : Nat) (ys : List Int), e = .returned (.slice A' n' c') ∧ OwnI w' w.heap.size A' n' c' ys ∧ n' ≤ m ∧ (∀ y ∈ ys, -400000 ≤ y ∧ y ≤ 400000) ∧ Cur w' g A n c xs b ∧ w.grownBy w' (some g)

theorem sample_any (g n c b : Nat) (A : Option Addr) (xs : List Int) (w : World) (h : Cur w g A n c xs b) (hn : n ≤ 1048576) (hb : b ≤ 1000000) :
    Calls Tryz.prog 58 #[.pointer (some ⟨g, 0, none⟩)] w (RetC w g A n c xs (b + 2) fun x => -100000 ≤ x ∧ x ≤ 100000) := by
  have HC := hide h
  clear h
  go_enter Tryz.func58, Tryz.ntmps58
  go_wp2_with fail
  refine (among_lit g n c b _ A xs w rfl [0, 0, 1, -1, 3, -4, 20, -35, 100, 120, -500, 3000, 99999, -100000] 14 _ (fun x => -100000 ≤ x ∧ x ≤ 100000) rfl rfl (by omega) (by omega) (by simp) (unhide HC) hn (by omega)).mono ?_
  rintro e w1 ⟨x, rfl, ⟨x0, x1⟩, hC, hg⟩
  go_wp2_with fail
  go_ret
  exact ⟨x, rfl, ⟨x0, x1⟩, hC, hg⟩

set_option maxHeartbeats 4000000 in
set_option maxRecDepth 100000 in
theorem samples_any (g n c b : Nat) (A : Option Addr) (xs : List Int) (w : World) (h : Cur w g A n c xs b) (hn : n ≤ 1048576) (hb : b ≤ 900000) :
    Calls Tryz.prog 43 #[.pointer (some ⟨g, 0, none⟩)] w (RetCI w g A n c xs (b + 200) 26) := by
  have HC := hide h
  have hgl := h.lt
  clear h
  go_enter Tryz.func43, Tryz.ntmps43
  go_wp2_with fail
  refine (pick_any g n c b A xs 12 _ ((unhide HC).alloc _) hn (by omega) (by omega) (by omega)).mono ?_
  rintro e w1 ⟨x, rfl, ⟨x0, x1⟩, hC, hg⟩
  obtain ⟨p, rfl⟩ : ∃ k : Nat, x = (k : Int) := ⟨x.toNat, by omega⟩
  have HC1 := hide hC
  have HG1 := hide (grownBy_trans (grown_alloc (World.grownBy.refl w _) _) hg)
  have HO1 := hide ((OwnI.empty w (Nat.le_refl _)).gr hg hgl)
  have hp : p ≤ 12 := by omega
  clear hC hg x0 x1 HC
  go_wp2_with fail
  go_loopw [3, 4] (fun v i wr => ∃ (k m : Nat) (A' : Option Addr) (c' q : Nat) (ys : List Int), v = .slice A' m c' ∧ i = .int .i64 k ∧ m + k ≤ 12 ∧ q + 6 * k ≤ b + 100 ∧ Hid (∀ y ∈ ys, -100000 - 5 * (m : Int) ≤ y ∧ y ≤ 100000) ∧ Hid (OwnI wr w.heap.size A' m c' ys) ∧ Hid (Cur wr g A n c xs q) ∧ Hid (w.grownBy wr (some g))) (fun _ i _ => (intOf i).toNat)
  case atStart => exact ⟨p, 0, _, _, b + 2, [], rfl, rfl, by omega, by omega, by simp [Hid], HO1, HC1, HG1⟩
  case round =>
    obtain ⟨k, m, A', c', q, ys, rfl, rfl, hmk, hqk, hY, hO, hC, hG⟩ := hrel
    rcases k with _ | k
    · have hY2 : Hid (∀ y ∈ ys, -100060 ≤ y ∧ y ≤ 100000) := fun y hy => by have := unhide hY y hy; omega
      clear hY HO1 HC1 HG1
      go_wp2_with fail
      refine (pick_any g n c q A xs 40 wr (unhide hC) hn (by omega) (by omega) (by omega)).mono ?_
      rintro e w2 ⟨z, rfl, ⟨z0, z1⟩, hC2, hg⟩
      have HC2 := hide hC2
      have HG2 := hide (grownBy_trans (unhide hG) hg)
      have HO2 := hide ((unhide hO).gr hg hgl)
      clear hC2 hg hC hG hO
      have hcs : z = 0 ∨ z = 1 ∨ (z == 0) = false ∧ (z == 1) = false := by
        simp only [beq_eq_false_iff_ne, ne_eq]
        omega
      rcases hcs with rfl | rfl | ⟨n0, n1⟩
      · go_wp2_with fail
        refine (among_lit g n c (q + 2) _ A xs w2 rfl [100001, -100001] 2 _ (fun x => -100001 ≤ x ∧ x ≤ 100001) rfl rfl (by omega) (by omega) (by simp) (unhide HC2) hn (by omega)).mono ?_
        rintro e w3 ⟨x, rfl, ⟨x0, x1⟩, hC3, hg⟩
        have HC3 := hide hC3
        have HG3 := hide (grownBy_trans (unhide HG2) hg)
        have HO3 := hide ((unhide HO2).gr hg hgl)
        clear hC3 hg
        have hls : w.heap.size ≤ w3.heap.size := (unhide HG3).size
        have hrow : Hid (∀ r, (Value.slice A' m c').ownBlock = some r → w.heap.size ≤ r) := fun r e => ((unhide HO3).lt e).1
        go_wp2_with (first
          | (go_at_call 59; refine (least_any _ _ _).mono ?_; rintro e wl ⟨rfl, rfl⟩)
          | (at_builtin; refine append_int2 _ rfl _ _ rfl w.heap.size A' m c' ys rfl ((unhide HO3).alloc _) ?_ _ x rfl (cellNew _ _ _) ?_ ?_; (simp; omega); omega; intro A2 c2 w9 hO9 hg9))
        have HO9 := hide hO9
        have HC9 := hide (((unhide HC3).alloc _).grown hg9 fun r e => Nat.lt_of_lt_of_le hgl (unhide hrow r e))
        have HG9 := hide (grown_into (grown_alloc (unhide HG3) _) hg9 (unhide hrow))
        clear hO9 hg9 hrow
        go_wp2_with fail
        go_ret
        refine ⟨A2, m + 1, c2, _, rfl, unhide HO9, by omega, fun y hy => ?_, (unhide HC9).more (by omega), unhide HG9⟩
        rcases List.mem_append.1 hy with h | h
        · have := unhide hY2 y h; omega
        · obtain rfl : y = x := by simpa using h
          omega
      · go_wp2_with fail
        go_loopw [3] (fun v wr => ∃ (m : Nat) (A' : Option Addr) (c' q : Nat) (ys : List Int), v = .slice A' m c' ∧ m ≤ 25 ∧ q ≤ b + 110 + 2 * m ∧ Hid (∀ y ∈ ys, -100060 ≤ y ∧ y ≤ 100000) ∧ Hid (OwnI wr w.heap.size A' m c' ys) ∧ Hid (Cur wr g A n c xs q) ∧ Hid (w.grownBy wr (some g))) (fun v _ => 26 - lenS v)
        case atStart => exact ⟨m, A', c', q + 2, ys, rfl, by omega, by omega, hY2, HO2, HC2, HG2⟩
        case round =>
          clear hY2 HO2 HC2 HG2 hmk hqk
          obtain ⟨m, A', c', q, ys, rfl, hm25, hq, hY, hO, hC, hG⟩ := hrel
          go_wp2_with fail
          refine (pick_any g n c q A xs 2 _ (unhide hC) hn (by omega) (by omega) (by omega)).mono ?_
          rintro e w3 ⟨x, rfl, ⟨x0, x1⟩, hC3, hg⟩
          have HC3 := hide hC3
          have HG3 := hide (grownBy_trans (unhide hG) hg)
          have HO3 := hide ((unhide hO).gr hg hgl)
          clear hC3 hg hC hG hO
          by_cases hmz : (m : Int) < 24 + x
          · have hv : Hid (0 ≤ ((m : Int) % 5) ∧ ((m : Int) % 5) ≤ 5) := by unfold Hid; omega
            have hls : w.heap.size ≤ w3.heap.size := (unhide HG3).size
            have hrow : Hid (∀ r, (Value.slice A' m c').ownBlock = some r → w.heap.size ≤ r) := fun r e => ((unhide HO3).lt e).1
            go_wp2_with (first
              | (go_at_call 59; refine (least_any _ _ _).mono ?_; rintro e wl ⟨rfl, rfl⟩)
              | (at_builtin; refine append_int2 _ rfl _ _ rfl w.heap.size A' m c' ys rfl ((unhide HO3).alloc _) ?_ _ ((m : Int) % 5) rfl (cellNew _ _ _) ?_ ?_; (simp; omega); omega; intro A2 c2 w9 hO9 hg9))
            have HO9 := hide hO9
            have HC9 := hide (((unhide HC3).alloc _).grown hg9 fun r e => Nat.lt_of_lt_of_le hgl (unhide hrow r e))
            have HG9 := hide (grown_into (grown_alloc (unhide HG3) _) hg9 (unhide hrow))
            clear hO9 hg9 hrow
            go_roundw
            case rel =>
              refine ⟨m + 1, A2, c2, q + 2, _, rfl, by omega, by omega, fun y hy => ?_, HO9, HC9, HG9⟩
              rcases List.mem_append.1 hy with h | h
              · exact unhide hY y h
              · obtain rfl : y = (m : Int) % 5 := by simpa using h
                have := unhide hv
                omega
            case measure => simp [lenS] <;> omega
          · go_wp2_with fail
            go_ret
            exact ⟨A', m, c', ys, rfl, unhide HO3, by omega, fun y hy => by have := unhide hY y hy; omega, (unhide HC3).more (by omega), unhide HG3⟩
      · go_wp2_with fail
        go_ret
        exact ⟨A', m, c', ys, rfl, unhide HO2, by omega, fun y hy => by have := unhide hY2 y hy; omega, (unhide HC2).more (by omega), unhide HG2⟩
    · clear HO1 HC1 HG1
      go_wp2_with fail
      refine (sample_any g n c q A xs wr (unhide hC) hn (by omega)).mono ?_
      rintro e w2 ⟨x, rfl, ⟨x0, x1⟩, hC2, hg⟩
      have HC2 := hide hC2
      have HG2 := hide (grownBy_trans (unhide hG) hg)
      have HO2 := hide ((unhide hO).gr hg hgl)
      clear hC2 hg hC hG hO
      by_cases hm0 : 0 < m
      · have l0 : (0 : Int) < (m : Int) := by omega
        go_wp2_with fail
        refine (one_any g n c (q + 2) A xs 2 w2 (unhide HC2) hn (by omega) (by omega) (by omega)).mono ?_
        rintro e w3 ⟨o, rfl, hC3, hg⟩
        have HC3 := hide hC3
        have HG3 := hide (grownBy_trans (unhide HG2) hg)
        have HO3 := hide ((unhide HO2).gr hg hgl)
        clear hC3 hg HC2 HG2 HO2
        rcases o with _ | _
        · skip
          have hls : w.heap.size ≤ w3.heap.size := (unhide HG3).size
          have hrow : Hid (∀ r, (Value.slice A' m c').ownBlock = some r → w.heap.size ≤ r) := fun r e => ((unhide HO3).lt e).1
          go_wp2_with (first
            | (go_at_call 59; refine (least_any _ _ _).mono ?_; rintro e wl ⟨rfl, rfl⟩)
            | (at_builtin; refine append_int2 _ rfl _ _ rfl w.heap.size A' m c' ys rfl ((unhide HO3).alloc _) ?_ _ (min 100000 x) rfl (cellNew _ _ _) ?_ ?_; (simp; omega); omega; intro A2 c2 w9 hO9 hg9))
          have HO9 := hide hO9
          have HC9 := hide (((unhide HC3).alloc _).grown hg9 fun r e => Nat.lt_of_lt_of_le hgl (unhide hrow r e))
          have HG9 := hide (grown_into (grown_alloc (unhide HG3) _) hg9 (unhide hrow))
          clear hO9 hg9 hrow
          go_roundw
          case rel =>
            refine ⟨k, m + 1, A2, c2, q + 2 + 2, _, rfl, by go_num, by omega, by omega, fun y hy => ?_, HO9, HC9, HG9⟩
            rcases List.mem_append.1 hy with h | h
            · have := unhide hY y h
              omega
            · obtain rfl : y = min 100000 x := by simpa using h
              omega
          case measure => simp [intOf] <;> omega
        · obtain ⟨j, rfl⟩ : ∃ j, m = j + 1 := ⟨m - 1, by omega⟩
          obtain ⟨gb, rfl, hgb, hgb2, hmc⟩ := (unhide HO3).form (by omega)
          obtain ⟨ad, s, had, _, hs, hcs⟩ := (unhide HO3).ri.get (k := j) (by omega)
          obtain rfl := Option.some.inj had
          have hsb := unhide hY s (List.mem_of_getElem? (unhide hs))
          have k0 : w3.cell? ⟨gb, j, none⟩ = some (.int .i64 s) := (unhide HO3).cellOf (unhide hs)
          have s1 : IntKind.i64.wrap (j : Int) = (j : Int) := IntWalk.i64_in _ (by omega)
          have s2 : (j : Int) < (j : Int) + 1 := by omega
          have s3 : (0 : Int) ≤ (j : Int) := by omega
          clear hcs had
          go_wp2_with fail
          go_region_held3 (fun w' => w'.cell? ⟨gb, j, none⟩ = some (.int .i64 s))
            ((repeat (first | exact k0 | with_reducible exact k1 | with_reducible refine cell_dr ?_ | with_reducible refine cell_on ?_ _)))
            (first
              | (go_at_call 44; refine (among_at g n c (q + 2 + 2) _ A xs _ [0, 1, -1, 2, -5, 70] 6 (fun x => -5 ≤ x ∧ x ≤ 70) ?_ (new_ne_cur (unhide HC3)) ?_ ?_ ?_ ?_ ?_ hn ?_).mono ?_; (repeat (with_reducible refine Whl.drew ?_)); (exact Whl.here _ _ _); rfl; omega; omega; (simp); (repeat (first | with_reducible exact unhide HC3 | with_reducible refine Cur.drew ?_ | with_reducible refine Cur.alloc ?_ _)); omega; rintro e w4 ⟨z, rfl, ⟨z0, z1⟩, hC, hg⟩; have HC4 := hide hC; have HG4 : Hid (w.grownBy w4 (some g)) := hide (grownBy_trans (by (repeat (first | with_reducible exact unhide HG3 | with_reducible refine grown_dr ?_ | with_reducible refine grown_alloc ?_ _))) hg); have HO4 : Hid (OwnI w4 w.heap.size (some ⟨gb, 0, none⟩) (j + 1) c' ys) := hide (OwnI.gr (by (repeat (first | with_reducible exact unhide HO3 | with_reducible refine OwnI.dr ?_ | with_reducible refine OwnI.alloc ?_ _))) hg hgl); have k1 : w4.cell? ⟨gb, j, none⟩ = some (.int .i64 s) := (unhide HO4).cellOf (unhide hs); clear hC hg))
          all_goals
            rw [IntWalk.i64_in (s + z) (by omega)]
            clear k0 k1 s1 s2 s3 HO3 HC3 HG3
            have hls : w.heap.size ≤ w4.heap.size := (unhide HG4).size
            have hrow : Hid (∀ r, (Value.slice (some ⟨gb, 0, none⟩) (j + 1) c').ownBlock = some r → w.heap.size ≤ r) := fun r e => ((unhide HO4).lt e).1
            go_wp2_with (first
              | (go_at_call 59; refine (least_any _ _ _).mono ?_; rintro e wl ⟨rfl, rfl⟩)
              | (at_builtin; refine append_int2 _ rfl _ _ rfl w.heap.size (some ⟨gb, 0, none⟩) (j + 1) c' ys rfl ((unhide HO4).alloc _) ?_ _ (min 100000 (s + z)) rfl (cellNew _ _ _) ?_ ?_; (simp; omega); omega; intro A2 c2 w9 hO9 hg9))
            have HO9 := hide hO9
            have HC9 := hide (((unhide HC4).alloc _).grown hg9 fun r e => Nat.lt_of_lt_of_le hgl (unhide hrow r e))
            have HG9 := hide (grown_into (grown_alloc (unhide HG4) _) hg9 (unhide hrow))
            clear hO9 hg9 hrow
            go_roundw
            case rel =>
              refine ⟨k, j + 1 + 1, A2, c2, q + 2 + 2 + 2, _, rfl, by go_num, by omega, by omega, fun y hy => ?_, HO9, HC9, HG9⟩
              rcases List.mem_append.1 hy with h | h
              · have := unhide hY y h
                omega
              · obtain rfl : y = min 100000 (s + z) := by simpa using h
                omega
            case measure => simp [intOf] <;> omega
      · obtain rfl : m = 0 := by omega
        skip
        have hls : w.heap.size ≤ w2.heap.size := (unhide HG2).size
        have hrow : Hid (∀ r, (Value.slice A' 0 c').ownBlock = some r → w.heap.size ≤ r) := fun r e => ((unhide HO2).lt e).1
        go_wp2_with (first
          | (go_at_call 59; refine (least_any _ _ _).mono ?_; rintro e wl ⟨rfl, rfl⟩)
          | (at_builtin; refine append_int2 _ rfl _ _ rfl w.heap.size A' 0 c' ys rfl ((unhide HO2).alloc _) ?_ _ (min 100000 x) rfl (cellNew _ _ _) ?_ ?_; (simp; omega); omega; intro A2 c2 w9 hO9 hg9))
        have HO9 := hide hO9
        have HC9 := hide (((unhide HC2).alloc _).grown hg9 fun r e => Nat.lt_of_lt_of_le hgl (unhide hrow r e))
        have HG9 := hide (grown_into (grown_alloc (unhide HG2) _) hg9 (unhide hrow))
        clear hO9 hg9 hrow
        go_roundw
        case rel =>
          refine ⟨k, 0 + 1, A2, c2, q + 2, _, rfl, by go_num, by omega, by omega, fun y hy => ?_, HO9, HC9, HG9⟩
          rcases List.mem_append.1 hy with h | h
          · have := unhide hY y h
            omega
          · obtain rfl : y = min 100000 x := by simpa using h
            omega
        case measure => simp [intOf] <;> omega
end Go.Proofs.YtdpmpdhhjmbbcaaGreatDoor
