/- The laws' own functions over rows of three numbers: the same, marked, held; rows that lie between two bounds. (By gen_rowLaw.py.) -/
import Derived.Test.YtihkocplgciifaaProg
import Derived.Test.YtihkocplgciifaaPair
import Derived.Test.YtihkocplgciifaaSameI
import Derived.Test.YtihkocplgciifaaMarkS
import Derived.BigRegion
namespace Go.Proofs.Ytihkocplgciifaa
open Go.RowKit

set_option maxHeartbeats 2000000 in
theorem eqIntSS_same (A B : Option Addr) (n m c d : Nat) (xs ys : List Tri) (w : World) (hx : RdK w w.heap.size A n xs) (hy : RdK w w.heap.size B m ys) (he : xs.map tri3 = ys.map tri3) (hn : n ≤ 9223372036854775807) :
    Calls Try.prog 45 #[.slice A n c, .slice B m d] w fun e w' => e = .returned (.bool true) ∧ Below w.heap.size w w' := by
  have hnm : n = m := by have h1 := hx.len; have h2 := hy.len; have h3 := congrArg List.length he; rw [List.length_map, List.length_map] at h3; omega
  subst hnm
  have HX := hide hx; have HY := hide hy; have HE := hide he; clear hx hy he
  go_enter Try.func45, Try.ntmps45
  go_wp2
  go_loopw [5] (fun i wr => ∃ k : Nat, k ≤ n ∧ i = .int .i64 k ∧ Hid (Below w.heap.size w wr)) (fun i _ => n - (intOf i).toNat)
  case atStart => exact ⟨0, Nat.zero_le _, rfl, Below.refl _ _⟩
  case round =>
    obtain ⟨k, hk, rfl, hB⟩ := hrel
    by_cases hlt : k < n
    · have hXr := (unhide HX).below (unhide hB)
      have hYr := (unhide HY).below (unhide hB)
      obtain ⟨ad, x, rfl, hx, hc, hbx, hwx⟩ := hXr.get hlt
      obtain ⟨ae, y, rfl, hy, hd, hby, hwy⟩ := hYr.get hlt
      have hxy : tri3 x = tri3 y := by
        have h1 := congrArg (fun l => l[k]?) (unhide HE)
        simp only [List.getElem?_map] at h1
        rw [unhide hx, unhide hy] at h1
        exact Option.some.inj h1
      have hlx : [x.i, x.j, x.d] = [y.i, y.j, y.d] := by
        unfold tri3 at hxy
        injection hxy with h1 h2
        injection h2 with h2 h3
        rw [h1, h2, h3]
      have hxa : (ad.add k).block < wr.heap.size := World.block_lt_of_cell? wr _ hc
      have hya : (ae.add k).block < wr.heap.size := World.block_lt_of_cell? wr _ hd
      have pc : ∀ z : Abv wr, z.w.cell? (ad.add k) = some (.slice (some ⟨x.b, 0, none⟩) 3 3) := Abv.cell hxa hc
      have pd : ∀ z : Abv wr, z.w.cell? (ae.add k) = some (.slice (some ⟨y.b, 0, none⟩) 3 3) := Abv.cell hya hd
      have c1 := hide (fun z : Abv wr => Calls.abv ((eqIntS_any (some ⟨x.b, 0, none⟩) (some ⟨y.b, 0, none⟩) 3 3 3 3 z.w.heap.size z.w.heap.size [x.i, x.j, x.d] [y.i, y.j, y.d] z.w (OwnI.ri (row_own (lo := 0) ((z.h.block x.b hwx.lt).trans hwx) (Nat.zero_le _))) (OwnI.ri (row_own (lo := 0) ((z.h.block y.b hwy.lt).trans hwy) (Nat.zero_le _))) (by omega) (by omega)).mono (fun e w' h9 => (show e = .returned (.bool true) ∧ Below z.w.heap.size z.w w' by rw [hlx] at h9; simpa using h9))))
      clear hXr hYr hx hy hc hd hwx hwy hxy hlx
      have l1 : (k : Int) < (n : Int) := by omega
      have l2 : (0 : Int) ≤ (k : Int) := by omega
      go_wp2_with fail
      refine wp_region_abv wr (by kernel_rfl) (by kernel_rfl) (Below.refl _ _) ?_
      repeat (go_big_quiet_step ((first | (go_at_call 28; with_reducible exact unhide c1 _))))
      refine wpQuiet_nil ?_
      intro _ hw'
      obtain ⟨sv, hw''⟩ := hw'
      subst hw''
      go_wp2_with fail
      go_roundw
      case rel => exact ⟨k + 1, by omega, by go_num, below_next (unhide hB) sv.h⟩
      case measure => simp [intOf]; omega
    · have e : k = n := by omega
      subst e
      go_wp2
      go_ret
      exact ⟨rfl, unhide hB⟩

set_option maxHeartbeats 2000000 in
theorem rTable_same (A B : Option Addr) (n m c d : Nat) (xs ys : List Tri) (w : World) (hx : RdK w w.heap.size A n xs) (hy : RdK w w.heap.size B m ys) (he : xs.map tri3 = ys.map tri3) (hn : n ≤ 9223372036854775807) :
    Calls Try.prog 58 #[.slice A n c, .slice B m d] w fun e w' => e = .returned (.bool true) ∧ Below w.heap.size w w' := by
  have hnm : n = m := by have h1 := hx.len; have h2 := hy.len; have h3 := congrArg List.length he; rw [List.length_map, List.length_map] at h3; omega
  subst hnm
  have HX := hide hx; have HY := hide hy; have HE := hide he; clear hx hy he
  go_enter Try.func58, Try.ntmps58
  go_wp2
  go_loopw [5] (fun i wr => ∃ k : Nat, k ≤ n ∧ i = .int .i64 k ∧ Hid (Below w.heap.size w wr)) (fun i _ => n - (intOf i).toNat)
  case atStart => exact ⟨0, Nat.zero_le _, rfl, Below.refl _ _⟩
  case round =>
    obtain ⟨k, hk, rfl, hB⟩ := hrel
    by_cases hlt : k < n
    · have hXr := (unhide HX).below (unhide hB)
      have hYr := (unhide HY).below (unhide hB)
      obtain ⟨ad, x, rfl, hx, hc, hbx, hwx⟩ := hXr.get hlt
      obtain ⟨ae, y, rfl, hy, hd, hby, hwy⟩ := hYr.get hlt
      have hxy : tri3 x = tri3 y := by
        have h1 := congrArg (fun l => l[k]?) (unhide HE)
        simp only [List.getElem?_map] at h1
        rw [unhide hx, unhide hy] at h1
        exact Option.some.inj h1
      have hlx : [x.i, x.j, x.d] = [y.i, y.j, y.d] := by
        unfold tri3 at hxy
        injection hxy with h1 h2
        injection h2 with h2 h3
        rw [h1, h2, h3]
      have hxa : (ad.add k).block < wr.heap.size := World.block_lt_of_cell? wr _ hc
      have hya : (ae.add k).block < wr.heap.size := World.block_lt_of_cell? wr _ hd
      have pc : ∀ z : Abv wr, z.w.cell? (ad.add k) = some (.slice (some ⟨x.b, 0, none⟩) 3 3) := Abv.cell hxa hc
      have pd : ∀ z : Abv wr, z.w.cell? (ae.add k) = some (.slice (some ⟨y.b, 0, none⟩) 3 3) := Abv.cell hya hd
      have c1 := hide (fun z : Abv wr => Calls.abv (rInts_same (some ⟨x.b, 0, none⟩) (some ⟨y.b, 0, none⟩) 3 3 3 3 z.w.heap.size z.w.heap.size [x.i, x.j, x.d] z.w (OwnI.ri (row_own (lo := 0) ((z.h.block x.b hwx.lt).trans hwx) (Nat.zero_le _))) (by rw [hlx]; exact OwnI.ri (row_own (lo := 0) ((z.h.block y.b hwy.lt).trans hwy) (Nat.zero_le _))) (by omega)))
      clear hXr hYr hx hy hc hd hwx hwy hxy hlx
      have l1 : (k : Int) < (n : Int) := by omega
      have l2 : (0 : Int) ≤ (k : Int) := by omega
      go_wp2_with fail
      refine wp_region_abv wr (by kernel_rfl) (by kernel_rfl) (Below.refl _ _) ?_
      repeat (go_big_quiet_step ((first | (go_at_call 50; with_reducible exact unhide c1 _))))
      refine wpQuiet_nil ?_
      intro _ hw'
      obtain ⟨sv, hw''⟩ := hw'
      subst hw''
      go_wp2_with fail
      go_roundw
      case rel => exact ⟨k + 1, by omega, by go_num, below_next (unhide hB) sv.h⟩
      case measure => simp [intOf]; omega
    · have e : k = n := by omega
      subst e
      go_wp2
      go_ret
      exact ⟨rfl, unhide hB⟩

/-- a slice's rows in blocks between lo and hi -/
structure OwnX (w : World) (lo hi : Nat) (A : Option Addr) (n c : Nat) (rs : List Tri) : Prop where
  own : OwnK w lo A n c rs
  up : ∀ g, (Value.slice A n c).ownBlock = some g → g < hi
  ub : ∀ r ∈ rs, r.b < hi
section
variable {w w' : World} {B lo hi n c : Nat} {A : Option Addr} {rs : List Tri}
theorem ownX_of (h : OwnK w lo A n c rs) : OwnX w lo w.heap.size A n c rs := ⟨h, fun g hg => (h.lt hg).2, fun r hr => (h.mem r hr).2.lt⟩
theorem OwnX.of_blocks (h : OwnX w lo hi A n c rs) (hb : ∀ b, lo ≤ b → b < hi → w'.heap[b]? = w.heap[b]?) : OwnX w' lo hi A n c rs := by
  refine ⟨⟨⟨h.own.row.1, ?_⟩, fun r hr => ⟨(h.own.mem r hr).1, (hb r.b (h.own.mem r hr).1 (h.ub r hr)).trans (h.own.mem r hr).2⟩, h.own.dst⟩, h.up, h.ub⟩
  rcases h.own.row.2 with hn | ⟨g, cap, cur, hv, hg, hh, rest⟩
  · exact .inl hn
  · exact .inr ⟨g, cap, cur, hv, hg, (hb g hg (h.up g (by rw [hv]; rfl))).trans hh, rest⟩
theorem OwnX.below (h : OwnX w lo hi A n c rs) (hb : Below B w w') (hB : w.heap.size ≤ B) : OwnX w' lo hi A n c rs := ⟨h.own.below hb hB, h.up, h.ub⟩
theorem OwnX.low (h : OwnX w lo hi A n c rs) (hb : Below B w w') (hB : hi ≤ B) : OwnX w' lo hi A n c rs := h.of_blocks fun b _ h2 => hb.block b (by omega)
theorem OwnX.kept {A' : Option Addr} {n' c' lo' hi' k' : Nat} {E' : TypeId} {cs' : List Value} (h : OwnX w lo hi A n c rs) (hg : w.grownBy w' (Value.slice A' n' c').ownBlock) (h' : OwnR w lo' hi' E' k' A' n' c' cs') (hd : hi ≤ lo' ∨ hi' ≤ lo) : OwnX w' lo hi A n c rs := by
  refine ⟨⟨World.ownsRow.kept h.own.row hg ?_, fun r hr => ⟨(h.own.mem r hr).1, (hg.block r.b (h.own.mem r hr).2.lt (fun e => ?_)).trans (h.own.mem r hr).2⟩, h.own.dst⟩, h.up, h.ub⟩
  · rcases hv : (Value.slice A n c).ownBlock with _ | g
    · exact .inl rfl
    · refine .inr fun e => ?_
      have h1 := h.own.lt hv
      have h2 := h.up g hv
      have h3 := World.ownsRow.lt h'.1 g e.symm
      have h4 := h'.2 g e.symm
      omega
  · have h1 := (h.own.mem r hr).1
    have h2 := h.ub r hr
    have h3 := World.ownsRow.lt h'.1 r.b e.symm
    have h4 := h'.2 r.b e.symm
    omega
theorem OwnX.len (h : OwnX w lo hi A n c rs) : rs.length = n := h.own.len
theorem OwnX.max (h : OwnX w lo hi A n c rs) : n ≤ 9223372036854775807 := h.own.max
theorem OwnX.rk (h : OwnX w lo hi A n c rs) : RdK w w.heap.size A n rs := h.own.rk
end
/-- a row's block holds just its three numbers -/
theorem own_row {w : World} {lo b : Nat} {x y z : Int} (h : OwnI w lo (some ⟨b, 0, none⟩) 3 3 [x, y, z]) : Whl w b 3 #[.int .i64 x, .int .i64 y, .int .i64 z] := by
  rcases h.2 with ⟨hv, _⟩ | ⟨g, cap, cur, hv, _, hh, _, _, hsz, htk⟩
  · cases hv
  · injection hv with h1 h2 h3
    injection h1 with h1
    injection h1 with h1
    subst h1 h3
    have e : cur.toList = cI [x, y, z] := by rw [← htk, List.take_of_length_le (by rw [Array.length_toList, hsz]; exact Nat.le_refl _)]
    have e2 : cur = #[.int .i64 x, .int .i64 y, .int .i64 z] := by
      apply Array.toList_inj.1
      rw [e]
      rfl
    rw [e2] at hh
    exact hh
/-- the first t rows marked from k on -/
def mrkK (k : Int) (t : Nat) (rs : List Tri) : List Tri := rs.mapIdx fun i r => if i < t then ⟨r.b, k + 3 * i, k + 3 * i + 1, k + 3 * i + 2⟩ else r
theorem mrkK_get (k : Int) (t : Nat) (rs : List Tri) (i : Nat) : (mrkK k t rs)[i]? = rs[i]?.map fun r => if i < t then ⟨r.b, k + 3 * i, k + 3 * i + 1, k + 3 * i + 2⟩ else r := by unfold mrkK; rw [List.getElem?_mapIdx]
theorem mrkK_zero (k : Int) (rs : List Tri) : mrkK k 0 rs = rs := by
  apply List.ext_getElem?
  intro i
  rw [mrkK_get]
  cases rs[i]? <;> simp
theorem mrkK_same (k : Int) (t t' : Nat) (rs : List Tri) (i : Nat) (h : i ≠ t) (ht : t' = t + 1) : (mrkK k t' rs)[i]? = (mrkK k t rs)[i]? := by
  rw [mrkK_get, mrkK_get]
  rcases rs[i]? with _ | r
  · rfl
  · simp only [Option.map_some]
    by_cases h1 : i < t
    · rw [if_pos h1, if_pos (by omega)]
    · rw [if_neg h1, if_neg (by omega)]
theorem cK_blocks {xs ys : List Tri} (h : ∀ i : Nat, xs[i]?.map Tri.b = ys[i]?.map Tri.b) : cK xs = cK ys := by
  apply List.ext_getElem?
  intro i
  rw [cK_get, cK_get]
  have := h i
  rcases hx : xs[i]? with _ | x <;> rcases hy : ys[i]? with _ | y <;> rw [hx, hy] at this <;> simp_all [vK]
theorem mrkK_b (k : Int) (t : Nat) (rs : List Tri) (i : Nat) : (mrkK k t rs)[i]?.map Tri.b = rs[i]?.map Tri.b := by
  rw [mrkK_get]
  rcases rs[i]? with _ | r
  · rfl
  · simp only [Option.map_some]
    split <;> rfl
theorem marks3 (k : Int) : marks k 3 = [k, k + 1, k + 2] := by simp [marks, List.range_succ]
set_option maxHeartbeats 2000000 in
theorem markIntSS_any (A : Option Addr) (n c lo : Nat) (rs : List Tri) (k0 : Int) (w : World) (h : OwnK w lo A n c rs) (hlo : lo ≤ w.heap.size) (hn : n ≤ 2097152) (h0 : 0 ≤ k0) (h1 : k0 ≤ 100000000) :
    Calls Try.prog 46 #[.slice A n c, .int .i64 k0] w fun e w' => e = .returned (.int .i64 (k0 + 3 * n)) ∧ OwnK w' lo A n c (mrkK k0 n rs) ∧ Below lo w w' := by
  have HO := hide h
  have HL := hide h.len
  clear h
  go_enter Try.func46, Try.ntmps46
  go_wp2
  go_loopw [1, 5] (fun v i wr => ∃ t : Nat, t ≤ n ∧ i = .int .i64 t ∧ v = .int .i64 (k0 + 3 * t) ∧ Hid (OwnK wr lo A n c (mrkK k0 t rs)) ∧ Hid (Below lo w wr)) (fun _ i _ => n - (intOf i).toNat)
  case atStart => exact ⟨0, Nat.zero_le _, rfl, by simp, by unfold Hid; rw [mrkK_zero]; exact unhide HO, Below.refl _ _⟩
  case round =>
    obtain ⟨t, ht, rfl, rfl, hO, hB⟩ := hrel
    by_cases hlt : t < n
    · obtain ⟨g, rfl, _, _, _⟩ := (unhide hO).form (by omega)
      obtain ⟨x, hx, hc, hf⟩ := (unhide hO).el (j := t) hlt
      have hmx := (unhide hO).mem x (List.mem_of_getElem? (unhide hx))
      have HM := hide (markIntS_any (some ⟨x.b, 0, none⟩) 3 3 lo [x.i, x.j, x.d] (k0 + 3 * t) wr (row_own hmx.2 hmx.1) (by omega) (by omega) (by omega))
      have HNX := hide (fun (w' : World) (e1 : OwnI w' lo (some ⟨x.b, 0, none⟩) 3 3 (marks (k0 + 3 * t) 3)) (e2 : wr.grownBy w' (Value.slice (some ⟨x.b, 0, none⟩) 3 3).ownBlock) => (show OwnK w' lo (some ⟨g, 0, none⟩) n c (mrkK k0 (t + 1) rs) ∧ Below lo w w' by
        have hO' := unhide hO
        have hgx : (Value.slice (some ⟨g, 0, none⟩) n c).ownBlock ≠ some x.b := hO'.far hmx.2
        refine ⟨⟨?_, fun r hr => ?_, fun i j r s hr hs e => ?_⟩, (unhide hB).grown e2 (Nat.le_trans hlo (unhide hB).size) (fun r e => by have e9 : x.b = r := Option.some.inj e; omega)⟩
        · have h9 := World.ownsRow.kept hO'.row e2 (.inr hgx)
          rw [cK_blocks (xs := mrkK k0 (t + 1) rs) (ys := mrkK k0 t rs) (fun i => by rw [mrkK_b, mrkK_b])]
          exact h9
        · obtain ⟨i, hi, e⟩ := List.getElem_of_mem hr
          have hri : (mrkK k0 (t + 1) rs)[i]? = some r := by rw [List.getElem?_eq_getElem hi, e]
          by_cases hit : i = t
          · subst hit
            have hrx : (mrkK k0 i rs)[i]? = some x := unhide hx
            rw [mrkK_get] at hri hrx
            rcases hrs : rs[i]? with _ | z
            · rw [hrs] at hri; cases hri
            · rw [hrs] at hri hrx
              simp only [Option.map_some, if_pos (Nat.lt_succ_self i), if_neg (Nat.lt_irrefl i), Option.some.injEq] at hri hrx
              subst hrx hri
              rw [marks3] at e1
              exact ⟨hmx.1, own_row e1⟩
          · rw [mrkK_same k0 t (t + 1) rs i hit rfl] at hri
            have h8 := hO'.mem r (List.mem_of_getElem? hri)
            exact ⟨h8.1, (e2.block r.b h8.2.lt (fun h9 => hit (hO'.dst i t r x hri (unhide hx) (by injection h9)))).trans h8.2⟩
        · have hb : ∀ (i : Nat) (r : Tri), (mrkK k0 (t + 1) rs)[i]? = some r → ∃ r', (mrkK k0 t rs)[i]? = some r' ∧ r'.b = r.b := fun i r hr => by
            have h7 := (mrkK_b k0 (t + 1) rs i).trans (mrkK_b k0 t rs i).symm
            rw [hr] at h7
            rcases h6 : (mrkK k0 t rs)[i]? with _ | r'
            · rw [h6] at h7; cases h7
            · rw [h6] at h7
              exact ⟨r', rfl, by injection h7 with h7; exact h7.symm⟩
          obtain ⟨r', h8, h9⟩ := hb i r hr
          obtain ⟨s', h6, h7⟩ := hb j s hs
          exact hO'.dst i j r' s' h8 h6 (by rw [h9, h7, e])))
      have l1 : (t : Int) < (n : Int) := by omega
      have l2 : (0 : Int) ≤ (t : Int) := by omega
      clear hx hmx hf hO hB
      go_wp2_with fail
      refine (unhide HM).mono ?_
      rintro e w1 ⟨rfl, e1, e2⟩
      have HN1 := hide (unhide HNX w1 e1 e2)
      clear e1 e2 HNX HM hc
      go_wp2_with fail
      go_roundw
      case rel => exact ⟨t + 1, by omega, by go_num, by congr 1; push_cast; omega, (unhide HN1).1, (unhide HN1).2⟩
      case measure => simp [intOf] <;> omega
    · obtain rfl : t = n := by omega
      go_wp2
      go_ret
      exact ⟨rfl, unhide hO, unhide hB⟩
set_option maxHeartbeats 2000000 in
theorem heldIntSS_any (A : Option Addr) (n c L : Nat) (rs : List Tri) (k0 : Int) (w : World) (h : RdK w L A n (mrkK k0 n rs)) (hn : n ≤ 2097152) (h0 : 0 ≤ k0) (h1 : k0 ≤ 100000000) :
    Calls Try.prog 47 #[.slice A n c, .int .i64 k0] w fun e w' => e = .returned (.int .i64 (k0 + 3 * n)) ∧ w = w' := by
  have HR := hide h
  clear h
  go_enter Try.func47, Try.ntmps47
  go_wp2
  go_loopw [1, 5] (fun v i wr => ∃ t : Nat, t ≤ n ∧ i = .int .i64 t ∧ v = .int .i64 (k0 + 3 * t) ∧ wr = w) (fun _ i _ => n - (intOf i).toNat)
  case atStart => exact ⟨0, Nat.zero_le _, rfl, by simp, rfl⟩
  case round =>
    obtain ⟨t, ht, rfl, rfl, rfl⟩ := hrel
    by_cases hlt : t < n
    · obtain ⟨ad, x, rfl, hx, hc, hb, hw⟩ := (unhide HR).get hlt
      have hm : [x.i, x.j, x.d] = marks (k0 + 3 * t) 3 := by
        have h9 := unhide hx
        rw [mrkK_get] at h9
        rcases hrs : rs[t]? with _ | z
        · rw [hrs] at h9; cases h9
        · rw [hrs] at h9
          simp only [Option.map_some, if_pos hlt, Option.some.injEq] at h9
          subst h9
          rw [marks3]
      have HH := hide (heldIntS_any (some ⟨x.b, 0, none⟩) 3 3 _ (k0 + 3 * t) _ (by rw [← hm]; exact OwnI.ri (row_own (lo := 0) hw (Nat.zero_le _))) (by omega) (by omega) (by omega))
      have l1 : (t : Int) < (n : Int) := by omega
      have l2 : (0 : Int) ≤ (t : Int) := by omega
      have l3 : ¬ k0 + 3 * (t : Int) + ((3 : Nat) : Int) < 0 := by omega
      have l4 : ¬ k0 + 3 * (t : Int) + 3 < 0 := by omega
      clear hx hb hw hm
      go_wp2_with fail
      refine (unhide HH).mono ?_
      rintro e w1 ⟨rfl, rfl⟩
      clear hc
      go_wp2_with fail
      go_roundw
      case rel => exact ⟨t + 1, by omega, by go_num, by congr 1; push_cast; omega, by first | trivial | rfl⟩
      case measure => simp [intOf] <;> omega
    · obtain rfl : t = n := by omega
      go_wp2
      go_ret
      exact ⟨rfl, rfl⟩
end Go.Proofs.Ytihkocplgciifaa
