/- Chapter 3, the walks: the list of stations that the reference draws. (By gen_drawStL.py.) -/
import Derived.Test.YtihkocplgciifaaProg
import Derived.Test.YtihkocplgciifaaDrawSt
import Derived.WalkSpells
namespace Go.Proofs.Ytihkocplgciifaa
open Go.RowKit

/-- append of stations, and which block grew -/
theorem append_sts1 (w : World) {ops : Array Oper} {rest : List Oper} {o : Oper} {a : Act} {Q : Exit → Act → World → Prop} (hgd : o.guard = none) (s x : Operand)
    (ho : o.op = .call { callee := .builtin .append, args := #[s, x], argTypes := #[32, 32] })
    (lo : Nat) (A : Option Addr) (n c : Nat) (xs : List St) (hs : a.eval s = .slice A n c) (hown : OwnS w lo A n c xs) (hlo : lo ≤ w.heap.size)
    (B : Option Addr) (m c2 L : Nat) (ys : List St) (hx : a.eval x = .slice B m c2) (hr : RS w L B m ys) (p : Nat) (hp : n + m = p) (hn : p ≤ 1000000000)
    (h : ∀ A' c' w', OwnS w' lo A' p c' (xs ++ ys) → w.grownBy w' (Value.slice A n c).ownBlock → wpList Try.prog ops Q rest (a.put o.dst (.slice A' p c')) w') : wpList Try.prog ops Q (o :: rest) a w := by
  subst hp
  obtain ⟨i0, hi, hz0, hz1, hz2⟩ := info_parts info_Station
  exact wpList_append_many w hgd s x 32 ho lo 26 i0 (.agg #[.int .i64 0, .string ByteArray.empty, .int .i64 0, .int .i64 0, .int .i64 0, .int .i64 0, .int .i64 0, .int .i64 0]) 8 72 Try.underlying32 hi hz0 hz1 hz2 rfl (by decide) A n c (cS xs) hs hown L B m c2 (cS ys) hx hr (cS_one ys) (by unfold maxLen; omega) (by omega) hlo
    fun A' c' w' h2 h3 _ => h A' c' w' (by unfold OwnS; rw [cS_append]; exact h2) h3
theorem OwnS.gr {w w' : World} {g lo k d : Nat} {B : Option Addr} {ys : List St} (h : OwnS w lo B k d ys) (hg : w.grownBy w' (some g)) (hl : g < lo) : OwnS w' lo B k d ys := by
  refine h.kept hg ?_
  rcases hv : (Value.slice B k d).ownBlock with _ | r
  · exact .inl rfl
  · exact .inr fun e => by have := (h.lt hv).1; injection e with e; omega
/-- the text of one letter -/
theorem conv_one (W : World) (k : Nat) (hk : k ≤ 100) : ∃ bt : UInt8, (convert 59 9 (.slice (some ⟨W.heap.size, 0, none⟩) 1 1)).run Try.prog (W.alloc (.cells #[.int .u8 (97 + (k : Int))] 5)) = .ok (.string ⟨#[bt]⟩) (W.alloc (.cells #[.int .u8 (97 + (k : Int))] 5)) := by
  refine ⟨UInt8.ofNat (97 + k), ?_⟩
  refine run_convert_bytes_back (P := Try.prog) _ 59 9 5 ⟨W.heap.size, 0, none⟩ 1 [UInt8.ofNat (97 + k)] Try.underlying59 Try.underlying5 Try.underlying9 (fun j hj => ?_)
  have hj0 : j = 0 := by simpa using hj
  subst hj0
  have e9 : (⟨W.heap.size, 0, none⟩ : Addr).add 0 = ⟨W.heap.size, 0, none⟩ := by simp [Addr.add]
  rw [e9, (Whl.here W 5 #[.int .u8 (97 + (k : Int))]).cell 0]
  have h1 : (UInt8.ofNat (97 + k)).toNat = 97 + k := by rw [UInt8.toNat_ofNat']; omega
  show some (Value.int .u8 (97 + (k : Int))) = some (Value.int .u8 (((UInt8.ofNat (97 + k)).toNat : Nat) : Int))
  rw [h1]
  push_cast
  rfl

set_option maxHeartbeats 8000000 in
set_option maxRecDepth 100000 in
theorem stations_any (g n c b : Nat) (A : Option Addr) (xs : List Int) (w : World) (h : Cur w g A n c xs b) (hn : n ≤ 1048576) (hb : b ≤ 800000) :
    Calls Try.prog 103 #[.pointer (some ⟨g, 0, none⟩)] w (RetCL w g A n c xs (b + 300)) := by
  have hgw := h.lt
  have HC0 := hide (h.alloc (.cells #[] 26))
  have HO0 : Hid (OwnS (w.alloc (.cells #[] 26)) w.heap.size (some ⟨w.heap.size, 0, none⟩) 0 0 []) := OwnS.empty w (Nat.le_refl _)
  have HG0 := hide (grown_alloc (World.grownBy.refl w (some g)) (.cells #[] 26))
  clear h
  go_enter Try.func103, Try.ntmps103
  go_wp2_with fail
  generalize w.alloc (.cells #[] 26) = w0 at *
  refine (pick_any g n c b A xs 9 w0 (unhide HC0) (by omega) (by omega) (by omega) (by omega)).mono ?_
  rintro e w1 ⟨q, rfl, ⟨q0, q1⟩, hC, hg⟩
  obtain ⟨k0, rfl⟩ : ∃ k : Nat, q = (k : Int) := ⟨q.toNat, by omega⟩
  have HO1 := hide ((unhide HO0).gr hg hgw)
  have HG1 := hide (grownBy_trans (unhide HG0) hg)
  have HC1 := hide hC
  clear hC hg HC0 HO0 HG0
  go_wp2_with fail
  go_loopw [3, 4, 5] (fun v i j wr => ∃ (A' : Option Addr) (n' c' : Nat) (ys : List St) (k : Nat) (idn : Int), v = .slice A' n' c' ∧ i = .int .i64 idn ∧ j = .int .i64 (k : Int) ∧ k ≤ 8 ∧ n' + k ≤ 8 ∧ Hid (OwnS wr w.heap.size A' n' c' ys) ∧ Hid (∀ x ∈ ys, x.nm.size ≤ 11) ∧ Hid (Cur wr g A n c xs (b + 2 + (8 - k) * 28)) ∧ Hid (w.grownBy wr (some g))) (fun _ _ j _ => (intOf j).toNat)
  case atStart => exact ⟨_, 0, 0, [], k0, 0, rfl, rfl, rfl, by omega, by omega, HO1, (fun x hx => by cases hx), (unhide HC1).more (by omega), HG1⟩
  case round =>
    obtain ⟨A', n', c', ys, k, idn, rfl, rfl, rfl, hk8, hnk, hO, hN, hC, hG⟩ := hrel
    clear HO1 HC1 HG1
    by_cases hlt : 0 < k
    · obtain ⟨k, rfl⟩ : ∃ j, k = j + 1 := ⟨k - 1, by omega⟩
      have l1 : (0 : Int) < ((k + 1 : Nat) : Int) := by omega
      go_wp2_with fail
      refine (pick_any g n c _ A xs 3 wr (unhide hC) (by omega) (by omega) (by omega) (by omega)).mono ?_
      rintro e w2 ⟨y, rfl, _, hC2, hg2⟩
      have HO2 := hide ((unhide hO).gr hg2 hgw)
      have HG2 := hide (grownBy_trans (unhide hG) hg2)
      have HC2 := hide hC2
      have hg2lt := (unhide HC2).lt
      have hwl := (unhide HG2).size
      have HE := hide (OwnS.empty (lo := w2.heap.size) w2 (Nat.le_refl _))
      clear hC2 hg2 hO hG hC
      go_wp2_with (at_builtin; go_must (refine append_sts1 _ rfl _ _ rfl w2.heap.size _ 0 0 [] rfl (unhide HE) (by simp) A' n' c' _ ys rfl ((unhide HO2).rs.alloc (Nat.le_refl _) _) n' (Nat.zero_add _) (by omega) ?_); intro A3 c3 w3 hO3 hg3)
      have HG3 : Hid (w2.grownBy w3 (some g)) := hide (grown_into (grown_alloc (World.grownBy.refl w2 (some g)) _) hg3 (fun r e => (OwnS.lt (unhide HE) e).1))
      have HC3 := hide (Cur.grown ((unhide HC2).alloc (.cells #[] 26)) hg3 (fun r e => by have := (OwnS.lt (unhide HE) e).1; omega))
      have HO3 := hide hO3
      clear hO3 hg3 HE HC2
      refine (station_any g n c _ A xs _ w3 (unhide HC3) (by omega) (by omega)).mono ?_
      rintro e w4 ⟨s, rfl, hs, hC4, hg4⟩
      have HO4 := hide ((unhide HO3).gr hg4 hg2lt)
      have HG4 := hide (grownBy_trans (unhide HG3) hg4)
      have HC4 := hide hC4
      have hw4 := (unhide HG4).size
      clear hC4 hg4 HO3 HG3 HC3
      go_wp2_with (at_builtin; go_must (refine append_sts1 _ rfl _ _ rfl w2.heap.size A3 n' c3 ([] ++ ys) rfl ((unhide HO4).alloc _) (by simp; omega) _ 1 1 _ [s] rfl (rs_one (T := 26) (Whl.here w4 _ _) (Nat.lt_succ_self _)) (n' + 1) rfl (by omega) ?_); intro A5 c5 w5 hO5 hg5)
      have HG5 : Hid (w2.grownBy w5 (some g)) := hide (grown_into (grown_alloc (unhide HG4) _) hg5 (fun r e => (OwnS.lt (OwnS.alloc (unhide HO4) (.cells #[] 26)) e).1))
      have HC5 := hide (Cur.grown ((unhide HC4).alloc _) hg5 (fun r e => by have := (OwnS.lt (OwnS.alloc (unhide HO4) (.cells #[] 26)) e).1; omega))
      have HO5 : Hid (OwnS w5 w2.heap.size A5 (n' + 1) c5 (ys ++ [s])) := hide hO5
      clear hO5 hg5 HO4 HG4 HC4
      have HN5 : Hid (∀ x ∈ ys ++ [s], x.nm.size ≤ 11) := fun x hx => by
        rcases List.mem_append.1 hx with h9 | h9
        · exact unhide hN x h9
        · obtain rfl := List.mem_singleton.1 h9
          exact hs
      refine (l3Good_any A5 (n' + 1) c5 (ys ++ [s]) w5 (unhide HO5).rs (by omega) (fun x hx => by have := unhide HN5 x hx; omega)).mono ?_
      rintro e w6 ⟨rfl, hb6⟩
      have HG6 := hide (grown_below (unhide HG5) ((unhide HG5).size |> fun _ => hb6))
      have HC6 := hide ((unhide HC5).kept hb6)
      have HO6 := hide ((unhide HO5).below hb6 (Nat.le_refl _))
      clear hb6 HG5 HC5 HO5 hs
      generalize stsB (ys ++ [s]) = ok
      generalize ys ++ [s] = zs at *
      rcases ok with _ | _
      · go_wp2_with fail
        refine (one_any g n c _ A xs 50 w6 (unhide HC6) (by omega) (by omega) (by omega) (by omega)).mono ?_
        rintro e w7 ⟨bb, rfl, hC7, hg7⟩
        have HG7 := hide (grownBy_trans (unhide HG6) hg7)
        have HO7 := hide ((unhide HO6).gr hg7 hg2lt)
        have HC7 := hide hC7
        clear hC7 hg7 HG6 HO6 HC6
        rcases bb with _ | _
        · go_wp2_with fail
          go_roundw
          case rel => exact ⟨A', n', c', ys, k, _, rfl, rfl, by go_num, by omega, by omega, OwnS.gr (unhide HO2) (unhide HG7) hgw, hN, (unhide HC7).more (by omega), grownBy_trans (unhide HG2) (unhide HG7)⟩
          case measure => simp [intOf] <;> omega
        · go_wp2_with fail
          go_roundw
          case rel => exact ⟨A5, n' + 1, c5, zs, k, _, rfl, rfl, by go_num, by omega, by omega, OwnS.less (unhide HO7) hwl, HN5, (unhide HC7).more (by omega), grownBy_trans (unhide HG2) (unhide HG7)⟩
          case measure => simp [intOf] <;> omega
      · go_wp2_with fail
        go_roundw
        case rel => exact ⟨A5, n' + 1, c5, zs, k, _, rfl, rfl, by go_num, by omega, by omega, OwnS.less (unhide HO6) hwl, HN5, (unhide HC6).more (by omega), grownBy_trans (unhide HG2) (unhide HG6)⟩
        case measure => simp [intOf] <;> omega
    · obtain rfl : k = 0 := by omega
      go_wp2_with fail
      refine (one_any g n c _ A xs 24 wr (unhide hC) (by omega) (by omega) (by omega) (by omega)).mono ?_
      rintro e w2 ⟨bb, rfl, hC2, hg2⟩
      have HG2 := hide (grownBy_trans (unhide hG) hg2)
      have HO2 := hide ((unhide hO).gr hg2 hgw)
      have HC2 := hide hC2
      have hwl := (unhide HG2).size
      clear hC2 hg2 hG hO hC
      rcases bb with _ | _
      · go_wp2_with fail
        go_ret
        exact ⟨A', n', c', ys, rfl, unhide HO2, by omega, unhide hN, (unhide HC2).more (by omega), unhide HG2⟩
      · go_wp2_with fail
        have HE := hide (OwnS.empty (lo := w.heap.size) w2 hwl)
        have HCe := hide ((unhide HC2).alloc (.cells #[] 26))
        have HGe := hide (grown_alloc (unhide HG2) (.cells #[] 26))
        clear HO2 HC2 HG2 hN hwl
        generalize w2.alloc (.cells #[] 26) = w3 at *
        go_loopw [3, 7] (fun v i wj => ∃ (A' : Option Addr) (k c' : Nat) (ys : List St), v = .slice A' k c' ∧ i = .int .i64 (k : Int) ∧ k ≤ 11 ∧ Hid (OwnS wj w.heap.size A' k c' ys) ∧ Hid (∀ x ∈ ys, x.nm.size ≤ 11) ∧ Hid (Cur wj g A n c xs (b + 240 + k * 2)) ∧ Hid (w.grownBy wj (some g))) (fun _ i _ => 12 - (intOf i).toNat)
        case atStart => exact ⟨_, 0, 0, [], rfl, rfl, by omega, HE, (fun x hx => by cases hx), (unhide HCe).more (by omega), HGe⟩
        case round =>
          obtain ⟨A2, k, c2, zs, rfl, rfl, hk, hO, hN, hC, hG⟩ := hrel
          clear HE HCe HGe
          go_wp2_with fail
          refine (pick_any g n c _ A xs 2 wr (unhide hC) (by omega) (by omega) (by omega) (by omega)).mono ?_
          rintro e w4 ⟨y, rfl, ⟨y0, y1⟩, hC4, hg4⟩
          have HG4 := hide (grownBy_trans (unhide hG) hg4)
          have HO4 := hide ((unhide hO).gr hg4 hgw)
          have HC4 := hide hC4
          have hwl := (unhide HG4).size
          clear hC4 hg4 hG hO hC
          have s1 : IntKind.i64.wrap (10 + y) = 10 + y := IntWalk.i64_in _ (by omega)
          by_cases hlt : (k : Int) < 10 + y
          · have t1 : IntKind.i64.wrap (97 + (k : Int)) = 97 + (k : Int) := IntWalk.i64_in _ (by omega)
            have t2 : IntKind.u8.wrap (97 + (k : Int)) = 97 + (k : Int) := by rw [IntKind.wrap]; first | done | (simp [IntKind.bits, IntKind.signed]; done) | (simp [IntKind.bits, IntKind.signed]; omega)
            have t3 : IntKind.i64.wrap ((k : Int) + 1) = (k : Int) + 1 := IntWalk.i64_in _ (by omega)
            have t4 : IntKind.i64.wrap (5 * (k : Int)) = 5 * (k : Int) := IntWalk.i64_in _ (by omega)
            have t5 : IntKind.i64.wrap (100 + (k : Int)) = 100 + (k : Int) := IntWalk.i64_in _ (by omega)
            obtain ⟨bt, hcv⟩ := conv_one w4 k (by omega)
            have HE4 := hide (OwnS.alloc (unhide HO4) (.cells #[.int .u8 (97 + (k : Int))] 5))
            have HC5 := hide ((unhide HC4).alloc (.cells #[.int .u8 (97 + (k : Int))] 5))
            have HG5 := hide (grown_alloc (unhide HG4) (.cells #[.int .u8 (97 + (k : Int))] 5))
            have hs5 : w.heap.size ≤ (w4.alloc (.cells #[.int .u8 (97 + (k : Int))] 5)).heap.size := by simp; omega
            have hg5 := (unhide HC5).lt
            go_wp2_with (at_builtin; go_must (refine append_sts1 _ rfl _ _ rfl w.heap.size A2 k c2 zs rfl ((unhide HE4).alloc _) (by simp; omega) _ 1 1 _ [⟨(k : Int) + 1, ⟨#[bt]⟩, 5 * (k : Int), 0, 10, 1, 100 + (k : Int), 0⟩] rfl (rs_one (T := 26) (Whl.here' (w4.alloc (.cells #[.int .u8 (97 + (k : Int))] 5)) _ _ (by simp)) (Nat.lt_succ_self _)) (k + 1) rfl (by omega) ?_); intro A6 c6 w6 hO6 hg6)
            have HO6 := hide hO6
            have HC6 := hide (Cur.grown ((unhide HC5).alloc _) hg6 (fun r e => by have := (OwnS.lt (OwnS.alloc (unhide HE4) (.cells #[] 26)) e).1; omega))
            have HG6 := hide (grown_into (grown_alloc (unhide HG5) _) hg6 (fun r e => (OwnS.lt (OwnS.alloc (unhide HE4) (.cells #[] 26)) e).1))
            have HN6 : Hid (∀ x ∈ zs ++ [(⟨(k : Int) + 1, ⟨#[bt]⟩, 5 * (k : Int), 0, 10, 1, 100 + (k : Int), 0⟩ : St)], x.nm.size ≤ 11) := fun x hx => by
              rcases List.mem_append.1 hx with h9 | h9
              · exact unhide hN x h9
              · obtain rfl := List.mem_singleton.1 h9
                show (1 : Nat) ≤ 11
                omega
            clear hO6 hg6 hcv HE4 HC5 HG5
            go_roundw
            case rel => exact ⟨A6, k + 1, c6, _, rfl, by go_num, by omega, HO6, HN6, (unhide HC6).more (by omega), HG6⟩
            case measure => simp [intOf] <;> omega
          · go_wp2_with fail
            go_ret
            exact ⟨A2, k, c2, zs, rfl, unhide HO4, by omega, unhide hN, (unhide HC4).more (by omega), unhide HG4⟩
end Go.Proofs.Ytihkocplgciifaa
