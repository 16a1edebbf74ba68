/- Chapter 1, the walks: the texts that the laws draw. (By gen_drawT.py.) -/
import Derived.Test.YtibnindjdbkmcaaDoorProg
import Derived.Test.YtibnindjdbkmcaaDoorCurT
import Derived.Deep.RegionHeld3
import Derived.Deep.DeepCutAuto
import Derived.Laws.BytesArg
import Derived.WalkSpells
namespace Go.Proofs.YtibnindjdbkmcaaDoor
open Go.RowKit

def T9 : List ByteArray := [⟨#[]⟩, ⟨#[97]⟩, ⟨#[97, 44, 98]⟩, ⟨#[115, 111, 109, 101, 32, 119, 111, 114, 100, 115]⟩, ⟨#[120, 35, 121]⟩, ⟨#[45, 49, 50]⟩, ⟨#[0, 255]⟩, ⟨#[44, 44]⟩, ⟨#[48]⟩]
theorem T9_small : ∀ y ∈ T9, y.size ≤ 10 := by decide
set_option maxRecDepth 100000 in
theorem any1_any (g n c b : Nat) (A : Option Addr) (xs : List Int) (w : World) (h : Cur w g A n c xs b) (hn : n ≤ 1048576) (hb : b ≤ 1000000) :
    Calls Tryd.prog 21 #[.pointer (some ⟨g, 0, none⟩)] w (RetCT w g A n c xs (b + 2) fun y => y.size ≤ 10) := by
  have HC := hide h
  clear h
  go_enter Tryd.func21, Tryd.ntmps21
  go_wp2_with fail
  refine (of_lit g n c b _ A xs w rfl T9 9 _ (fun y => y.size ≤ 10) rfl rfl (by omega) (by omega) T9_small (unhide HC) hn (by omega)).mono ?_
  rintro e w1 ⟨x, rfl, hx, hC, hg⟩
  go_wp2_with fail
  go_ret
  exact ⟨x, rfl, hx, hC, hg⟩
/-- two texts are drawn -/
def RetSS (w : World) (P Q : ByteArray → Prop) (e : Ending) (w' : World) : Prop := ∃ x y : ByteArray, e = .returned (.tuple #[.string x, .string y]) ∧ P x ∧ Q y ∧ Below w.heap.size w w'

set_option maxHeartbeats 2000000 in
set_option maxRecDepth 100000 in
theorem drawSplitString_any (A : Option Addr) (n c : Nat) (xs : List Int) (w : World) (hr : RB w w.heap.size A n xs) (hn : n ≤ 65536) :
    Calls Tryd.prog 11 #[.slice A n c] w (RetSS w (fun y => y.size ≤ 10) fun y => y.size ≤ 10) := by
  have HC := hide (Cur.new c hr)
  clear hr
  go_enter Tryd.func11, Tryd.ntmps11
  go_wp2_with fail
  refine (any1_any w.heap.size n c 0 A xs _ (unhide HC) (by omega) (by omega)).mono ?_
  rintro e w1 ⟨x, rfl, hx, hC, hg⟩
  have HB := hide (below_cur ((Below.refl _ w).alloc (Nat.le_refl _) _) hg (Nat.le_refl _))
  have HC1 := hide hC
  clear hC hg HC
  go_wp2_with fail
  refine (of_lit w.heap.size n c _ _ A xs w1 rfl [⟨#[44]⟩, ⟨#[44]⟩, ⟨#[32]⟩, ⟨#[]⟩, ⟨#[44, 44]⟩] 5 _ (fun y => y.size ≤ 10) rfl rfl (by omega) (by omega) (by decide) (unhide HC1) (by omega) (by omega)).mono ?_
  rintro e w2 ⟨y, rfl, hy, hC, hg⟩
  have HB2 := hide (below_cur (unhide HB) hg (Nat.le_refl _))
  go_wp2_with fail
  go_ret2
  exact ⟨x, y, rfl, hx, hy, unhide HB2⟩
set_option maxHeartbeats 2000000 in
set_option maxRecDepth 100000 in
theorem drawLessString_any (A : Option Addr) (n c : Nat) (xs : List Int) (w : World) (hr : RB w w.heap.size A n xs) (hn : n ≤ 65536) :
    Calls Tryd.prog 15 #[.slice A n c] w (RetSS w (fun _ => True) fun _ => True) := by
  have HC := hide (Cur.new c hr)
  clear hr
  go_enter Tryd.func15, Tryd.ntmps15
  go_wp2_with fail
  refine (any1_any w.heap.size n c 0 A xs _ (unhide HC) (by omega) (by omega)).mono ?_
  rintro e w1 ⟨x, rfl, hx, hC, hg⟩
  have HB := hide (below_cur ((Below.refl _ w).alloc (Nat.le_refl _) _) hg (Nat.le_refl _))
  have HC1 := hide hC
  clear hC hg HC
  go_wp2_with fail
  refine (any1_any w.heap.size n c _ A xs w1 (unhide HC1) (by omega) (by omega)).mono ?_
  rintro e w2 ⟨y, rfl, hy, hC, hg⟩
  have HB2 := hide (below_cur (unhide HB) hg (Nat.le_refl _))
  go_wp2_with fail
  go_ret2
  exact ⟨x, y, rfl, trivial, trivial, unhide HB2⟩

/-- some texts and a text are drawn -/
def RetLS (w : World) (e : Ending) (w' : World) : Prop := ∃ (A' : Option Addr) (n' c' : Nat) (ts : List ByteArray) (y : ByteArray), e = .returned (.tuple #[.slice A' n' c', .string y]) ∧ OwnT w' w.heap.size A' n' c' ts ∧ n' ≤ 4 ∧ (∀ t ∈ ts, t.size ≤ 4010) ∧ y.size ≤ 10 ∧ Below w.heap.size w w'

theorem rt_one1 (w : World) (x : ByteArray) : RT (w.alloc (.cells #[.string x] 9)) (w.heap.size + 1) (some ⟨w.heap.size, 0, none⟩) 1 [x] := Reads.one (cellNew w _ _)
theorem OwnT.gr {w w' : World} {g lo k d : Nat} {ys : List ByteArray} {B : Option Addr} (h : OwnT w lo B k d ys) (hg : w.grownBy w' (some g)) (hl : g < lo) : OwnT w' lo B k d ys := by
  refine World.ownsRow.kept h hg ?_
  rcases hv : (Value.slice B k d).ownBlock with _ | r
  · exact .inl rfl
  · exact .inr fun e => by have := (h.lt hv).1; injection e with e; omega
theorem append_str1 (w : World) {ops : Array Oper} {rest : List Oper} {o : Oper} {a : Act} {Q : Exit → Act → World → Prop} (hgd : o.guard = none) (s x : Operand)
    (ho : o.op = .call { callee := .builtin .append, args := #[s, x], argTypes := #[22, 22] })
    (lo : Nat) (A : Option Addr) (n c : Nat) (xs : List ByteArray) (hs : a.eval s = .slice A n c) (hown : OwnT w lo A n c xs) (hlo : lo ≤ w.heap.size)
    (B : Option Addr) (m c2 L : Nat) (ys : List ByteArray) (hx : a.eval x = .slice B m c2) (hr : RT w L B m ys) (hn : n + m ≤ 1000000000)
    (h : ∀ A' c' w', OwnT w' lo A' (n + m) c' (xs ++ ys) → w.grownBy w' (Value.slice A n c).ownBlock → wpList Tryd.prog ops Q rest (a.put o.dst (.slice A' (n + m) c')) w') : wpList Tryd.prog ops Q (o :: rest) a w := by
  obtain ⟨i0, hi, hz0, hz1, hz2⟩ := info_parts info_string
  exact wpList_append_many w hgd s x 22 ho lo 9 i0 (.string ByteArray.empty) 1 16 Tryd.underlying22 hi hz0 hz1 hz2 rfl (by decide) A n c (cT xs) hs hown L B m c2 (cT ys) hx hr (cT_one ys) (by unfold maxLen; omega) (by omega) hlo
    fun A' c' w' h2 h3 _ => h A' c' w' (by unfold OwnT cT; rw [List.map_append]; exact h2) h3
theorem info_u8 : (Tryd.prog.info? 5).map (fun i => (i.zero, i.size, i.bytes)) = some (some (.int .u8 0), 1, 1) := by kernel_rfl
theorem made_u8 (L i : Nat) (h : i < L) : (madeCells #[Value.int .u8 0] (L * 1)).toList[i]? = some (.int .u8 0) := by
  have h' : i < L * 1 := by omega
  simp only [madeCells, Array.getElem?_toList, Array.getElem?_map, Array.getElem?_range, h', if_true, Option.map_some]
  simp [Nat.mod_one]
/-- the text of a fresh row of zero bytes -/
theorem conv_zero (w : World) (lo g L : Nat) (h : w.ownsRow lo 5 1 (.slice (some ⟨g, 0, none⟩) L L) L (madeCells #[Value.int .u8 0] (L * 1)).toList) :
    (convert 28 9 (.slice (some ⟨g, 0, none⟩) L L)).run Tryd.prog w = .ok (.string (strOfNums (List.replicate L 0))) w :=
  run_convert_bytes_arg w 28 5 Tryd.underlying28 Tryd.underlying5 g 0 L L (List.replicate L 0) (by simp) (fun i hi => by
    rw [Nat.zero_add, World.ownsRow.cellAt h i (by omega), made_u8 L i hi]
    simp [List.getD, hi]) 9 Tryd.underlying9
set_option maxHeartbeats 2000000 in
set_option maxRecDepth 100000 in
theorem drawJoinStrings_any (A : Option Addr) (n c : Nat) (xs : List Int) (w : World) (hr : RB w w.heap.size A n xs) (hn : n ≤ 65536) :
    Calls Tryd.prog 12 #[.slice A n c] w (RetLS w) := by
  have HC := hide (Cur.new c hr)
  clear hr
  go_enter Tryd.func12, Tryd.ntmps12
  go_wp2_with fail
  have HO0 : Hid (OwnT ((w.alloc (.cells #[.slice A n c, .int .i64 0, .int .u64 0] 42)).alloc (.cells #[] 9)) (w.heap.size + 1) (some ⟨w.heap.size + 1, 0, none⟩) 0 0 []) := by
    have h9 := OwnT.empty (lo := w.heap.size + 1) (w.alloc (.cells #[.slice A n c, .int .i64 0, .int .u64 0] 42)) (by simp)
    unfold Hid
    simpa using h9
  have HC0 := hide ((unhide HC).alloc (.cells #[] 9))
  have HB0 : Hid (Below w.heap.size w ((w.alloc (.cells #[.slice A n c, .int .i64 0, .int .u64 0] 42)).alloc (.cells #[] 9))) := ((Below.refl _ w).alloc (Nat.le_refl _) _).alloc (by simp) _
  generalize (w.alloc (.cells #[.slice A n c, .int .i64 0, .int .u64 0] 42)).alloc (.cells #[] 9) = w0 at *
  refine (pick_any w.heap.size n c 0 A xs 4 w0 (unhide HC0) (by omega) (by omega) (by omega) (by omega)).mono ?_
  rintro e w1 ⟨x, rfl, ⟨x0, x1⟩, hC, hg⟩
  obtain ⟨p, rfl⟩ : ∃ k : Nat, x = (k : Int) := ⟨x.toNat, by omega⟩
  have hp : p ≤ 3 := by omega
  have HC1 := hide hC
  have HB1 := hide (below_cur (unhide HB0) hg (Nat.le_refl _))
  have HO1 := hide ((unhide HO0).gr hg (by omega))
  clear hC hg HC HC0 HB0 HO0 x0 x1
  go_wp2_with fail
  go_loopw [5, 7] (fun v i wr => ∃ (k : Nat) (A' : Option Addr) (c' q : Nat) (ts : List ByteArray), k ≤ p ∧ i = .int .i64 k ∧ v = .slice A' k c' ∧ q = 0 + 2 + 2 * k ∧ Hid (OwnT wr (w.heap.size + 1) A' k c' ts) ∧ Hid (∀ t ∈ ts, t.size ≤ 4010) ∧ Hid (Cur wr w.heap.size A n c xs q) ∧ Hid (Below w.heap.size w wr)) (fun _ i _ => p - (intOf i).toNat)
  case atStart => exact ⟨0, _, _, _, [], Nat.zero_le _, rfl, rfl, rfl, HO1, (fun t ht => by cases ht), HC1, HB1⟩
  case round =>
    obtain ⟨k, A', c', q, ts, hk, rfl, rfl, hq, hO, hS, hC, hB⟩ := hrel
    have HQ := hide hq
    have hq9 : q ≤ 10 := by omega
    clear HC1 HB1 HO1 hq
    by_cases hlt : k < p
    · have l1 : (k : Int) < (p : Int) := by omega
      go_wp2_with fail
      refine (any1_any w.heap.size n c q A xs wr (unhide hC) (by omega) (by omega)).mono ?_
      rintro e w2 ⟨y, rfl, hy, hC2, hg⟩
      have HC2 := hide hC2
      have HB2 := hide (below_cur (unhide hB) hg (Nat.le_refl _))
      have HO2 := hide ((unhide hO).gr hg (by omega))
      have hls := (unhide HB2).size
      have hcl := hC2.lt
      clear hC2 hg hO hC hB
      have HO3 := hide ((unhide HO2).alloc (.cells #[.string y] 9))
      have HB3 := hide ((unhide HB2).alloc hls (.cells #[.string y] 9))
      have HC3 := hide ((unhide HC2).alloc (.cells #[.string y] 9))
      go_wp2_with (at_builtin; go_must (refine append_str1 _ rfl _ _ rfl (w.heap.size + 1) A' k c' ts rfl (unhide HO3) (by simp; omega) _ 1 1 _ [y] rfl (rt_one1 w2 y) (by omega) ?_); intro A3 c3 w3 hO3 hg3)
      have HO4 := hide hO3
      have HB4 := hide ((unhide HO3).grow (unhide HB3) (by omega) (by simp; omega) hg3)
      have HC4 := hide ((unhide HC3).grown hg3 fun r e => by have := ((unhide HO3).lt e).1; omega)
      have HS4 : Hid (∀ t ∈ ts ++ [y], t.size ≤ 4010) := fun t ht => by
        rcases List.mem_append.1 ht with h9 | h9
        · exact unhide hS t h9
        · obtain rfl : t = y := by simpa using h9
          omega
      clear hO3 hg3 HO3 HB3 HC3 HO2 HB2 HC2 hS
      go_wp2_with fail
      go_roundw
      case rel => exact ⟨k + 1, A3, c3, q + 2, ts ++ [y], by omega, by go_num, rfl, by have := unhide HQ; omega, HO4, HS4, HC4, HB4⟩
      case measure => simp [intOf]; omega
    · obtain rfl : k = p := by omega
      have l1 : ¬ (k : Int) < (k : Int) := by omega
      clear HQ hlt hk
      go_wp2_with fail
      refine (one_any w.heap.size n c q A xs 20 wr (unhide hC) (by omega) (by omega) (by omega) (by omega)).mono ?_
      rintro e w2 ⟨b, rfl, hC2, hg⟩
      have HC2 := hide hC2
      have HB2 := hide (below_cur (unhide hB) hg (Nat.le_refl _))
      have HO2 := hide ((unhide hO).gr hg (by omega))
      clear hC2 hg hO hC hB
      rcases b with _ | _
      · go_wp2_with fail
        refine (of_lit w.heap.size n c _ _ A xs w2 rfl [⟨#[44]⟩, ⟨#[59]⟩, ⟨#[59]⟩, ⟨#[]⟩, ⟨#[97, 98]⟩] 5 _ (fun y => y.size ≤ 10) rfl rfl (by omega) (by omega) (by decide) (unhide HC2) (by omega) (by omega)).mono ?_
        rintro e w9 ⟨y, rfl, hy, hC9, hg⟩
        have HB9 := hide (below_cur (unhide HB2) hg (Nat.le_refl _))
        have HO9 := hide ((unhide HO2).gr hg (by omega))
        clear hC9 hg
        go_wp2_with fail
        go_ret2
        exact ⟨_, _, _, _, y, rfl, OwnT.less (unhide HO9) (by omega), by omega, unhide hS, hy, unhide HB9⟩
      · go_wp2_with fail
        refine (pick_any w.heap.size n c _ A xs 20 w2 (unhide HC2) (by omega) (by omega) (by omega) (by omega)).mono ?_
        rintro e w3 ⟨z, rfl, ⟨z0, z1⟩, hC3, hg⟩
        obtain ⟨zn, rfl⟩ : ∃ k : Nat, z = (k : Int) := ⟨z.toNat, by omega⟩
        have hz : zn ≤ 19 := by omega
        have HC3 := hide hC3
        have HB3 := hide (below_cur (unhide HB2) hg (Nat.le_refl _))
        have HO3 := hide ((unhide HO2).gr hg (by omega))
        have hcl := hC3.lt
        clear hC3 hg HC2 HB2 HO2 z0 z1
        obtain ⟨i0, hi, hz0, hz1, hz2⟩ := info_parts info_u8
        go_wp2_with (first
          | (at_make; refine wpList_make_full _ rfl _ _ 28 rfl (w.heap.size + 1) 5 i0 (.int .u8 0) 1 Tryd.underlying28 hi hz0 hz1 _ _ _ _ (3990 + zn) rfl rfl (by push_cast; rfl) (by push_cast; rfl) (by rw [hz2]; omega) (by unfold maxLen; omega) (by omega) ?_; intro w4 hown4 hg4; have hcv := conv_zero w4 _ _ _ hown4; have HC4 := hide ((unhide HC3).grown hg4 fun r e => by cases e); have HB4 := hide ((unhide HB3).grown hg4 (unhide HB3).size fun r e => by cases e); have HO4 : Hid (OwnT w4 (w.heap.size + 1) A' k c' ts) := hide (World.ownsRow.kept (unhide HO3) hg4 (Classical.em _)); clear hown4 hg4)
          | (at_builtin; refine append_str1 _ rfl _ _ rfl (w.heap.size + 1) A' k c' ts rfl (OwnT.alloc (unhide HO4) _) ?_ _ 1 1 _ [strOfNums (List.replicate (3990 + zn) 0)] rfl (rt_one1 w4 _) (by omega) ?_; (have := (unhide HB4).size; have := (unhide HC4).lt; simp; omega); intro A5 c5 w5 hO5 hg5))
        have HO5 := hide hO5
        have HB5 := hide (((unhide HO4).alloc (.cells #[.string (strOfNums (List.replicate (3990 + zn) 0))] 9)).grow ((unhide HB4).alloc (unhide HB4).size _) (by omega) (by have := (unhide HB4).size; simp; omega) hg5)
        have HC5 := hide (((unhide HC4).alloc (.cells #[.string (strOfNums (List.replicate (3990 + zn) 0))] 9)).grown hg5 fun r e => by have := ((OwnT.alloc (unhide HO4) (.cells #[.string (strOfNums (List.replicate (3990 + zn) 0))] 9)).lt e).1; omega)
        have HS5 : Hid (∀ t ∈ ts ++ [strOfNums (List.replicate (3990 + zn) 0)], t.size ≤ 4010) := fun t ht => by
          rcases List.mem_append.1 ht with h9 | h9
          · exact unhide hS t h9
          · obtain rfl : t = strOfNums (List.replicate (3990 + zn) 0) := by simpa using h9
            rw [strOfNums_size, List.length_replicate]
            omega
        clear hO5 hg5 HO4 HB4 HC4 hcv HO3 HB3 HC3
        refine (of_lit w.heap.size n c _ _ A xs w5 rfl [⟨#[44]⟩, ⟨#[59]⟩, ⟨#[59]⟩, ⟨#[]⟩, ⟨#[97, 98]⟩] 5 _ (fun y => y.size ≤ 10) rfl rfl (by omega) (by omega) (by decide) (unhide HC5) (by omega) (by omega)).mono ?_
        rintro e w9 ⟨y, rfl, hy, hC9, hg⟩
        have HB9 := hide (below_cur (unhide HB5) hg (Nat.le_refl _))
        have HO9 := hide ((unhide HO5).gr hg (by omega))
        clear hC9 hg
        go_wp2_with fail
        go_ret2
        exact ⟨_, _, _, _, y, rfl, OwnT.less (unhide HO9) (by omega), by omega, unhide HS5, hy, unhide HB9⟩
end Go.Proofs.YtibnindjdbkmcaaDoor
