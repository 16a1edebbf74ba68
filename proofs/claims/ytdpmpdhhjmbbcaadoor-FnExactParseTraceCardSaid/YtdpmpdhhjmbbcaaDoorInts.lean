/- The walks of the four helpers of the laws on slices of ints: a copy, equality, marks written, marks held. -/
import Derived.Test.YtdpmpdhhjmbbcaaDoorProg
import Derived.Test.YtdpmpdhhjmbbcaaDoorWords
import Derived.WalkKit
import Derived.WalkSpells
import Derived.WalkLawsBesides
import Derived.Deep.LoopGhost
import Derived.Deep.QuietTactic
import Derived.BigQuiet
import Derived.Outline
import Derived.KernelRfl
namespace Go.Proofs.YtdpmpdhhjmbbcaaDoor
open Go.RowKit

theorem info_int : (Tryd.prog.info? 3).map (fun i => (i.zero, i.size, i.bytes)) = some (some (.int .i64 0), 1, 8) := by kernel_rfl

/-- 'out = append(out, y)' at a fresh slice of ints, y in the new cell that the walk has laid -/
theorem append_int (w : World) {ops : Array Oper} {rest : List Oper} {o : Oper} {a : Act} {Q : Exit → Act → World → Prop} (hgd : o.guard = none) (s x : Operand)
    (ho : o.op = .call { callee := .builtin .append, args := #[s, x], argTypes := #[22, 22] })
    (w0 : World) (A : Option Addr) (n c : Nat) (xs : List Int) (hs : a.eval s = .slice A n c) (hown : OwnI w w0.heap.size A n c xs) (hb : Below w0.heap.size w0 w)
    (ad : Addr) (y : Int) (hx : a.eval x = .slice (some ad) 1 1) (hc : w.cell? ad = some (.int .i64 y)) (hn : n ≤ 1000000000)
    (h : ∀ A' c' w', OwnI w' w0.heap.size A' (n + 1) c' (xs ++ [y]) → Below w0.heap.size w0 w' → wpList Tryd.prog ops Q rest (a.put o.dst (.slice A' (n + 1) c')) w') : wpList Tryd.prog ops Q (o :: rest) a w := by
  obtain ⟨i0, hi, hz0, hz1, hz2⟩ := info_parts info_int
  exact wpList_append_many w hgd s x 22 ho w0.heap.size 3 i0 (.int .i64 0) 1 8 Tryd.underlying22 hi hz0 hz1 hz2 rfl (by decide) A n c (cI xs) hs hown _ (some ad) 1 1 _ hx (Reads.one hc) (cI_one [y]) (by unfold maxLen; omega) (by omega) hb.size
    fun A' c' w' h2 h3 _ => h A' c' w' (by unfold OwnI cI; rw [List.map_append]; exact h2) (hown.grow hb (Nat.le_refl _) hb.size h3)

/-- the same at a step of a region that draws its order -/
theorem step_append_int (w : World) {ops : Array Oper} {o : Oper} {a : Act} {K : Act → World → Prop} {Q : Exit → Act → World → Prop} {E : Prop} (hw : Region.wanted o (yielded ops a.tmps) = true) (s x : Operand)
    (ho : o.op = .call { callee := .builtin .append, args := #[s, x], argTypes := #[22, 22] })
    (w0 : World) (A : Option Addr) (n c : Nat) (xs : List Int) (hs : a.eval s = .slice A n c) (hown : OwnI w w0.heap.size A n c xs) (hb : Below w0.heap.size w0 w)
    (ad : Addr) (y : Int) (hx : a.eval x = .slice (some ad) 1 1) (hc : w.cell? ad = some (.int .i64 y)) (hn : n ≤ 1000000000)
    (h : ∀ A' c' w', OwnI w' w0.heap.size A' (n + 1) c' (xs ++ [y]) → Below w0.heap.size w0 w' → K (a.put o.dst (.slice A' (n + 1) c')) w') : if Region.wanted o (yielded ops a.tmps) = true then Oper.wp Tryd.prog o a w K Q else E := by
  obtain ⟨i0, hi, hz0, hz1, hz2⟩ := info_parts info_int
  exact step_append_many w hw s x 22 ho w0.heap.size 3 i0 (.int .i64 0) 1 8 Tryd.underlying22 hi hz0 hz1 hz2 rfl (by decide) A n c (cI xs) hs hown _ (some ad) 1 1 _ hx (Reads.one hc) (cI_one [y]) (by unfold maxLen; omega) (by omega) hb.size
    fun A' c' w' h2 h3 _ => h A' c' w' (by unfold OwnI cI; rw [List.map_append]; exact h2) (hown.grow hb (Nat.le_refl _) hb.size h3)

/-- 'out = append(out, more...)' at a fresh slice of ints -/
theorem append_ints (w : World) {ops : Array Oper} {rest : List Oper} {o : Oper} {a : Act} {Q : Exit → Act → World → Prop} (hgd : o.guard = none) (s x : Operand)
    (ho : o.op = .call { callee := .builtin .append, args := #[s, x], argTypes := #[22, 22] })
    (w0 : World) (A : Option Addr) (n c : Nat) (xs : List Int) (hs : a.eval s = .slice A n c) (hown : OwnI w w0.heap.size A n c xs) (hb : Below w0.heap.size w0 w)
    (B : Option Addr) (m c2 L : Nat) (ys : List Int) (hx : a.eval x = .slice B m c2) (hr : RI w L B m ys) (hn : n + m ≤ 1000000000)
    (h : ∀ A' c' w', OwnI w' w0.heap.size A' (n + m) c' (xs ++ ys) → Below w0.heap.size w0 w' → w.grownBy w' (Value.slice A n c).ownBlock → ((Value.slice A' (n + m) c').ownBlock = (Value.slice A n c).ownBlock ∨ (Value.slice A' (n + m) c').ownBlock = some w.heap.size) → wpList Tryd.prog ops Q rest (a.put o.dst (.slice A' (n + m) c')) w') : wpList Tryd.prog ops Q (o :: rest) a w := by
  obtain ⟨i0, hi, hz0, hz1, hz2⟩ := info_parts info_int
  exact wpList_append_many w hgd s x 22 ho w0.heap.size 3 i0 (.int .i64 0) 1 8 Tryd.underlying22 hi hz0 hz1 hz2 rfl (by decide) A n c (cI xs) hs hown L B m c2 (cI ys) hx hr (cI_one ys) (by unfold maxLen; omega) (by omega) hb.size
    fun A' c' w' h2 h3 h4 => h A' c' w' (by unfold OwnI cI; rw [List.map_append]; exact h2) (hown.grow hb (Nat.le_refl _) hb.size h3) h3 h4

/-- A fresh slice of the numbers ys comes back; what was there stays. -/
def RetI (w : World) (ys : List Int) (e : Ending) (w' : World) : Prop := ∃ A n c, e = .returned (.slice A n c) ∧ OwnI w' w.heap.size A n c ys ∧ Below w.heap.size w w'

/-- The same beside a bool. -/
def RetIB (w : World) (ys : List Int) (b : Bool) (e : Ending) (w' : World) : Prop := ∃ A n c, e = .returned (.tuple #[.slice A n c, .bool b]) ∧ OwnI w' w.heap.size A n c ys ∧ Below w.heap.size w w'

theorem copy_step (xs : List Int) (n k : Nat) (hl : xs.length = n) (hk : k < n) : (xs.take k ++ List.replicate (n - k) (0 : Int)).set k (xs.getD k 0) = xs.take (k + 1) ++ List.replicate (n - (k + 1)) 0 := by
  have e : n - k = (n - (k + 1)) + 1 := by omega
  rw [List.set_append_right _ _ (by simp; omega), e, List.replicate_succ]
  have e2 : k - (List.take k xs).length = 0 := by simp; omega
  rw [e2]
  have hx : xs.getD k 0 = xs[k]'(by omega) := by simp [List.getElem?_eq_getElem (show k < xs.length by omega)]
  rw [hx, List.set_cons_zero, List.take_succ_eq_append_getElem (by omega), List.append_assoc]
  rfl

set_option maxHeartbeats 400000 in
theorem toIntS_any (A : Option Addr) (n c : Nat) (xs : List Int) (w : World) (hr : RI w w.heap.size A n xs) (hn : n ≤ 1048576) :
    Calls Tryd.prog 17 #[.slice A n c] w (RetI w xs) := by
  obtain ⟨i0, hi, hz0, hz1, hz2⟩ := info_parts info_int
  have HR := hide hr; clear hr
  go_enter Tryd.func17, Tryd.ntmps17
  go_wp2_with (at_make; refine wpList_make_full _ rfl _ _ 22 rfl w.heap.size 3 i0 (.int .i64 0) 1 Tryd.underlying22 hi hz0 hz1 _ _ _ _ n rfl rfl rfl rfl (by rw [hz2]; omega) (by unfold maxLen; omega) (Nat.le_refl _) ?_)
  intro w1 hown hg
  have HO := hide hown; have HG := hide hg; clear hown hg
  go_wp2
  go_loopw [4] (fun i wr => ∃ k : Nat, k ≤ n ∧ i = .int .i64 k ∧ Hid (OwnI wr w.heap.size (some ⟨w.heap.size, 0, none⟩) n n (xs.take k ++ List.replicate (n - k) 0)) ∧ Hid (Below w.heap.size w wr)) (fun i _ => n - (intOf i).toNat)
  case atStart =>
    refine ⟨0, Nat.zero_le _, rfl, ?_, hide ((Below.refl _ _).grown (unhide HG) (Nat.le_refl _) (by simp))⟩
    have := unhide HO
    unfold OwnI cI Hid
    rw [toList_madeCells_one] at this
    simpa using this
  case round =>
    obtain ⟨k, hk, rfl, hO, hB⟩ := hrel
    by_cases hlt : k < n
    · obtain ⟨ad, rfl, hb, hc⟩ := ((unhide HR).below (unhide hB)).at_ hlt
      obtain ⟨g, hg, hlo, hgl, hc2, hfz, hO2, hgr⟩ := OwnI.store (unhide hO) hlt (xs.getD k 0)
      obtain rfl : w.heap.size = g := by simpa using hg
      have hB2 := hide ((unhide hB).setCell (p := ⟨w.heap.size, k, none⟩) (Nat.le_refl _) (.int .i64 (xs.getD k 0)))
      rw [copy_step xs n k (unhide HR).len hlt] at hO2
      have HO2 := hide hO2
      clear hO2 hgr hg
      go_wp2
      go_roundw
      case rel => exact ⟨k + 1, by omega, by go_num, HO2, hB2⟩
      case measure => simp [intOf]; omega
    · go_wp2
      go_ret
      have e : k = n := by omega
      subst e
      have e2 : xs.take k ++ List.replicate (k - k) 0 = xs := by
        rw [List.take_of_length_le (by rw [(unhide HR).len]; exact Nat.le_refl _)]
        simp
      rw [e2] at hO
      exact ⟨_, _, _, rfl, unhide hO, unhide hB⟩

/-- eqIntS says whether two lists of numbers are one list; it writes nothing. -/
theorem eqIntS_any (A B : Option Addr) (n m c d L M : Nat) (xs ys : List Int) (w : World) (hx : RI w L A n xs) (hy : RI w M B m ys) (hn : n ≤ 9223372036854775807) (hm : m ≤ 9223372036854775807) :
    Calls Tryd.prog 20 #[.slice A n c, .slice B m d] w fun e w' => e = .returned (.bool (xs == ys)) ∧ Below w.heap.size w w' := by
  have hlx := hx.len
  have hly := hy.len
  by_cases hnm : n = m
  · subst hnm
    have HX := hide hx; have HY := hide hy; have HLX := hide hlx; have HLY := hide hly; clear hx hy hlx hly
    go_enter Tryd.func20, Tryd.ntmps20
    go_wp2
    go_loopw [5] (fun i wr => ∃ k : Nat, k ≤ n ∧ i = .int .i64 k ∧ Hid (xs.take k = ys.take k) ∧ Hid (∃ a, wr = w.drewN a)) (fun i _ => n - (intOf i).toNat)
    case atStart => exact ⟨0, Nat.zero_le _, rfl, rfl, 0, rfl⟩
    case round =>
      obtain ⟨k, hk, rfl, hE, a, rfl⟩ := hrel
      by_cases hlt : k < n
      · obtain ⟨ad, x, rfl, _, hx, hc⟩ := (unhide HX).get hlt
        obtain ⟨ae, y, rfl, _, hy, hd⟩ := (unhide HY).get hlt
        by_cases hv : x = y
        · subst hv
          have ht : (x != x) = false := by simp
          have HE2 : Hid (xs.take (k + 1) = ys.take (k + 1)) := by
            unfold Hid
            rw [List.take_add_one, List.take_add_one, unhide hE, unhide hx, unhide hy]
          clear hE hx hy
          go_wp2
          go_quiet (fail)
          go_wp2
          go_roundw
          case rel => exact ⟨k + 1, by omega, by go_num, HE2, _, rfl⟩
          case measure => simp [intOf]; omega
        · have ht : (x != y) = true := by simpa using hv
          have HV : Hid (xs ≠ ys) := by
            intro e
            subst e
            have := (unhide hx).symm.trans (unhide hy)
            exact hv (by simpa using this)
          clear hx hy hE hv
          go_wp2
          go_quiet (fail)
          go_wp2
          go_ret
          exact ⟨by simpa using unhide HV, below_drewN (below_drewN (Below.refl _ _) _) _⟩
      · have e : k = n := by omega
        subst e
        have HV : Hid (xs = ys) := by
          have := unhide hE
          rwa [List.take_of_length_le (by have := unhide HLX; omega), List.take_of_length_le (by have := unhide HLY; omega)] at this
        go_wp2
        go_ret
        exact ⟨by simpa using unhide HV, below_drewN (Below.refl _ _) _⟩
  · have HV : Hid (xs ≠ ys) := by
      intro e
      subst e
      omega
    have ht : ((n : Int) != (m : Int)) = true := by simp; omega
    clear hx hy hlx hly
    go_enter Tryd.func20, Tryd.ntmps20
    go_wp2
    go_ret
    exact ⟨by simpa using unhide HV, Below.refl _ _⟩
/-- The n numbers from k on. -/
def marks (k : Int) (n : Nat) : List Int := (List.range n).map fun (i : Nat) => k + (i : Int)
theorem marks_get (k : Int) (n i : Nat) (h : i < n) : (marks k n)[i]? = some (k + (i : Int)) := by simp [marks, h]
theorem marks_len (k : Int) (n : Nat) : (marks k n).length = n := by simp [marks]
theorem mark_step (k : Int) (xs : List Int) (n i : Nat) (hl : xs.length = n) (hi : i < n) : (marks k i ++ xs.drop i).set i (k + (i : Int)) = marks k (i + 1) ++ xs.drop (i + 1) := by
  rw [List.set_append_right _ _ (by rw [marks_len]; omega), marks_len, Nat.sub_self, List.drop_eq_getElem_cons (by omega), List.set_cons_zero]
  simp [marks, List.range_succ]

set_option maxHeartbeats 400000 in
theorem markIntS_any (A : Option Addr) (n c lo : Nat) (xs : List Int) (k0 : Int) (w : World) (h : OwnI w lo A n c xs) (hn : n ≤ 2097152) (h0 : 0 ≤ k0) (h1 : k0 ≤ 1000000000000) :
    Calls Tryd.prog 27 #[.slice A n c, .int .i64 k0] w fun e w' => e = .returned (.int .i64 (k0 + n)) ∧ OwnI w' lo A n c (marks k0 n) ∧ w.grownBy w' (Value.slice A n c).ownBlock := by
  have HO := hide h; clear h
  go_enter Tryd.func27, Tryd.ntmps27
  go_wp2
  go_loopw [1, 5] (fun q i wr => ∃ k : Nat, k ≤ n ∧ i = .int .i64 k ∧ q = .int .i64 (k0 + k) ∧ Hid (OwnI wr lo A n c (marks k0 k ++ xs.drop k)) ∧ Hid (w.grownBy wr (Value.slice A n c).ownBlock)) (fun _ i _ => n - (intOf i).toNat)
  case atStart => exact ⟨0, Nat.zero_le _, rfl, by simp, by simpa [marks, Hid] using unhide HO, World.grownBy.refl _ _⟩
  case round =>
    obtain ⟨k, hk, rfl, rfl, hO, hG⟩ := hrel
    by_cases hlt : k < n
    · obtain ⟨g, rfl, hlo, hgl, hc2, hfz, hO2, hgr⟩ := OwnI.store (unhide hO) hlt (k0 + k)
      rw [mark_step k0 xs n k (unhide HO).len hlt] at hO2
      have HO2 := hide hO2
      have HG2 := hide (grownBy_trans (unhide hG) hgr)
      clear hO2 hgr hO hG
      go_wp2
      go_roundw
      case rel => exact ⟨k + 1, by omega, by go_num, by go_num, HO2, HG2⟩
      case measure => simp [intOf]; omega
    · have e : k = n := by omega
      subst e
      go_wp2
      go_ret
      refine ⟨rfl, ?_, unhide hG⟩
      have := unhide hO
      rwa [List.drop_of_length_le (by have := (unhide HO).len; omega), List.append_nil] at this

theorem heldIntS_any (A : Option Addr) (n c L : Nat) (k0 : Int) (w : World) (h : RI w L A n (marks k0 n)) (hn : n ≤ 2097152) (h0 : 0 ≤ k0) (h1 : k0 ≤ 1000000000000) :
    Calls Tryd.prog 28 #[.slice A n c, .int .i64 k0] w fun e w' => e = .returned (.int .i64 (k0 + n)) ∧ w = w' := by
  have HR := hide h; clear h
  go_enter Tryd.func28, Tryd.ntmps28
  go_wp2
  go_loop [1, 5] (fun q i => ∃ k : Nat, k ≤ n ∧ i = .int .i64 k ∧ q = .int .i64 (k0 + k)) (fun _ i => n - (intOf i).toNat)
  case atStart => exact ⟨0, Nat.zero_le _, rfl, by simp⟩
  case round =>
    obtain ⟨k, hk, rfl, rfl⟩ := hrel
    by_cases hlt : k < n
    · obtain ⟨ad, x, rfl, _, hx, hc⟩ := (unhide HR).get hlt
      have e : x = k0 + k := by
        have := unhide hx
        rw [marks_get _ _ _ hlt] at this
        exact (Option.some.inj this).symm
      clear hx
      subst e
      have ht : (k0 + (k : Int) != k0 + (k : Int)) = false := by simp
      go_wp2
      go_round
      case rel => exact ⟨k + 1, by omega, by go_num, by go_num⟩
      case measure => simp [intOf]; omega
    · have e : k = n := by omega
      subst e
      go_wp2
      go_ret
      exact ⟨rfl, rfl⟩
end Go.Proofs.YtdpmpdhhjmbbcaaDoor
