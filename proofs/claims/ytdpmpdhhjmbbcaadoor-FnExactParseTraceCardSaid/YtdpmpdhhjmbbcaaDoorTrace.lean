/- The walks of the laws' helpers on traces: a copy, the size, equality, marks. -/
import Derived.Test.YtdpmpdhhjmbbcaaDoorProg
import Derived.Test.YtdpmpdhhjmbbcaaDoorPreds
namespace Go.Proofs.YtdpmpdhhjmbbcaaDoor
open Go.RowKit

/-- a trace as a value -/
def tv (a b : Int) (A : Option Addr) (n c : Nat) : Value := .agg #[.int .i64 a, .int .i64 b, .slice A n c]
/-- A trace with fresh samples ys comes back. -/
def RetTr (w : World) (a b : Int) (ys : List Int) (e : Ending) (w' : World) : Prop := ∃ A n c, e = .returned (.agg #[.int .i64 a, .int .i64 b, .slice A n c]) ∧ OwnI w' w.heap.size A n c ys ∧ Below w.heap.size w w'

set_option maxHeartbeats 1000000 in
theorem toTrace_any (a b : Int) (A : Option Addr) (n c : Nat) (xs : List Int) (w : World) (hr : RI w w.heap.size A n xs) (hn : n ≤ 1048576) :
    Calls Tryd.prog 7 #[.agg #[.int .i64 a, .int .i64 b, .slice A n c]] w (RetTr w a b xs) := by
  have HC := hide (fun (W : World) (h : RI W W.heap.size A n xs) => toIntS_any A n c xs W h hn)
  have HR := hide hr
  clear hr
  go_enter Tryd.func7, Tryd.ntmps7
  go_wp2_with fail
  refine (unhide HC _ (((((((unhide HR).alloc (Nat.le_refl _) _).more (by simp)).alloc (Nat.le_refl _) _).more (by simp)).alloc (Nat.le_refl _) _).more (by simp))).mono ?_
  rintro e w1 ⟨A1, n1, c1, rfl, hO, hB⟩
  obtain ⟨hcc, hff⟩ := bcell hB
  have hz : w.heap.size + 1 + 1 + 1 ≤ w1.heap.size := by have := hB.size; simp at this; omega
  have HO := hide (hO.less (show w.heap.size + 1 + 1 + 1 ≤ _ by simp))
  have HB := hide ((((((Below.refl _ w).alloc (Nat.le_refl _) _).alloc (by simp) _).alloc (by simp <;> omega) _).trans (hB.mono (by simp <;> omega))))
  clear hO hB
  go_wp2
  refine bodyPost_ret (v := .agg #[.int .i64 a, .int .i64 b, .slice A1 n1 c1]) (by simp [results, Tryd.results7, go_sem, hcc, hz]) rfl ?_
  exact ⟨A1, n1, c1, rfl, (((((unhide HO).setB (by simp <;> omega) _).setB (by simp <;> omega) _).setB (by simp <;> omega) _).setB (by simp <;> omega) _).less (by omega),
    ((((unhide HB).setCell (by simp <;> omega) _).setCell (by simp) _).setCell (by simp) _).setCell (by simp) _⟩

/-- what is left of a size -/
def szI (left : Int) (n : Nat) : Int := if left - n < 0 then -1 else left - n
theorem szIntS_any (A : Option Addr) (n c : Nat) (left : Int) (w : World) (h0 : 0 ≤ left) (h1 : left ≤ 1048576) (hn : n ≤ 9223372036854775807) :
    Calls Tryd.prog 14 #[.slice A n c, .int .i64 left] w fun e w' => e = .returned (.int .i64 (szI left n)) ∧ w = w' := by
  by_cases h : left - n < 0
  · have e : Hid (szI left n = -1) := by unfold Hid szI; rw [if_pos h]
    go_enter Tryd.func14, Tryd.ntmps14
    go_wp2
    go_ret
    exact ⟨ret_int (unhide e).symm, rfl⟩
  · have e : Hid (szI left n = left - n) := by unfold Hid szI; rw [if_neg h]
    go_enter Tryd.func14, Tryd.ntmps14
    go_wp2
    go_ret
    exact ⟨ret_int (unhide e).symm, rfl⟩

theorem szTrace_any (a b : Int) (A : Option Addr) (n c : Nat) (left : Int) (w : World) (h0 : 0 ≤ left) (h1 : left ≤ 1048576) (hn : n ≤ 9223372036854775807) :
    Calls Tryd.prog 5 #[.agg #[.int .i64 a, .int .i64 b, .slice A n c], .int .i64 left] w fun e w' => e = .returned (.int .i64 (szI left n)) ∧ Below w.heap.size w w' := by
  have HC := hide (fun W => szIntS_any A n c left W h0 h1 hn)
  by_cases h : szI left n < 0
  · have e : Hid (szI left n = -1) := by unfold Hid; unfold szI at h ⊢; split <;> omega
    generalize szI left n = z at *
    go_enter Tryd.func5, Tryd.ntmps5
    go_wp2_with (go_at_call 14; refine (unhide HC _).mono ?_; rintro e w1 ⟨rfl, rfl⟩)
    go_ret
    exact ⟨ret_int (unhide e).symm, (Below.refl _ _).alloc (Nat.le_refl _) _⟩
  · generalize szI left n = z at *
    go_enter Tryd.func5, Tryd.ntmps5
    go_wp2_with (go_at_call 14; refine (unhide HC _).mono ?_; rintro e w1 ⟨rfl, rfl⟩)
    go_ret
    exact ⟨rfl, (Below.refl _ _).alloc (Nat.le_refl _) _⟩

set_option maxHeartbeats 1000000 in
theorem eqTrace_any (a b a' b' : Int) (A B : Option Addr) (n m c d : Nat) (xs ys : List Int) (w : World) (hx : RI w w.heap.size A n xs) (hy : RI w w.heap.size B m ys) (hn : n ≤ 9223372036854775807) (hm : m ≤ 9223372036854775807) :
    Calls Tryd.prog 9 #[.agg #[.int .i64 a, .int .i64 b, .slice A n c], .agg #[.int .i64 a', .int .i64 b', .slice B m d]] w fun e w' => e = .returned (.bool (a == a' && b == b' && xs == ys)) ∧ Below w.heap.size w w' := by
  by_cases h1 : a = a'
  · subst h1
    by_cases h2 : b = b'
    · subst h2
      have HC := hide (eqIntS_any A B n m c d _ _ xs ys _ ((hx.alloc (Nat.le_refl _) (.cells #[.int .i64 a, .int .i64 b, .slice A n c] 28)).alloc (by simp) (.cells #[.int .i64 a, .int .i64 b, .slice B m d] 28)) ((hy.alloc (Nat.le_refl _) (.cells #[.int .i64 a, .int .i64 b, .slice A n c] 28)).alloc (by simp) (.cells #[.int .i64 a, .int .i64 b, .slice B m d] 28)) hn hm)
      clear hx hy
      have ea : (a != a) = false := by simp
      have eb : (b != b) = false := by simp
      have er : Hid ((a == a && b == b && xs == ys) = (xs == ys)) := by unfold Hid; simp
      generalize (a == a && b == b && xs == ys) = r at *
      cases hq : (xs == ys)
      all_goals
        rw [hq] at HC er
        go_enter Tryd.func9, Tryd.ntmps9
        go_wp2_with (go_at_call 20; refine (unhide HC).mono ?_; rintro e w1 ⟨rfl, hb⟩; have HB := hide hb; clear hb)
        go_ret
        exact ⟨ret_bool (unhide er).symm, (((Below.refl _ w).alloc (Nat.le_refl _) _).alloc (by simp) _).trans ((unhide HB).mono (by simp <;> omega))⟩
    · have eb : (b != b') = true := by simpa using h2
      have ea : (a != a) = false := by simp
      have er : Hid ((a == a && b == b' && xs == ys) = false) := by unfold Hid; simp [h2]
      clear hx hy h2
      generalize (a == a && b == b' && xs == ys) = r at *
      go_enter Tryd.func9, Tryd.ntmps9
      go_wp2_with fail
      go_ret
      exact ⟨ret_bool (unhide er).symm, ((Below.refl _ w).alloc (Nat.le_refl _) _).alloc (by simp) _⟩
  · have ea : (a != a') = true := by simpa using h1
    have er : Hid ((a == a' && b == b' && xs == ys) = false) := by unfold Hid; simp [h1]
    clear hx hy h1
    generalize (a == a' && b == b' && xs == ys) = r at *
    go_enter Tryd.func9, Tryd.ntmps9
    go_wp2_with fail
    go_ret
    exact ⟨ret_bool (unhide er).symm, ((Below.refl _ w).alloc (Nat.le_refl _) _).alloc (by simp) _⟩

theorem markTrace_any (a b : Int) (A : Option Addr) (n c lo : Nat) (xs : List Int) (k0 : Int) (w : World) (h : OwnI w lo A n c xs) (hn : n ≤ 2097152) (h0 : 0 ≤ k0) (h1 : k0 ≤ 1000000000000) :
    Calls Tryd.prog 12 #[.agg #[.int .i64 a, .int .i64 b, .slice A n c], .int .i64 k0] w fun e w' => e = .returned (.int .i64 (k0 + n)) ∧ OwnI w' lo A n c (marks k0 n) ∧ w.grownBy w' (Value.slice A n c).ownBlock := by
  have HC := hide (fun (o : Obj) => markIntS_any A n c lo xs k0 _ (h.alloc o) hn h0 h1)
  have HG := hide (fun (o : Obj) => World.grownBy_alloc w o (Value.slice A n c).ownBlock)
  clear h
  go_enter Tryd.func12, Tryd.ntmps12
  go_wp2_with (go_at_call 27; refine (unhide HC _).mono ?_; rintro e w1 ⟨rfl, hO, hg⟩; have HO := hide hO; have HG2 := hide hg; clear hO hg)
  go_ret
  exact ⟨rfl, unhide HO, grownBy_trans (unhide HG _) (unhide HG2)⟩

theorem heldTrace_any (a b : Int) (A : Option Addr) (n c : Nat) (k0 : Int) (w : World) (h : RI w w.heap.size A n (marks k0 n)) (hn : n ≤ 2097152) (h0 : 0 ≤ k0) (h1 : k0 ≤ 1000000000000) :
    Calls Tryd.prog 13 #[.agg #[.int .i64 a, .int .i64 b, .slice A n c], .int .i64 k0] w fun e w' => e = .returned (.int .i64 (k0 + n)) ∧ Below w.heap.size w w' := by
  have HC := hide (fun (o : Obj) => heldIntS_any A n c w.heap.size k0 _ (h.alloc (Nat.le_refl _) o) hn h0 h1)
  clear h
  go_enter Tryd.func13, Tryd.ntmps13
  go_wp2_with (go_at_call 28; refine (unhide HC _).mono ?_; rintro e w1 ⟨rfl, rfl⟩)
  go_ret
  exact ⟨rfl, (Below.refl _ _).alloc (Nat.le_refl _) _⟩
end Go.Proofs.YtdpmpdhhjmbbcaaDoor
