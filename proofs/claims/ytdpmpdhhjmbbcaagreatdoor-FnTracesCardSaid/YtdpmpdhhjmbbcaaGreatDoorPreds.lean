/- The walks of the bounds' tests, of slices.IndexFunc and ContainsFunc at []int with a predicate, of 'all' and of the tests on samples. -/
import Derived.Test.YtdpmpdhhjmbbcaaGreatDoorProg
import Derived.Test.YtdpmpdhhjmbbcaaGreatDoorInts
import Derived.Test.YtdpmpdhhjmbbcaaGreatDoorBase
import Derived.Shelf.Abstract
namespace Go.Proofs.YtdpmpdhhjmbbcaaGreatDoor
open Go.RowKit

/-- What is asked of a function value on ints: it says p, in every world that leaves what lay in w, and leaves what lies there. -/
def PredI (g : Nat) (lb : Array Value) (p : Int → Bool) (w : World) : Prop :=
  ∀ (W : World) (x : Int), Below w.heap.size w W → Calls Tryz.prog g (#[.int .i64 x] ++ lb) W fun e w' => e = .returned (.bool (p x)) ∧ Below W.heap.size W w'

theorem PredI.later {g : Nat} {lb : Array Value} {p : Int → Bool} {w w1 : World} (h : PredI g lb p w) (hb : Below w.heap.size w w1) : PredI g lb p w1 :=
  fun W x hW => h W x (hb.trans (hW.mono hb.size))

/-- the first place at which p holds, or -1 -/
def idxB {α : Type} (p : α → Bool) (xs : List α) : Int := match xs.findIdx? p with
  | some i => (i : Int)
  | none => -1
theorem take_any_step {α : Type} (p : α → Bool) (xs : List α) (k : Nat) (x : α) (hx : xs[k]? = some x) (h : (xs.take k).any p = false) (hp : p x = false) : (xs.take (k + 1)).any p = false := by
  rw [List.take_add_one, hx, List.any_append, h]
  simp [hp]
theorem idxB_hit {α : Type} (p : α → Bool) (xs : List α) (k : Nat) (x : α) (hx : xs[k]? = some x) (h : (xs.take k).any p = false) (hp : p x = true) : idxB p xs = (k : Int) := by
  have hk : k < xs.length := (List.getElem?_eq_some_iff.1 hx).1
  have e : xs.findIdx? p = some k := by
    rw [List.findIdx?_eq_some_iff_getElem]
    refine ⟨hk, ?_, fun j hj => ?_⟩
    · have := (List.getElem?_eq_some_iff.1 hx).2
      rw [this]; exact hp
    · rw [List.any_eq_false] at h
      exact h _ (List.mem_take_iff_getElem.2 ⟨j, by omega, rfl⟩)
  unfold idxB
  rw [e]
theorem idxB_miss {α : Type} (p : α → Bool) (xs : List α) (h : xs.any p = false) : idxB p xs = -1 := by
  have e : xs.findIdx? p = none := by
    rw [List.findIdx?_eq_none_iff]
    intro x hx
    rw [List.any_eq_false] at h
    simpa using h x hx
  unfold idxB
  rw [e]
theorem idxB_nonneg {α : Type} (p : α → Bool) (xs : List α) : decide (0 ≤ idxB p xs) = xs.any p := by
  unfold idxB
  split
  · next i h =>
    have h2 := List.findIdx?_isSome (xs := xs) (p := p)
    rw [h] at h2
    rw [← h2]
    simp
  · next h =>
    have h2 := List.findIdx?_isSome (xs := xs) (p := p)
    rw [h] at h2
    rw [← h2]
    simp

set_option maxHeartbeats 400000 in
theorem IndexFunc_int (g : Nat) (lb : Array Value) (p : Int → Bool) (eg : ∀ args w, (callFunc g args).run Tryz.prog w = .ok (.enter g args) w) (A : Option Addr) (n c : Nat) (xs : List Int) (w : World)
    (hp : PredI g lb p w) (hr : RI w w.heap.size A n xs) (hn : n ≤ 9223372036854775807) :
    Calls Tryz.prog 82 #[.slice A n c, .func (.func g) #[] lb] w fun e w' => e = .returned (.int .i64 (idxB p xs)) ∧ Below w.heap.size w w' := by
  have HP := hide hp; have HR := hide hr; clear hp hr
  go_enter Tryz.func82, Tryz.ntmps82
  go_wp2
  go_loopw [8] (fun i wr => ∃ k : Nat, k ≤ n ∧ i = .int .i64 k ∧ Hid ((xs.take k).any p = false) ∧ Hid (Below w.heap.size w wr)) (fun i _ => n - (intOf i).toNat)
  case atStart => exact ⟨0, Nat.zero_le _, rfl, by simp [Hid], Below.refl _ _⟩
  case round =>
    obtain ⟨k, hk, rfl, hA, hB⟩ := hrel
    by_cases hlt : k < n
    · obtain ⟨ad, x, rfl, _, hx, hc⟩ := ((unhide HR).below (unhide hB)).get hlt
      have hcall := (unhide HP) wr x (unhide hB)
      cases hq : p x with
      | true =>
        rw [hq] at hcall
        have E := idxB_hit p xs k x (unhide hx) (unhide hA) hq
        have HE := hide E
        clear E hx hA hq
        go_wp2_with (go_at_fn g; refine hcall.mono ?_; rintro e w' ⟨rfl, hb'⟩)
        go_ret
        exact ⟨ret_int (unhide HE).symm, (unhide hB).trans (hb'.mono (unhide hB).size)⟩
      | false =>
        rw [hq] at hcall
        have HE := hide (take_any_step p xs k x (unhide hx) (unhide hA) hq)
        clear hx hA hq
        go_wp2_with (go_at_fn g; refine hcall.mono ?_; rintro e w' ⟨rfl, hb'⟩)
        go_roundw
        case rel => exact ⟨k + 1, by omega, by go_num, HE, (unhide hB).trans (hb'.mono (unhide hB).size)⟩
        case measure => simp [intOf]; omega
    · have e : k = n := by omega
      subst e
      have HE := hide (idxB_miss p xs (by have := unhide hA; rwa [List.take_of_length_le (by rw [(unhide HR).len]; exact Nat.le_refl _)] at this))
      clear hA
      go_wp2
      go_ret
      exact ⟨ret_int (unhide HE).symm, unhide hB⟩

theorem ContainsFunc_int (g : Nat) (lb : Array Value) (p : Int → Bool) (eg : ∀ args w, (callFunc g args).run Tryz.prog w = .ok (.enter g args) w) (A : Option Addr) (n c : Nat) (xs : List Int) (w : World)
    (hp : PredI g lb p w) (hr : RI w w.heap.size A n xs) (hn : n ≤ 9223372036854775807) :
    Calls Tryz.prog 67 #[.slice A n c, .func (.func g) #[] lb] w fun e w' => e = .returned (.bool (xs.any p)) ∧ Below w.heap.size w w' := by
  have C := IndexFunc_int g lb p eg A n c xs w hp hr hn
  rw [← idxB_nonneg]
  generalize idxB p xs = r at *
  clear hp hr
  go_enter Tryz.func67, Tryz.ntmps67
  go_wp2_with (go_at_call 82; refine C.mono ?_; rintro e w' ⟨rfl, hb⟩)
  go_ret
  exact ⟨rfl, hb⟩

set_option maxHeartbeats 400000 in
theorem all_int (g : Nat) (lb : Array Value) (p : Int → Bool) (eg : ∀ args w, (callFunc g args).run Tryz.prog w = .ok (.enter g args) w) (A : Option Addr) (n c : Nat) (xs : List Int) (w : World)
    (hp : PredI g lb p w) (hr : RI w w.heap.size A n xs) (hn : n ≤ 9223372036854775807) :
    Calls Tryz.prog 54 #[.slice A n c, .func (.func g) #[] lb] w fun e w' => e = .returned (.bool (xs.all p)) ∧ Below w.heap.size w w' := by
  have hclo : ∀ (o : Obj), o = .cells #[.func (.func g) #[] lb] 49 → PredI 68 #[.pointer (some ⟨w.heap.size, 0, none⟩)] (fun x => !p x) (w.alloc o) := by
    intro o ho W x hb
    have hc : W.cell? ⟨w.heap.size, 0, none⟩ = some (.func (.func g) #[] lb) := by
      rw [hb.cell (p := ⟨w.heap.size, 0, none⟩) (by simp), ho]
      simp
    have hcall := hp W x (((Below.refl _ w).alloc (Nat.le_refl _) o).trans (hb.mono (by simp)))
    clear hb ho hp hr
    show Calls _ _ #[.int .i64 x, .pointer (some ⟨w.heap.size, 0, none⟩)] W (fun e w' => e = .returned (.bool (!p x)) ∧ Below W.heap.size W w')
    generalize p x = q at *
    go_enter Tryz.func68, Tryz.ntmps68
    go_wp2_with (go_at_fn g; refine hcall.mono ?_; rintro e w' ⟨rfl, hb'⟩)
    go_ret
    exact ⟨rfl, hb'⟩
  have C := ContainsFunc_int 68 #[.pointer (some ⟨w.heap.size, 0, none⟩)] (fun x => !p x) (enters_of Tryz.func68 (by kernel_rfl) rfl) A n c xs _ (hclo _ rfl) ((hr.alloc (Nat.le_refl _) _).more (by simp)) hn
  have e : xs.all p = !(xs.any fun x => !p x) := by simp [List.all_eq_not_any_not]
  rw [e]
  generalize (xs.any fun x => !p x) = r at *
  have HC := hide C
  clear C hclo hp hr
  go_enter Tryz.func54, Tryz.ntmps54
  go_wp2_with (go_at_call 67; refine (unhide HC).mono ?_; rintro e w' ⟨rfl, hb⟩)
  go_ret
  exact ⟨rfl, ((Below.refl _ w).alloc (Nat.le_refl _) _).trans (hb.mono (by simp))⟩

/-! ### the lesser, the greater -/




/-! ### samples -/
/-- a list of at most 24 numbers from -100000 to 100000 -/
def smpB (xs : List Int) : Bool := decide (xs.length ≤ 24) && xs.all fun x => inB x (-100000) 100000

theorem isSample_any (n : Int) (w : World) : Calls Tryz.prog 55 #[.int .i64 n] w fun e w' => e = .returned (.bool (inB n (-100000) 100000)) ∧ w = w' := by
  go_enter Tryz.func55, Tryz.ntmps55
  go_wp2_with (go_at_call 26; refine (in_any _ _ _ _).mono ?_; rintro e w' ⟨rfl, rfl⟩)
  go_ret
  exact ⟨rfl, rfl⟩

theorem isSample_pred (w : World) : PredI 55 #[] (fun n => inB n (-100000) 100000) w := fun W x _ =>
  (isSample_any x W).mono fun _ _ ⟨h1, h2⟩ => ⟨h1, h2 ▸ Below.refl _ _⟩

theorem areSamples_any (A : Option Addr) (n c : Nat) (xs : List Int) (w : World) (hr : RI w w.heap.size A n xs) (hn : n ≤ 9223372036854775807) :
    Calls Tryz.prog 28 #[.slice A n c] w fun e w' => e = .returned (.bool (smpB xs)) ∧ Below w.heap.size w w' := by
  have C := all_int 55 #[] _ (enters_of Tryz.func55 (by kernel_rfl) rfl) A n c xs w (isSample_pred w) hr hn
  have hl := hr.len
  unfold smpB
  rw [hl]
  generalize (xs.all fun x => inB x (-100000) 100000) = r at *
  have HC := hide C
  clear C hr hl
  by_cases h : n ≤ 24
  · go_enter Tryz.func28, Tryz.ntmps28
    go_wp2_with (go_at_call 54; refine (unhide HC).mono ?_; rintro e w' ⟨rfl, hb⟩)
    go_ret
    exact ⟨ret_bool (by simp [h]), hb⟩
  · go_enter Tryz.func28, Tryz.ntmps28
    go_wp2_with (go_at_call 54; refine (unhide HC).mono ?_; rintro e w' ⟨rfl, hb⟩)
    go_ret
    exact ⟨ret_bool (by simp [h]), Below.refl _ _⟩

theorem take_all_step {α : Type} (p : α → Bool) (xs : List α) (k : Nat) (x : α) (hx : xs[k]? = some x) (h : (xs.take k).all p = true) (hp : p x = true) : (xs.take (k + 1)).all p = true := by
  rw [List.take_add_one, hx, List.all_append, h]
  simp [hp]
theorem all_no {α : Type} (p : α → Bool) (xs : List α) (k : Nat) (x : α) (hx : xs[k]? = some x) (hp : p x = false) : xs.all p = false := by
  rw [List.all_eq_false]
  exact ⟨x, List.mem_of_getElem? hx, by simp [hp]⟩

set_option maxHeartbeats 400000 in
theorem l2Samples_any (A : Option Addr) (n c L : Nat) (xs : List Int) (w : World) (hr : RI w L A n xs) (hn : n ≤ 9223372036854775807) :
    Calls Tryz.prog 51 #[.slice A n c] w fun e w' => e = .returned (.bool (smpB xs)) ∧ w = w' := by
  have HR := hide hr; clear hr
  go_enter Tryz.func51, Tryz.ntmps51
  go_wp2
  go_loop [3] (fun i => ∃ k : Nat, k ≤ n ∧ i = .int .i64 k ∧ Hid ((xs.take k).all (fun x => inB x (-100000) 100000) = true)) (fun i => n - (intOf i).toNat)
  case atStart => exact ⟨0, Nat.zero_le _, rfl, by simp [Hid]⟩
  case round =>
    obtain ⟨k, hk, rfl, hA⟩ := hrel
    by_cases hlt : k < n
    · obtain ⟨ad, x, rfl, _, hx, hc⟩ := (unhide HR).get hlt
      cases hq : inB x (-100000) 100000 with
      | true =>
        have HE := hide (take_all_step (fun x => inB x (-100000) 100000) xs k x (unhide hx) (unhide hA) hq)
        clear hx hA
        go_wp2_with (go_at_call 49; refine (l1In_any _ _ _ _).mono ?_; rintro e w' ⟨rfl, rfl⟩)
        go_round
        case rel => exact ⟨k + 1, by omega, by go_num, HE⟩
        case measure => simp [intOf]; omega
      | false =>
        have HE := hide (all_no (fun x => inB x (-100000) 100000) xs k x (unhide hx) hq)
        clear hx hA
        go_wp2_with (go_at_call 49; refine (l1In_any _ _ _ _).mono ?_; rintro e w' ⟨rfl, rfl⟩)
        go_ret
        exact ⟨ret_bool (by unfold smpB; rw [unhide HE]; simp), rfl⟩
    · have e : k = n := by omega
      subst e
      have HE : Hid (smpB xs = decide (k ≤ 24)) := by
        have := unhide hA
        have hl := (unhide HR).len
        rw [List.take_of_length_le (by omega)] at this
        unfold Hid smpB
        rw [this, hl]
        simp
      clear hA
      go_wp2
      go_ret
      exact ⟨ret_bool (by rw [unhide HE]; exact decide_eq_decide.2 (by omega)), rfl⟩
end Go.Proofs.YtdpmpdhhjmbbcaaGreatDoor
