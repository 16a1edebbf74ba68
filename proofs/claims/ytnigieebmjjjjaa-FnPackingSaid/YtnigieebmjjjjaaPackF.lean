/- Chapter 4, the walks: bytes read: the program's and the reference's. -/
import Derived.Test.YtnigieebmjjjjaaProg
import Derived.Test.YtnigieebmjjjjaaPackE
import Derived.Test.YtnigieebmjjjjaaPackLaw
namespace Go.Proofs.Ytnigieebmjjjjaa
open Go.RowKit

/-- at most 100 numbers from 0 to 255 -/
def bytB (xs : List Int) : Bool := decide (xs.length ≤ 100) && xs.all fun x => inB x 0 255
theorem bytB_all {xs : List Int} (h : bytB xs = true) : ∀ x ∈ xs, 0 ≤ x ∧ x ≤ 255 := by
  unfold bytB at h
  simp only [Bool.and_eq_true, List.all_eq_true] at h
  exact fun x hx => inB_iff.1 (h.2 x hx)
theorem bytB_len {xs : List Int} (h : bytB xs = true) : xs.length ≤ 100 := by
  unfold bytB at h
  simp only [Bool.and_eq_true, decide_eq_true_eq] at h
  exact h.1

theorem areBytes1_pred (w : World) : PredI 76 #[] (fun n => inB n 0 255) w := fun W x _ => by
  show Calls _ _ #[.int .i64 x] W (fun e w' => e = .returned (.bool (inB x 0 255)) ∧ Below W.heap.size W w')
  go_enter Try.func76, Try.ntmps76
  go_wp2_with (go_at_call 73; refine (in_any _ _ _ _).mono ?_; rintro e w' ⟨rfl, rfl⟩)
  go_ret
  exact ⟨rfl, Below.refl _ _⟩

theorem areBytes_any (A : Option Addr) (n c : Nat) (xs : List Int) (w : World) (hr : RI w w.heap.size A n xs) (hn : n ≤ 9223372036854775807) :
    Calls Try.prog 62 #[.slice A n c] w fun e w' => e = .returned (.bool (bytB xs)) ∧ Below w.heap.size w w' := by
  have C := all_int 76 #[] _ (enters_of Try.func76 (by kernel_rfl) rfl) A n c xs w (areBytes1_pred w) hr hn
  have hl := hr.len
  unfold bytB
  rw [hl]
  generalize (xs.all fun x => inB x 0 255) = r at *
  have HC := hide C
  clear C hr hl
  by_cases h : n ≤ 100
  all_goals
    go_enter Try.func62, Try.ntmps62
    go_wp2_with (go_at_call 70; refine (unhide HC).mono ?_; rintro e w' ⟨rfl, hb⟩)
    go_ret
    first
      | exact ⟨ret_bool (by simp [h]), hb⟩
      | exact ⟨ret_bool (by simp [h]), Below.refl _ _⟩

set_option maxHeartbeats 400000 in
theorem l4List_any (A : Option Addr) (n c L : Nat) (xs : List Int) (w : World) (hr : RI w L A n xs) (hn : n ≤ 9223372036854775807) :
    Calls Try.prog 60 #[.slice A n c] w fun e w' => e = .returned (.bool (bytB xs)) ∧ w = w' := by
  have HR := hide hr; clear hr
  go_enter Try.func60, Try.ntmps60
  go_wp2
  go_loop [3] (fun i => ∃ k : Nat, k ≤ n ∧ i = .int .i64 k ∧ Hid ((xs.take k).all (fun x => inB x 0 255) = true)) (fun i => n - (intOf i).toNat)
  case atStart => exact ⟨0, Nat.zero_le _, rfl, by simp [Hid]⟩
  case round =>
    obtain ⟨k, hk, rfl, hA⟩ := hrel
    by_cases hlt : k < n
    · obtain ⟨ad, x, rfl, _, hx, hc⟩ := (unhide HR).get hlt
      cases hq : inB x 0 255 with
      | true =>
        have HE := hide (take_all_step (fun x => inB x 0 255) xs k x (unhide hx) (unhide hA) hq)
        clear hx hA
        go_wp2_with (go_at_call 69; refine (l1In_any _ _ _ _).mono ?_; rintro e w' ⟨rfl, rfl⟩)
        go_round
        case rel => exact ⟨k + 1, by omega, by go_num, HE⟩
        case measure => simp [intOf]; omega
      | false =>
        have HE := hide (all_no (fun x => inB x 0 255) xs k x (unhide hx) hq)
        clear hx hA
        go_wp2_with (go_at_call 69; refine (l1In_any _ _ _ _).mono ?_; rintro e w' ⟨rfl, rfl⟩)
        go_ret
        exact ⟨ret_bool (by unfold bytB; rw [unhide HE]; simp), rfl⟩
    · have e : k = n := by omega
      subst e
      have HE : Hid (bytB xs = decide (k ≤ 100)) := by
        have := unhide hA
        have hl := (unhide HR).len
        rw [List.take_of_length_le (by omega)] at this
        unfold Hid bytB
        rw [this, hl]
        simp
      clear hA
      go_wp2
      go_ret
      exact ⟨ret_bool (by rw [unhide HE]; exact decide_eq_decide.2 (by omega)), rfl⟩

/-- the number that begins at a place and the place behind it; 0 and -1 where it is torn -/
def nextP (bs : List Int) (k : Nat) : Int × Int := match nextI (bs.drop k) with
  | some (n, j) => (n, ((k + j : Nat) : Int))
  | none => (0, -1)

set_option maxHeartbeats 1000000 in
theorem l4Next_any (A : Option Addr) (n c L k : Nat) (bs : List Int) (w : World) (hr : RI w L A n bs) (hn : n ≤ 1048576) (hk : k < n) (hb : ∀ x ∈ bs, 0 ≤ x ∧ x ≤ 255) :
    Calls Try.prog 74 #[.slice A n c, .int .i64 k] w fun e w' => e = .returned (.tuple #[.int .i64 (nextP bs k).1, .int .i64 (nextP bs k).2]) ∧ Below w.heap.size w w' := by
  obtain ⟨ad, b, rfl, _, hx, hc⟩ := hr.get hk
  have hl := hr.len
  obtain ⟨b0, b1⟩ := hb b (List.mem_of_getElem? (unhide hx))
  have hlt : (k : Int) < (n : Int) := by omega
  unfold nextP
  by_cases c1 : b < 192
  · rw [next1 (unhide hx) c1]
    clear hr hl hb hx
    go_enter Try.func74, Try.ntmps74
    go_wp2
    go_ret2
    exact ⟨rfl, Below.refl _ _⟩
  · by_cases c2 : b < 224
    · by_cases k1 : k + 1 < n
      · obtain ⟨ae, d, had, _, hy, hd⟩ := hr.get k1
        obtain rfl : ad = ae := by simpa using had
        obtain ⟨d0, d1⟩ := hb d (List.mem_of_getElem? (unhide hy))
        rw [next2 (unhide hx) (by omega) c2 (unhide hy)]
        have hd2 : w.cell? ⟨ad.block, ad.off + (k + 1), none⟩ = some (.int .i64 d) := by simpa [Addr.add] using hd
        have hl2 : (k : Int) + 1 < (n : Int) := by omega
        have hl3 : (0 : Int) ≤ (k : Int) + 1 := by omega
        clear hr hl hb hx hy had
        go_enter Try.func74, Try.ntmps74
        go_wp2
        try (go_quiet (fail); go_wp2)
        go_ret2
        exact ⟨rfl, by repeat (first | exact Below.refl _ _ | refine below_drewN ?_ _)⟩
      · rw [next2_none (unhide hx) (by omega) c2 (by omega)]
        have hl2 : ¬ (k : Int) + 1 < (n : Int) := by omega
        clear hr hl hb hx
        go_enter Try.func74, Try.ntmps74
        go_wp2
        go_ret2
        exact ⟨rfl, Below.refl _ _⟩
    · by_cases k2 : k + 2 < n
      · obtain ⟨ae, d, had, _, hy, hd⟩ := hr.get (show k + 1 < n by omega)
        obtain rfl : ad = ae := by simpa using had
        obtain ⟨ae, e, had2, _, hz, he⟩ := hr.get k2
        obtain rfl : ad = ae := by simpa using had2
        obtain ⟨d0, d1⟩ := hb d (List.mem_of_getElem? (unhide hy))
        obtain ⟨e0, e1⟩ := hb e (List.mem_of_getElem? (unhide hz))
        rw [next3 (unhide hx) (by omega) (unhide hy) (unhide hz)]
        have hd2 : w.cell? ⟨ad.block, ad.off + (k + 1), none⟩ = some (.int .i64 d) := by simpa [Addr.add] using hd
        have he2 : w.cell? ⟨ad.block, ad.off + (k + 2), none⟩ = some (.int .i64 e) := by simpa [Addr.add] using he
        have hl2 : (k : Int) + 1 < (n : Int) := by omega
        have hl3 : (0 : Int) ≤ (k : Int) + 1 := by omega
        have hl4 : (k : Int) + 2 < (n : Int) := by omega
        have hl5 : (0 : Int) ≤ (k : Int) + 2 := by omega
        clear hr hl hb hx hy hz had had2
        go_enter Try.func74, Try.ntmps74
        go_wp2
        have s1 : IntKind.i64.wrap ((k : Int) + 1) = (k : Int) + 1 := IntWalk.i64_in _ (by omega)
        have s2 : IntKind.i64.wrap ((k : Int) + 2) = (k : Int) + 2 := IntWalk.i64_in _ (by omega)
        have e3 : ((k : Int) + 1).toNat = k + 1 := by omega
        have e4 : ((k : Int) + 2).toNat = k + 2 := by omega
        have s3 : IntKind.i64.wrap (b - 224) = b - 224 := IntWalk.i64_in _ (by omega)
        have s4 : IntKind.i64.wrap ((b - 224) * 65536) = (b - 224) * 65536 := IntWalk.i64_in _ (by omega)
        have s5 : IntKind.i64.wrap (8384 + (b - 224) * 65536) = 8384 + (b - 224) * 65536 := IntWalk.i64_in _ (by omega)
        have s6 : IntKind.i64.wrap (d * 256) = d * 256 := IntWalk.i64_in _ (by omega)
        have s7 : IntKind.i64.wrap (8384 + (b - 224) * 65536 + d * 256) = 8384 + (b - 224) * 65536 + d * 256 := IntWalk.i64_in _ (by omega)
        have s8 : IntKind.i64.wrap (8384 + (b - 224) * 65536 + d * 256 + e) = 8384 + (b - 224) * 65536 + d * 256 + e := IntWalk.i64_in _ (by omega)
        go_quiet (fail)
        clear s1 s2 s3 s4 s5 s6 s7 s8 e3 e4
        go_wp2
        go_ret2
        exact ⟨rfl, below_drewN (Below.refl _ _) _⟩
      · rw [next3_none (unhide hx) (by omega) (by omega)]
        have hl2 : ¬ (k : Int) + 2 < (n : Int) := by omega
        clear hr hl hb hx
        go_enter Try.func74, Try.ntmps74
        go_wp2
        go_ret2
        exact ⟨rfl, Below.refl _ _⟩
end Go.Proofs.Ytnigieebmjjjjaa
