/- Chapter 1, the walks: the numbers and texts that the law of strings draws; a byte of the input; a byte changed. (By gen_drawN.py.) -/
import Derived.Test.YtajngpnpcefhdaaDoorProg
import Derived.Test.YtajngpnpcefhdaaDoorDrawT
import Derived.Test.YtajngpnpcefhdaaDoorNum
namespace Go.Proofs.YtajngpnpcefhdaaDoor
open Go.RowKit

/-- a number is drawn -/
def RetDI1 (w : World) (e : Ending) (w' : World) : Prop := ∃ x : Int, e = .returned (.int .i64 x) ∧ (-1000000 ≤ x ∧ x ≤ 1000000) ∧ Below w.heap.size w w'
/-- a text is drawn -/
def RetDS1 (w : World) (e : Ending) (w' : World) : Prop := ∃ x : ByteArray, e = .returned (.string x) ∧ x.size ≤ 4000 ∧ Below w.heap.size w w'
set_option maxHeartbeats 2000000 in
set_option maxRecDepth 100000 in
theorem drawFormatInt_any (A : Option Addr) (n c : Nat) (xs : List Int) (w : World) (hr : RB w w.heap.size A n xs) (hn : n ≤ 65536) :
    Calls Tryd.prog 17 #[.slice A n c] w (RetDI1 w) := by
  have HC := hide (Cur.new c hr)
  clear hr
  go_enter Tryd.func17, Tryd.ntmps17
  go_wp2_with fail
  refine (pick_any w.heap.size n c 0 A xs 1000 _ (unhide HC) (by omega) (by omega) (by omega) (by omega)).mono ?_
  rintro e w1 ⟨x, rfl, ⟨x0, x1⟩, hC, hg⟩
  have HB := hide (below_cur ((Below.refl _ w).alloc (Nat.le_refl _) _) hg (Nat.le_refl _))
  have HC1 := hide hC
  clear hC hg HC
  go_wp2_with fail
  refine (among_lit w.heap.size n c _ _ A xs w1 rfl [0, 1, -1, 10, 999999, -999999, 1000000, -1000000, x - 500] 9 _ (fun y => -1000000 ≤ y ∧ y ≤ 1000000) rfl rfl (by omega) (by omega) (by intro y hy; simp at hy; omega) (unhide HC1) (by omega) (by omega)).mono ?_
  rintro e w2 ⟨y, rfl, hy, hC, hg⟩
  have HB2 := hide (below_cur (unhide HB) hg (Nat.le_refl _))
  go_wp2_with fail
  go_ret
  exact ⟨y, rfl, hy, unhide HB2⟩
set_option maxHeartbeats 2000000 in
set_option maxRecDepth 100000 in
theorem drawParseInt_any (A : Option Addr) (n c : Nat) (xs : List Int) (w : World) (hr : RB w w.heap.size A n xs) (hn : n ≤ 65536) :
    Calls Tryd.prog 18 #[.slice A n c] w (RetDS1 w) := by
  have HC := hide (Cur.new c hr)
  clear hr
  go_enter Tryd.func18, Tryd.ntmps18
  go_wp2_with fail
  refine (one_any w.heap.size n c 0 A xs 2 _ (unhide HC) (by omega) (by omega) (by omega) (by omega)).mono ?_
  rintro e w1 ⟨b, rfl, hC, hg⟩
  have HB := hide (below_cur ((Below.refl _ w).alloc (Nat.le_refl _) _) hg (Nat.le_refl _))
  have HC1 := hide hC
  clear hC hg HC
  rcases b with _ | _
  · go_wp2_with fail
    refine (pick_any w.heap.size n c _ A xs 2000 w1 (unhide HC1) (by omega) (by omega) (by omega) (by omega)).mono ?_
    rintro e w2 ⟨x, rfl, ⟨x0, x1⟩, hC, hg⟩
    have HB2 := hide (below_cur (unhide HB) hg (Nat.le_refl _))
    clear hC hg HC1
    go_wp2_with fail
    refine (l1Num_any (x - 1000) w2 (by omega) (by omega)).mono ?_
    rintro e w3 ⟨rfl, m, rfl⟩
    have hsz := numB_size (x - 1000) (by omega) (by omega)
    go_wp2_with fail
    go_ret
    exact ⟨_, rfl, by omega, below_drewN (unhide HB2) _⟩
  · go_wp2_with fail
    refine (of_lit w.heap.size n c _ _ A xs w1 rfl [⟨#[]⟩, ⟨#[45]⟩, ⟨#[45, 48]⟩, ⟨#[48, 48]⟩, ⟨#[48, 49]⟩, ⟨#[45, 45, 49]⟩, ⟨#[49, 120]⟩, ⟨#[57, 57, 57, 57, 57, 57]⟩, ⟨#[49, 48, 48, 48, 48, 48, 48]⟩, ⟨#[45, 57, 57, 57, 57, 57, 57]⟩, ⟨#[49, 56, 52, 52, 54, 55, 52, 52, 48, 55, 51, 55, 48, 57, 53, 53, 49, 54, 49, 55]⟩] 11 _ (fun y => y.size ≤ 20) rfl rfl (by omega) (by omega) (by decide) (unhide HC1) (by omega) (by omega)).mono ?_
    rintro e w2 ⟨y, rfl, hy, hC, hg⟩
    have HB2 := hide (below_cur (unhide HB) hg (Nat.le_refl _))
    go_wp2_with fail
    go_ret
    exact ⟨y, rfl, by omega, unhide HB2⟩
set_option maxHeartbeats 2000000 in
set_option maxRecDepth 100000 in
theorem drawAppendChecksum_any (A : Option Addr) (n c : Nat) (xs : List Int) (w : World) (hr : RB w w.heap.size A n xs) (hn : n ≤ 65536) :
    Calls Tryd.prog 19 #[.slice A n c] w (RetDS1 w) := by
  have HC := hide (Cur.new c hr)
  clear hr
  go_enter Tryd.func19, Tryd.ntmps19
  go_wp2_with fail
  refine (one_any w.heap.size n c 0 A xs 20 _ (unhide HC) (by omega) (by omega) (by omega) (by omega)).mono ?_
  rintro e w1 ⟨b, rfl, hC, hg⟩
  have HB := hide (below_cur ((Below.refl _ w).alloc (Nat.le_refl _) _) hg (Nat.le_refl _))
  have HC1 := hide hC
  clear hC hg HC
  rcases b with _ | _
  · go_wp2_with fail
    refine (any1_any w.heap.size n c _ A xs w1 (unhide HC1) (by omega) (by omega)).mono ?_
    rintro e w2 ⟨y, rfl, hy, hC, hg⟩
    have HB2 := hide (below_cur (unhide HB) hg (Nat.le_refl _))
    go_wp2_with fail
    go_ret
    exact ⟨y, rfl, by omega, unhide HB2⟩
  · go_wp2_with fail
    refine (pick_any w.heap.size n c _ A xs 10 w1 (unhide HC1) (by omega) (by omega) (by omega) (by omega)).mono ?_
    rintro e w3 ⟨z, rfl, ⟨z0, z1⟩, hC3, hg⟩
    obtain ⟨zn, rfl⟩ : ∃ k : Nat, z = (k : Int) := ⟨z.toNat, by omega⟩
    have hz : zn ≤ 9 := by omega
    have HB3 := hide (below_cur (unhide HB) hg (Nat.le_refl _))
    clear hC3 hg HC1 HB z0 z1
    obtain ⟨i0, hi, hz0, hz1, hz2⟩ := info_parts info_u8
    go_wp2_with (at_make; refine wpList_make_full _ rfl _ _ 29 rfl w3.heap.size 5 i0 (.int .u8 0) 1 Tryd.underlying29 hi hz0 hz1 _ _ _ _ (3990 + zn) rfl rfl (by push_cast; rfl) (by push_cast; rfl) (by rw [hz2]; omega) (by unfold maxLen; omega) (Nat.le_refl _) ?_; intro w4 hown4 hg4; have hcv := conv_zero w4 _ _ _ hown4; have HB4 := hide ((unhide HB3).grown hg4 (unhide HB3).size fun r e => by cases e); clear hown4 hg4)
    go_ret
    exact ⟨_, rfl, by rw [strOfNums_size, List.length_replicate]; omega, unhide HB4⟩
theorem vAt_any (A : Option Addr) (n c B : Nat) (xs : List Int) (i : Nat) (w : World) (h : RB w B A n xs) (hi : i ≤ 100) (hn : n ≤ 65536) :
    Calls Tryd.prog 20 #[.slice A n c, .int .i64 i] w fun e w' => (∃ v : Nat, v ≤ 255 ∧ e = .returned (.int .i64 (v : Int))) ∧ w = w' := by
  by_cases hlt : i < n
  · obtain ⟨ad, x, rfl, _, x0, x1, hc⟩ := h.get hlt
    have l1 : (i : Int) < (n : Int) := by omega
    have l2 : (0 : Int) ≤ (i : Int) := by omega
    obtain ⟨v, rfl⟩ : ∃ k : Nat, x = (k : Int) := ⟨x.toNat, by omega⟩
    go_enter Tryd.func20, Tryd.ntmps20
    go_wp2_with fail
    go_ret
    exact ⟨⟨v, by omega, rfl⟩, rfl⟩
  · have l1 : ¬ (i : Int) < (n : Int) := by omega
    have l2 : ((i : Int) * 7 + (n : Int)).tmod 256 = (((i * 7 + n) % 256 : Nat) : Int) := by rw [Int.tmod_eq_emod_of_nonneg (by omega)]; omega
    have l3 : ((i : Int) * 7 + (n : Int)) % 256 = (((i * 7 + n) % 256 : Nat) : Int) := by omega
    have hv : (i * 7 + n) % 256 ≤ 255 := by omega
    generalize (i * 7 + n) % 256 = v at *
    go_enter Tryd.func20, Tryd.ntmps20
    go_wp2_with fail
    go_ret
    exact ⟨⟨v, hv, rfl⟩, rfl⟩
/-- a byte with some bit turned is another -/
theorem xor8 (a : UInt8) (d : Nat) (h1 : 1 ≤ d) (h2 : d ≤ 255) : ∃ c : UInt8, bits .xor .u8 (a.toNat : Int) (d : Int) = (c.toNat : Int) ∧ c ≠ a := by
  have ha : a.toNat < 256 := a.toNat_lt
  have hx : a.toNat ^^^ d < 2 ^ 8 := Nat.xor_lt_two_pow (by omega) (by omega)
  refine ⟨UInt8.ofNat (a.toNat ^^^ d), ?_, fun e => ?_⟩
  · have e1 : (UInt8.ofNat (a.toNat ^^^ d)).toNat = a.toNat ^^^ d := by rw [UInt8.toNat_ofNat']; exact Nat.mod_eq_of_lt hx
    rw [e1]
    exact u8_xor_nat _ _ ha (by omega)
  · have e1 := congrArg UInt8.toNat e
    rw [UInt8.toNat_ofNat', Nat.mod_eq_of_lt hx] at e1
    have e2 : d = 0 := by
      have := congrArg (fun z => a.toNat ^^^ z) e1
      simp only [← Nat.xor_assoc, Nat.xor_self, Nat.zero_xor] at this
      exact this
    omega
end Go.Proofs.YtajngpnpcefhdaaDoor
