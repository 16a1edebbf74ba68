/- The reference's cursor over bytes, from which arguments are drawn: what each of its steps gives back and leaves. -/
import Derived.Test.YtdpmpdhhjmbbcaaGreatDoorProg
import Derived.Test.YtdpmpdhhjmbbcaaGreatDoorWhole
import Derived.Deep.QuietTactic
import Derived.BigQuiet
import Derived.Laws.BitsAllLaws
import Derived.Laws.Bits64
import Derived.IntWalk
namespace Go.Proofs.YtdpmpdhhjmbbcaaGreatDoor
open Go.RowKit

/-- bytes -/
def cB (xs : List Int) : List Value := xs.map fun x => .int .u8 x
/-- a slice of bytes that lies below block B -/
def RB (w : World) (B : Nat) (A : Option Addr) (n : Nat) (xs : List Int) : Prop := Reads w B 1 A n (cB xs) ∧ ∀ x ∈ xs, 0 ≤ x ∧ x ≤ 255
theorem RB.get {w : World} {B n k : Nat} {A : Option Addr} {xs : List Int} (h : RB w B A n xs) (hk : k < n) : ∃ ad x, A = some ad ∧ ad.block < B ∧ 0 ≤ x ∧ x ≤ 255 ∧ w.cell? (ad.add k) = some (.int .u8 x) := by
  obtain ⟨ad, u, e, hb, hx, hc⟩ := Reads.at_ h.1 hk
  unfold cB at hx
  rw [List.getElem?_map, Option.map_eq_some_iff] at hx
  obtain ⟨x, hx, rfl⟩ := hx
  have hm := h.2 x (List.mem_of_getElem? hx)
  exact ⟨ad, x, e, hb, hm.1, hm.2, hc⟩
theorem RB.grown {w w' : World} {g n : Nat} {A : Option Addr} {xs : List Int} (h : RB w g A n xs) (hg : w.grownBy w' (some g)) (hl : g ≤ w.heap.size) : RB w' g A n xs :=
  ⟨Reads.grown h.1 hg hl fun k e => by injection e with e; omega, h.2⟩
/-- block g is a cursor over the bytes xs; it has read b of them at most -/
def Cur (w : World) (g : Nat) (A : Option Addr) (n c : Nat) (xs : List Int) (b : Nat) : Prop :=
  RB w g A n xs ∧ ∃ (i : Nat) (s : Int), i ≤ b ∧ Whl w g 58 #[.slice A n c, .int .i64 i, .int .u64 s]
theorem Cur.lt {w : World} {g n c b : Nat} {A : Option Addr} {xs : List Int} (h : Cur w g A n c xs b) : g < w.heap.size := by obtain ⟨_, i, s, _, h⟩ := h; exact h.lt
theorem Cur.more {w : World} {g n c b b' : Nat} {A : Option Addr} {xs : List Int} (h : Cur w g A n c xs b) (hb : b ≤ b') : Cur w g A n c xs b' := by
  obtain ⟨h0, i, s, h1, h2⟩ := h
  exact ⟨h0, i, s, by omega, h2⟩
theorem Cur.kept {w w' : World} {g n c b : Nat} {A : Option Addr} {xs : List Int} (h : Cur w g A n c xs b) (hb : Below w.heap.size w w') : Cur w' g A n c xs b := by
  have hl := h.lt
  obtain ⟨⟨h0, h3⟩, i, s, h1, h2⟩ := h
  exact ⟨⟨h0.below (hb.mono (Nat.le_of_lt hl)), h3⟩, i, s, h1, h2.below hb⟩
/-- a step of the cursor: a number comes back that has P; what was there stays, but for the cursor -/
def RetC (w : World) (g : Nat) (A : Option Addr) (n c : Nat) (xs : List Int) (b : Nat) (P : Int → Prop) (e : Ending) (w' : World) : Prop :=
  ∃ x : Int, e = .returned (.int .i64 x) ∧ P x ∧ Cur w' g A n c xs b ∧ w.grownBy w' (some g)
theorem grown_drewN (w : World) (row : Option Nat) (k : Nat) : w.grownBy (w.drewN k) row := ⟨rfl, rfl, rfl, Nat.le_refl _, fun _ _ _ => rfl⟩

theorem low8 (s : Int) (h0 : 0 ≤ s) (h1 : s < 18446744073709551616) : ∃ r : Int, 0 ≤ r ∧ r ≤ 255 ∧ bits .and .u64 (s / 1099511627776) 255 = r := by
  refine ⟨_, ?_, ?_, u64_and _ _ (by omega) (by omega) (by omega) (by omega)⟩
  · omega
  · have := Nat.and_le_right (n := (s / 1099511627776).toNat) (m := (255 : Int).toNat)
    omega
set_option maxHeartbeats 1000000 in
theorem next_any (g n c b : Nat) (A : Option Addr) (xs : List Int) (w : World) (h : Cur w g A n c xs b) (hn : n ≤ 1048576) (hb : b ≤ 4611686018427387904) :
    Calls Tryz.prog 57 #[.pointer (some ⟨g, 0, none⟩)] w (RetC w g A n c xs (b + 1) fun x => 0 ≤ x ∧ x ≤ 255) := by
  obtain ⟨hx, i, s, hi, hw⟩ := h
  have HX := hide hx
  have HW := hide hw
  clear hx hw
  have c0 : w.cell? ⟨g, 0, none⟩ = some (.slice A n c) := (unhide HW).cell 0
  have c1 : w.cell? ⟨g, 1, none⟩ = some (.int .i64 i) := (unhide HW).cell 1
  have c2 : w.cell? ⟨g, 2, none⟩ = some (.int .u64 s) := (unhide HW).cell 2
  have f1 : w.frozen? ⟨g, 1, none⟩ = false := (unhide HW).frozen 1
  have f2 : w.frozen? ⟨g, 2, none⟩ = false := (unhide HW).frozen 2
  by_cases hlt : i < n
  · obtain ⟨ad, x, rfl, hbk, hx0, hx1, hcx⟩ := (unhide HX).get hlt
    have l1 : (i : Int) < (n : Int) := by omega
    have l2 : (0 : Int) ≤ (i : Int) := by omega
    have l3 : (i : Int) + 1 ≤ (n : Int) := by omega
    go_enter Tryz.func57, Tryz.ntmps57
    go_wp2_with fail
    go_quiet (fail)
    generalize nq = q0
    go_wp2_with fail
    go_quiet (fail)
    generalize nq = q1
    go_wp2_with fail
    generalize IntKind.u64.wrap (IntKind.u64.wrap (IntKind.u64.wrap (s * 6364136223846793005) + x) + 101717) = s'
    have HG : Hid (w.grownBy (((w.drewN (q0 + q1)).setCell ⟨g, 1, none⟩ (.int .i64 ((i : Int) + 1))).setCell ⟨g, 2, none⟩ (.int .u64 s')) (some g)) := grownBy_trans (grownBy_trans (grown_drewN w _ _) (grown_set _ ⟨g, 1, none⟩ _)) (grown_set _ ⟨g, 2, none⟩ _)
    have HN : Hid (Whl (((w.drewN (q0 + q1)).setCell ⟨g, 1, none⟩ (.int .i64 ((i : Int) + 1))).setCell ⟨g, 2, none⟩ (.int .u64 s')) g 58 #[.slice (some ad) n c, .int .i64 ((i + 1 : Nat) : Int), .int .u64 s']) := Whl.store (Whl.store (w := w.drewN (q0 + q1)) (unhide HW) 1 _) 2 _
    generalize (((w.drewN (q0 + q1)).setCell ⟨g, 1, none⟩ (.int .i64 ((i : Int) + 1))).setCell ⟨g, 2, none⟩ (.int .u64 s')) = w2 at HG HN ⊢
    clear c0 c1 c2 f1 f2
    have c0 : w2.cell? ⟨g, 0, none⟩ = some (.slice (some ad) n c) := (unhide HN).cell 0
    have c1 : w2.cell? ⟨g, 1, none⟩ = some (.int .i64 ((i : Int) + 1)) := (unhide HN).cell 1
    go_quiet (fail)
    go_wp2_with fail
    go_ret
    exact ⟨x, rfl, ⟨hx0, hx1⟩, ⟨(unhide HX).grown (grownBy_trans (unhide HG) (grown_drewN _ _ _)) (Nat.le_of_lt (unhide HW).lt), i + 1, s', by omega, unhide HN⟩, grownBy_trans (unhide HG) (grown_drewN _ _ _)⟩
  · have l1 : ¬ (i : Int) < (n : Int) := by omega
    have l3 : ¬ (i : Int) + 1 ≤ (n : Int) := by omega
    have l4 : (i : Int) ≤ 4611686018427387904 := by omega
    go_enter Tryz.func57, Tryz.ntmps57
    go_wp2_with fail
    go_quiet (fail)
    generalize nq = q0
    go_wp2_with fail
    have HS0 : 0 ≤ IntKind.u64.wrap (IntKind.u64.wrap (IntKind.u64.wrap (s * 6364136223846793005)) + 101717) ∧ IntKind.u64.wrap (IntKind.u64.wrap (IntKind.u64.wrap (s * 6364136223846793005)) + 101717) < 18446744073709551616 := by rw [IntKind.wrap_u64 (_ + 101717)]; omega
    generalize IntKind.u64.wrap (IntKind.u64.wrap (IntKind.u64.wrap (s * 6364136223846793005)) + 101717) = s' at HS0 ⊢
    have HG : Hid (w.grownBy (((w.drewN q0).setCell ⟨g, 1, none⟩ (.int .i64 ((i : Int) + 1))).setCell ⟨g, 2, none⟩ (.int .u64 s')) (some g)) := grownBy_trans (grownBy_trans (grown_drewN w _ _) (grown_set _ ⟨g, 1, none⟩ _)) (grown_set _ ⟨g, 2, none⟩ _)
    have HN : Hid (Whl (((w.drewN q0).setCell ⟨g, 1, none⟩ (.int .i64 ((i : Int) + 1))).setCell ⟨g, 2, none⟩ (.int .u64 s')) g 58 #[.slice A n c, .int .i64 ((i + 1 : Nat) : Int), .int .u64 s']) := Whl.store (Whl.store (w := w.drewN q0) (unhide HW) 1 _) 2 _
    generalize (((w.drewN q0).setCell ⟨g, 1, none⟩ (.int .i64 ((i : Int) + 1))).setCell ⟨g, 2, none⟩ (.int .u64 s')) = w2 at HG HN ⊢
    clear c0 c1 c2 f1 f2
    have c0 : w2.cell? ⟨g, 0, none⟩ = some (.slice A n c) := (unhide HN).cell 0
    have c1 : w2.cell? ⟨g, 1, none⟩ = some (.int .i64 ((i : Int) + 1)) := (unhide HN).cell 1
    have c2 : w2.cell? ⟨g, 2, none⟩ = some (.int .u64 s') := (unhide HN).cell 2
    obtain ⟨r, hr0, hr1, hr⟩ := low8 s' HS0.1 HS0.2
    have HR := hide hr
    clear hr
    go_quiet (fail)
    go_wp2_with fail
    rw [unhide HR, IntWalk.wrap64_in r (by omega)]
    clear HS0
    go_ret
    exact ⟨r, rfl, ⟨hr0, hr1⟩, ⟨(unhide HX).grown (grownBy_trans (unhide HG) (grown_drewN _ _ _)) (Nat.le_of_lt (unhide HW).lt), i + 1, s', by omega, unhide HN⟩, grownBy_trans (unhide HG) (grown_drewN _ _ _)⟩

set_option maxHeartbeats 1000000 in
/-- a number from 0 to k - 1 -/
theorem pick_any (g n c b : Nat) (A : Option Addr) (xs : List Int) (k : Int) (w : World) (h : Cur w g A n c xs b) (hn : n ≤ 1048576) (hb : b ≤ 4611686018427387900) (h1 : 1 ≤ k) (h2 : k ≤ 1000000) :
    Calls Tryz.prog 40 #[.pointer (some ⟨g, 0, none⟩), .int .i64 k] w (RetC w g A n c xs (b + 2) fun x => 0 ≤ x ∧ x < k) := by
  have HC := hide h
  clear h
  by_cases hk : k ≤ 1
  · obtain rfl : k = 1 := by omega
    go_enter Tryz.func40, Tryz.ntmps40
    go_wp2_with fail
    go_ret
    exact ⟨0, rfl, by omega, (unhide HC).more (by omega), World.grownBy.refl _ _⟩
  · have HM : Hid (∀ x : Int, 0 ≤ x → 0 ≤ x % k ∧ x % k < k) := fun x _ => ⟨Int.emod_nonneg _ (by omega), Int.emod_lt_of_pos _ (by omega)⟩
    by_cases hl : 200 < k
    · go_enter Tryz.func40, Tryz.ntmps40
      go_wp2_with fail
      refine (next_any g n c b A xs _ (unhide HC) hn (by omega)).mono ?_
      rintro e w1 ⟨x, rfl, ⟨hx0, hx1⟩, hC, hg⟩
      have HC1 := hide hC
      have HG1 := hide hg
      clear hC hg
      go_wp2_with fail
      refine (next_any g n c (b + 1) A xs _ (unhide HC1) hn (by omega)).mono ?_
      rintro e w2 ⟨y, rfl, ⟨hy0, hy1⟩, hC, hg⟩
      have HC2 := hide hC
      have HG2 := hide (grownBy_trans (unhide HG1) hg)
      clear hC hg
      go_wp2_with fail
      go_ret
      exact ⟨_, rfl, unhide HM (x * 256 + y) (by omega), unhide HC2, unhide HG2⟩
    · go_enter Tryz.func40, Tryz.ntmps40
      go_wp2_with fail
      refine (next_any g n c b A xs _ (unhide HC) hn (by omega)).mono ?_
      rintro e w1 ⟨x, rfl, ⟨hx0, hx1⟩, hC, hg⟩
      have HC1 := hide hC
      have HG1 := hide hg
      clear hC hg
      go_wp2_with fail
      go_ret
      exact ⟨_, rfl, unhide HM x (by omega), (unhide HC1).more (by omega), unhide HG1⟩

/-- a bool comes back -/
def RetCB (w : World) (g : Nat) (A : Option Addr) (n c : Nat) (xs : List Int) (b : Nat) (e : Ending) (w' : World) : Prop :=
  ∃ x : Bool, e = .returned (.bool x) ∧ Cur w' g A n c xs b ∧ w.grownBy w' (some g)
theorem one_any (g n c b : Nat) (A : Option Addr) (xs : List Int) (k : Int) (w : World) (h : Cur w g A n c xs b) (hn : n ≤ 1048576) (hb : b ≤ 4611686018427387900) (h1 : 1 ≤ k) (h2 : k ≤ 1000000) :
    Calls Tryz.prog 34 #[.pointer (some ⟨g, 0, none⟩), .int .i64 k] w (RetCB w g A n c xs (b + 2)) := by
  have HP := hide (pick_any g n c b A xs k w h hn hb h1 h2)
  clear h
  go_enter Tryz.func34, Tryz.ntmps34
  go_wp2_with fail
  refine (unhide HP).mono ?_
  rintro e w1 ⟨x, rfl, ⟨hx0, hx1⟩, hC, hg⟩
  have HC1 := hide hC
  have HG1 := hide hg
  clear hC hg
  go_wp2_with fail
  go_ret
  exact ⟨_, rfl, unhide HC1, unhide HG1⟩

set_option maxHeartbeats 1000000 in
/-- one of the numbers of a row that lies elsewhere -/
theorem among_any (g n c b : Nat) (A : Option Addr) (xs : List Int) (L : Option Addr) (m d : Nat) (ys : List Int) (w : World) (h : Cur w g A n c xs b) (hn : n ≤ 1048576) (hb : b ≤ 4611686018427387900) (hr : RI w w.heap.size L m ys) (hg : ∀ a, L = some a → a.block ≠ g) (h1 : 1 ≤ m) (h2 : m ≤ 1000000) :
    Calls Tryz.prog 44 #[.pointer (some ⟨g, 0, none⟩), .slice L m d] w (RetC w g A n c xs (b + 2) fun x => x ∈ ys) := by
  have HP := hide (pick_any g n c b A xs m w h hn hb (by omega) (by omega))
  have HR := hide hr
  have HA := hide hg
  clear h hr hg
  go_enter Tryz.func44, Tryz.ntmps44
  go_wp2_with fail
  refine (unhide HP).mono ?_
  rintro e w1 ⟨x, rfl, ⟨hx0, hx1⟩, hC, hg⟩
  have HC1 := hide hC
  have HG1 := hide hg
  clear hC hg
  obtain ⟨k, rfl⟩ : ∃ k : Nat, x = (k : Int) := ⟨x.toNat, by omega⟩
  obtain ⟨ad, y, rfl, hbk, hy, hc⟩ := (unhide HR).get (k := k) (by omega)
  have hc' : w1.cell? (ad.add k) = some (.int .i64 y) := (World.cell?_of_block ((unhide HG1).block (ad.add k).block (by rw [block_of_add]; exact hbk) (by rw [block_of_add]; intro e; injection e with e; exact unhide HA _ rfl e))).trans hc
  have l1 : (k : Int) < (m : Int) := hx1
  have l2 : k < m := by omega
  clear hc
  go_wp2_with fail
  go_ret
  exact ⟨y, rfl, List.mem_of_getElem? (unhide hy), unhide HC1, unhide HG1⟩
end Go.Proofs.YtdpmpdhhjmbbcaaGreatDoor
