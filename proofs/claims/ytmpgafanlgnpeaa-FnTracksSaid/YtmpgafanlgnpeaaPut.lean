/- Chapter 5, the walks: a mark put to its place in a track: the reference's. -/
import Derived.Test.YtmpgafanlgnpeaaProg
import Derived.Test.YtmpgafanlgnpeaaAdd
import Derived.Deep.RegionHeld3
namespace Go.Proofs.Ytmpgafanlgnpeaa
open Go.RowKit

/-- the same append, handing over which block grew -/
theorem step_append_marks3 {w : World} {ops : Array Oper} {o : Oper} {a : Act} {K : Act → World → Prop} {Q : Exit → Act → World → Prop} {E : Prop} (hgd : o.guard = none) (s x : Operand)
    (ho : o.op = .call { callee := .builtin .append, args := #[s, x], argTypes := #[25, 25] })
    (w0 : World) (A : Option Addr) (n c : Nat) (xs : List (Int × Int)) (hs : a.eval s = .slice A n c) (hown : OwnP w w0.heap.size 43 A n c xs) (hb : Below w0.heap.size w0 w)
    (B : Option Addr) (m c2 L : Nat) (ys : List (Int × Int)) (hx : a.eval x = .slice B m c2) (hr : RP w L B m ys) (p : Nat) (hp : n + m = p) (hn : p ≤ 1000000000)
    (h : ∀ A' c' w', OwnP w' w0.heap.size 43 A' p c' (xs ++ ys) → Below w0.heap.size w0 w' → w.grownBy w' (Value.slice A n c).ownBlock → K (a.put o.dst (.slice A' p c')) w') : if Region.wanted o (yielded ops a.tmps) = true then Oper.wp Try.prog o a w K Q else E := by
  subst hp
  obtain ⟨i0, hi, hz0, hz1, hz2⟩ := info_parts info_ClockMark
  exact step_append_many w (by simp [Region.wanted, hgd]) s x 25 ho w0.heap.size 43 i0 (.agg #[.int .i64 0, .int .i64 0]) 2 16 Try.underlying25 hi hz0 hz1 hz2 rfl (by decide) A n c (cP xs) hs hown L B m c2 (cP ys) hx hr (cP_one ys) (by unfold maxLen; omega) (by omega) hb.size
    fun A' c' w' h2 h3 h4 => h A' c' w' (by unfold OwnP; rw [cP_append]; exact h2) (hown.grow hb (Nat.le_refl _) hb.size h3) h3
/-- an empty row in the block that comes next -/
theorem ownP_empty' (w : World) {g lo : Nat} (hg : g = w.heap.size) (hl : lo ≤ g) : OwnP (w.alloc (.cells #[] 43)) lo 43 (some ⟨g, 0, none⟩) 0 0 [] := by
  subst hg
  exact OwnP.empty w _ hl
/-- a block that an append doesn't write -/
theorem Whl.grown {w w' : World} {g b c n : Nat} {T : TypeId} {cs : Array Value} (h : Whl w g T cs) (hgr : w.grownBy w' (Value.slice (some ⟨b, 0, none⟩) n c).ownBlock) (hne : b ≠ g) : Whl w' g T cs :=
  (hgr.block g h.lt (fun e => hne (Option.some.inj e).symm)).trans h
theorem putK_step {m : Int × Int} {xs : List (Int × Int)} {k : Nat} {a b : Int} (h : xs[k]? = some (a, b)) : putK m (xs.drop k) = if a < m.1 then putK m (xs.drop (k + 1)) + 1 else 0 := by
  obtain ⟨h1, h2⟩ := List.getElem?_eq_some_iff.1 h
  rw [List.drop_eq_getElem_cons h1, h2, putK]

set_option maxHeartbeats 4000000 in
set_option maxRecDepth 100000 in
theorem specPut_any (A : Option Addr) (n c : Nat) (xs : List (Int × Int)) (x y : Int) (w : World) (hr : RP w w.heap.size A n xs) (hn : n ≤ 4194304) (hc : n ≤ c) (hm : c ≤ 9223372036854775807) :
    Calls Try.prog 71 #[.slice A n c, .agg #[.int .i64 x, .int .i64 y]] w (RetP w 43 (putF (x, y) xs)) := by
  have HL := hide hr.len
  have HR := hide hr
  clear hr
  go_enter Try.func71, Try.ntmps71
  go_wp2_with fail
  have K1 : Hid (Whl (w.alloc (.cells #[.int .i64 x, .int .i64 y] 43)) w.heap.size 43 #[.int .i64 x, .int .i64 y]) := Whl.here w _ _
  have HB1 : Hid (Below w.heap.size w (w.alloc (.cells #[.int .i64 x, .int .i64 y] 43))) := (Below.refl _ w).alloc (Nat.le_refl _) _
  generalize w.alloc (.cells #[.int .i64 x, .int .i64 y] 43) = w1 at K1 HB1 ⊢
  go_loopw [5] (fun i wr => ∃ k : Nat, k ≤ n ∧ i = .int .i64 k ∧ Hid (putK (x, y) xs = k + putK (x, y) (xs.drop k)) ∧ Hid (Below w1.heap.size w1 wr)) (fun i _ => n - (intOf i).toNat)
  case atStart => exact ⟨0, by omega, rfl, by simp [Hid], Below.refl _ _⟩
  case round =>
    obtain ⟨k, hk, rfl, hP, hB⟩ := hrel
    have K2 := hide (Whl.below (unhide K1) (unhide hB))
    have HB2 := hide (below_next (unhide HB1) (unhide hB))
    have HR2 := hide (((unhide HR).below (unhide HB2)).more (unhide HB2).size)
    have k1 : wr.cell? ⟨w.heap.size, 0, none⟩ = some (.int .i64 x) := (unhide K2).cell 0
    have k2 : wr.cell? ⟨w.heap.size, 1, none⟩ = some (.int .i64 y) := (unhide K2).cell 1
    by_cases hlt : k < n
    · obtain ⟨ad, a, b, rfl, hbx, hx, hc0, hc1⟩ := (unhide HR2).get hlt
      have l1 : (k : Int) < (n : Int) := by omega
      have l2 : (0 : Int) ≤ (k : Int) := by omega
      have s1 : IntKind.i64.wrap ((k : Int) + 1) = (k : Int) + 1 := IntWalk.i64_in _ (by omega)
      by_cases ht : a < x
      · have HP2 : Hid (putK (x, y) xs = (k + 1) + putK (x, y) (xs.drop (k + 1))) := by unfold Hid; rw [unhide hP, putK_step (unhide hx), if_pos ht]; omega
        go_wp2_with fail
        go_quiet (fail)
        go_wp2_with fail
        go_roundw
        case rel => exact ⟨k + 1, by omega, by go_num, HP2, below_drewN (unhide hB) _⟩
        case measure => simp [intOf]; omega
      · have HP2 : Hid (putK (x, y) xs = k) := by unfold Hid; rw [unhide hP, putK_step (unhide hx), if_neg ht, Nat.add_zero]
        go_wp2_with fail
        go_quiet (fail)
        go_wp2_with fail
        have Kq := hide (Whl.below (unhide K2) (below_drewN (Below.refl wr.heap.size wr) nq))
        have HBq := hide (below_drewN (unhide HB2) nq)
        have HRq := hide (((unhide HR2).below (below_drewN (Below.refl wr.heap.size wr) nq)).more (below_drewN (Below.refl wr.heap.size wr) nq).size)
        generalize wr.drewN nq = wq at Kq HBq HRq ⊢
        clear k1 k2 l1
        have k1 : wq.cell? ⟨w.heap.size, 0, none⟩ = some (.int .i64 x) := (unhide Kq).cell 0
        have k2 : wq.cell? ⟨w.heap.size, 1, none⟩ = some (.int .i64 y) := (unhide Kq).cell 1
        have HT := hide ((unhide HRq).take (k := k) (by omega))
        have l2 : (0 : Int) ≤ (k : Int) := by omega
        have l3 : k ≤ c := by omega
        have l4 : (k : Int) ≤ (n : Int) := by omega
        have hne : ¬ c = k := by omega
        have HD : Hid (RP wq wq.heap.size (some (ad.add (k * 2))) (n - k) (xs.drop k)) := by
          have h9 := (unhide HRq).cut hk hc
          rw [if_neg hne] at h9
          exact h9
        go_region_held3 (fun w' => w'.cell? ⟨w.heap.size, 0, none⟩ = some (.int .i64 x) ∧ w'.cell? ⟨w.heap.size, 1, none⟩ = some (.int .i64 y))
          (((with_reducible refine two_cells (T := 43) ?_); (repeat (first | with_reducible exact unhide K5 | with_reducible exact unhide K4 | with_reducible exact unhide K3 | with_reducible exact unhide Kq | with_reducible refine Whl.alloc ?_ _ | with_reducible refine Whl.drew ?_))))
          (first
            | (refine step_append_marks3 (by rfl) _ _ (by rfl) wq _ 0 0 [] (by rfl) ?_ ?_ (some ad) k c wq.heap.size (xs.take k) (by rfl) ((unhide HT).below (by (repeat (first | exact Below.refl _ _ | refine Below.drew ?_ | refine Below.alloc ?_ (by first | omega | (simp <;> omega)) _)))) k (Nat.zero_add k) ?_ ?_; (first | exact ownP_empty' wq rfl (Nat.le_refl _) | exact (ownP_empty' wq rfl (Nat.le_refl _)).alloc _ | exact ownP_empty' (wq.alloc _) (by simp) (by simp)); (exact (by (repeat (first | exact Below.refl _ _ | refine Below.drew ?_ | refine Below.alloc ?_ (by first | omega | (simp <;> omega)) _)))); omega; intro A1 c1 w6 hO6 hB6 hg6; have HO6 := hide hO6; have HB6 := hide hB6; have K3 := hide (Whl.below (unhide Kq) ((unhide HB6).mono (Nat.le_refl _))); clear HT hO6 hB6; (first | (have U6 := hide (Whl.grown (b := wq.heap.size) (g := wq.heap.size + 1) (T := 43) (cs := #[.int .i64 x, .int .i64 y]) (by first | exact Whl.drew (Whl.here' _ _ _ (by simp)) | exact Whl.here' _ _ _ (by simp)) hg6 (by omega))) | (have U6 := hide (Whl.grown (b := wq.heap.size + 1) (g := wq.heap.size) (T := 43) (cs := #[.int .i64 x, .int .i64 y]) (by first | exact Whl.drew (Whl.alloc (Whl.here' wq _ _ rfl) _) | exact Whl.alloc (Whl.here' wq _ _ rfl) _) hg6 (by omega))) | skip))
            | (refine step_append_marks3 (by rfl) _ _ (by rfl) wq A1 k c1 (xs.take k) (by rfl) ?_ ?_ _ 1 1 _ [(x, y)] (by rfl) (rp_one (T := 43) ?_ (Nat.lt_succ_self _)) (k + 1) (by rfl) ?_ ?_; (first | exact unhide HO6 | exact (unhide HO6).alloc _); (first | exact unhide HB6 | exact (unhide HB6).alloc (unhide HB6).size _); (first | exact unhide U6 | exact Whl.here _ _ _); omega; intro A2 c2 w7 hO7 hB7 hg7; have HO7 := hide hO7; have HB7 := hide hB7; clear hO7 hB7 hg7 HO6 HB6; have K4 := hide (Whl.below (unhide Kq) ((unhide HB7).mono (Nat.le_refl _))))
            | (refine step_append_marks3 (by rfl) _ _ (by rfl) wq A2 (k + 1) c2 (xs.take k ++ [(x, y)]) (by rfl) (unhide HO7) (unhide HB7) _ _ _ wq.heap.size (xs.drop k) (by rfl) ?_ (n + 1) ?_ ?_ ?_; (exact (unhide HD).below (unhide HB7)); omega; omega; intro A3 c3 w8 hO8 hB8 hg8; have HO8 := hide hO8; have HB8 := hide hB8; clear hO8 hB8 hg8; have K5 := hide (Whl.below (unhide Kq) (unhide HB8))))
        all_goals
          go_wp2_with fail
          go_ret
          exact ⟨A3, n + 1, c3, rfl, by unfold putF; rw [unhide HP2]; exact OwnP.less (unhide HO8) (unhide HBq).size, below_next (unhide HBq) (unhide HB8)⟩
    · obtain rfl : n = k := by omega
      have HP2 : Hid (putK (x, y) xs = n) := by unfold Hid; rw [unhide hP, List.drop_eq_nil_of_le (by have := unhide HL; omega)]; rfl
      have l1 : ¬ (n : Int) < (n : Int) := by omega
      clear hP hlt hk
      by_cases hcn : c = n
      · obtain rfl : n = c := hcn.symm
        go_wp2_with fail
        go_quiet (fail)
        go_wp2_with fail
        have Kq := hide (Whl.below (unhide K2) (below_drewN (Below.refl wr.heap.size wr) nq))
        have HBq := hide (below_drewN (unhide HB2) nq)
        have HRq := hide (((unhide HR2).below (below_drewN (Below.refl wr.heap.size wr) nq)).more (below_drewN (Below.refl wr.heap.size wr) nq).size)
        generalize wr.drewN nq = wq at Kq HBq HRq ⊢
        clear k1 k2 l1
        have k1 : wq.cell? ⟨w.heap.size, 0, none⟩ = some (.int .i64 x) := (unhide Kq).cell 0
        have k2 : wq.cell? ⟨w.heap.size, 1, none⟩ = some (.int .i64 y) := (unhide Kq).cell 1
        have HT := hide ((unhide HRq).take (k := n) (by omega))
        clear hc hcn
        have HD : ∀ X, Hid (RP wq wq.heap.size X 0 (xs.drop n)) := fun X => by
          rw [List.drop_of_length_le (by have := unhide HL; omega)]
          exact ⟨by simp [cP], fun h => absurd h (by omega)⟩
        go_region_held3 (fun w' => w'.cell? ⟨w.heap.size, 0, none⟩ = some (.int .i64 x) ∧ w'.cell? ⟨w.heap.size, 1, none⟩ = some (.int .i64 y))
          (((with_reducible refine two_cells (T := 43) ?_); (repeat (first | with_reducible exact unhide K5 | with_reducible exact unhide K4 | with_reducible exact unhide K3 | with_reducible exact unhide Kq | with_reducible refine Whl.alloc ?_ _ | with_reducible refine Whl.drew ?_))))
          (first
            | (refine step_append_marks3 (by rfl) _ _ (by rfl) wq _ 0 0 [] (by rfl) ?_ ?_ A n n wq.heap.size (xs.take n) (by rfl) ((unhide HT).below (by (repeat (first | exact Below.refl _ _ | refine Below.drew ?_ | refine Below.alloc ?_ (by first | omega | (simp <;> omega)) _)))) n (Nat.zero_add n) ?_ ?_; (first | exact ownP_empty' wq rfl (Nat.le_refl _) | exact (ownP_empty' wq rfl (Nat.le_refl _)).alloc _ | exact ownP_empty' (wq.alloc _) (by simp) (by simp)); (exact (by (repeat (first | exact Below.refl _ _ | refine Below.drew ?_ | refine Below.alloc ?_ (by first | omega | (simp <;> omega)) _)))); omega; intro A1 c1 w6 hO6 hB6 hg6; have HO6 := hide hO6; have HB6 := hide hB6; have K3 := hide (Whl.below (unhide Kq) ((unhide HB6).mono (Nat.le_refl _))); clear HT hO6 hB6; (first | (have U6 := hide (Whl.grown (b := wq.heap.size) (g := wq.heap.size + 1) (T := 43) (cs := #[.int .i64 x, .int .i64 y]) (by first | exact Whl.drew (Whl.here' _ _ _ (by simp)) | exact Whl.here' _ _ _ (by simp)) hg6 (by omega))) | (have U6 := hide (Whl.grown (b := wq.heap.size + 1) (g := wq.heap.size) (T := 43) (cs := #[.int .i64 x, .int .i64 y]) (by first | exact Whl.drew (Whl.alloc (Whl.here' wq _ _ rfl) _) | exact Whl.alloc (Whl.here' wq _ _ rfl) _) hg6 (by omega))) | skip))
            | (refine step_append_marks3 (by rfl) _ _ (by rfl) wq A1 n c1 (xs.take n) (by rfl) ?_ ?_ _ 1 1 _ [(x, y)] (by rfl) (rp_one (T := 43) ?_ (Nat.lt_succ_self _)) (n + 1) (by rfl) ?_ ?_; (first | exact unhide HO6 | exact (unhide HO6).alloc _); (first | exact unhide HB6 | exact (unhide HB6).alloc (unhide HB6).size _); (first | exact unhide U6 | exact Whl.here _ _ _); omega; intro A2 c2 w7 hO7 hB7 hg7; have HO7 := hide hO7; have HB7 := hide hB7; clear hO7 hB7 hg7 HO6 HB6; have K4 := hide (Whl.below (unhide Kq) ((unhide HB7).mono (Nat.le_refl _))))
            | (refine step_append_marks3 (by rfl) _ _ (by rfl) wq A2 (n + 1) c2 (xs.take n ++ [(x, y)]) (by rfl) (unhide HO7) (unhide HB7) _ _ _ wq.heap.size (xs.drop n) (by rfl) ?_ (n + 1) ?_ ?_ ?_; (exact (unhide (HD _)).below (unhide HB7)); omega; omega; intro A3 c3 w8 hO8 hB8 hg8; have HO8 := hide hO8; have HB8 := hide hB8; clear hO8 hB8 hg8; have K5 := hide (Whl.below (unhide Kq) (unhide HB8))))
        all_goals
          go_wp2_with fail
          go_ret
          exact ⟨A3, n + 1, c3, rfl, by unfold putF; rw [unhide HP2]; exact OwnP.less (unhide HO8) (unhide HBq).size, below_next (unhide HBq) (unhide HB8)⟩
      · rcases A with _ | ad
        · go_wp2_with fail
          go_quiet (fail)
          go_wp2_with fail
          have Kq := hide (Whl.below (unhide K2) (below_drewN (Below.refl wr.heap.size wr) nq))
          have HBq := hide (below_drewN (unhide HB2) nq)
          have HRq := hide (((unhide HR2).below (below_drewN (Below.refl wr.heap.size wr) nq)).more (below_drewN (Below.refl wr.heap.size wr) nq).size)
          generalize wr.drewN nq = wq at Kq HBq HRq ⊢
          clear k1 k2 l1
          have k1 : wq.cell? ⟨w.heap.size, 0, none⟩ = some (.int .i64 x) := (unhide Kq).cell 0
          have k2 : wq.cell? ⟨w.heap.size, 1, none⟩ = some (.int .i64 y) := (unhide Kq).cell 1
          have HT := hide ((unhide HRq).take (k := n) (by omega))
          
          have HD : ∀ X, Hid (RP wq wq.heap.size X 0 (xs.drop n)) := fun X => by
            rw [List.drop_of_length_le (by have := unhide HL; omega)]
            exact ⟨by simp [cP], fun h => absurd h (by omega)⟩
          go_region_held3 (fun w' => w'.cell? ⟨w.heap.size, 0, none⟩ = some (.int .i64 x) ∧ w'.cell? ⟨w.heap.size, 1, none⟩ = some (.int .i64 y))
            (((with_reducible refine two_cells (T := 43) ?_); (repeat (first | with_reducible exact unhide K5 | with_reducible exact unhide K4 | with_reducible exact unhide K3 | with_reducible exact unhide Kq | with_reducible refine Whl.alloc ?_ _ | with_reducible refine Whl.drew ?_))))
            (first
              | (refine step_append_marks3 (by rfl) _ _ (by rfl) wq _ 0 0 [] (by rfl) ?_ ?_ none n c wq.heap.size (xs.take n) (by rfl) ((unhide HT).below (by (repeat (first | exact Below.refl _ _ | refine Below.drew ?_ | refine Below.alloc ?_ (by first | omega | (simp <;> omega)) _)))) n (Nat.zero_add n) ?_ ?_; (first | exact ownP_empty' wq rfl (Nat.le_refl _) | exact (ownP_empty' wq rfl (Nat.le_refl _)).alloc _ | exact ownP_empty' (wq.alloc _) (by simp) (by simp)); (exact (by (repeat (first | exact Below.refl _ _ | refine Below.drew ?_ | refine Below.alloc ?_ (by first | omega | (simp <;> omega)) _)))); omega; intro A1 c1 w6 hO6 hB6 hg6; have HO6 := hide hO6; have HB6 := hide hB6; have K3 := hide (Whl.below (unhide Kq) ((unhide HB6).mono (Nat.le_refl _))); clear HT hO6 hB6; (first | (have U6 := hide (Whl.grown (b := wq.heap.size) (g := wq.heap.size + 1) (T := 43) (cs := #[.int .i64 x, .int .i64 y]) (by first | exact Whl.drew (Whl.here' _ _ _ (by simp)) | exact Whl.here' _ _ _ (by simp)) hg6 (by omega))) | (have U6 := hide (Whl.grown (b := wq.heap.size + 1) (g := wq.heap.size) (T := 43) (cs := #[.int .i64 x, .int .i64 y]) (by first | exact Whl.drew (Whl.alloc (Whl.here' wq _ _ rfl) _) | exact Whl.alloc (Whl.here' wq _ _ rfl) _) hg6 (by omega))) | skip))
              | (refine step_append_marks3 (by rfl) _ _ (by rfl) wq A1 n c1 (xs.take n) (by rfl) ?_ ?_ _ 1 1 _ [(x, y)] (by rfl) (rp_one (T := 43) ?_ (Nat.lt_succ_self _)) (n + 1) (by rfl) ?_ ?_; (first | exact unhide HO6 | exact (unhide HO6).alloc _); (first | exact unhide HB6 | exact (unhide HB6).alloc (unhide HB6).size _); (first | exact unhide U6 | exact Whl.here _ _ _); omega; intro A2 c2 w7 hO7 hB7 hg7; have HO7 := hide hO7; have HB7 := hide hB7; clear hO7 hB7 hg7 HO6 HB6; have K4 := hide (Whl.below (unhide Kq) ((unhide HB7).mono (Nat.le_refl _))))
              | (refine step_append_marks3 (by rfl) _ _ (by rfl) wq A2 (n + 1) c2 (xs.take n ++ [(x, y)]) (by rfl) (unhide HO7) (unhide HB7) _ _ _ wq.heap.size (xs.drop n) (by rfl) ?_ (n + 1) ?_ ?_ ?_; (exact (unhide (HD _)).below (unhide HB7)); omega; omega; intro A3 c3 w8 hO8 hB8 hg8; have HO8 := hide hO8; have HB8 := hide hB8; clear hO8 hB8 hg8; have K5 := hide (Whl.below (unhide Kq) (unhide HB8))))
          all_goals
            go_wp2_with fail
            go_ret
            exact ⟨A3, n + 1, c3, rfl, by unfold putF; rw [unhide HP2]; exact OwnP.less (unhide HO8) (unhide HBq).size, below_next (unhide HBq) (unhide HB8)⟩
        · go_wp2_with fail
          go_quiet (fail)
          go_wp2_with fail
          have Kq := hide (Whl.below (unhide K2) (below_drewN (Below.refl wr.heap.size wr) nq))
          have HBq := hide (below_drewN (unhide HB2) nq)
          have HRq := hide (((unhide HR2).below (below_drewN (Below.refl wr.heap.size wr) nq)).more (below_drewN (Below.refl wr.heap.size wr) nq).size)
          generalize wr.drewN nq = wq at Kq HBq HRq ⊢
          clear k1 k2 l1
          have k1 : wq.cell? ⟨w.heap.size, 0, none⟩ = some (.int .i64 x) := (unhide Kq).cell 0
          have k2 : wq.cell? ⟨w.heap.size, 1, none⟩ = some (.int .i64 y) := (unhide Kq).cell 1
          have HT := hide ((unhide HRq).take (k := n) (by omega))
          
          have HD : ∀ X, Hid (RP wq wq.heap.size X 0 (xs.drop n)) := fun X => by
            rw [List.drop_of_length_le (by have := unhide HL; omega)]
            exact ⟨by simp [cP], fun h => absurd h (by omega)⟩
          go_region_held3 (fun w' => w'.cell? ⟨w.heap.size, 0, none⟩ = some (.int .i64 x) ∧ w'.cell? ⟨w.heap.size, 1, none⟩ = some (.int .i64 y))
            (((with_reducible refine two_cells (T := 43) ?_); (repeat (first | with_reducible exact unhide K5 | with_reducible exact unhide K4 | with_reducible exact unhide K3 | with_reducible exact unhide Kq | with_reducible refine Whl.alloc ?_ _ | with_reducible refine Whl.drew ?_))))
            (first
              | (refine step_append_marks3 (by rfl) _ _ (by rfl) wq _ 0 0 [] (by rfl) ?_ ?_ (some ad) n c wq.heap.size (xs.take n) (by rfl) ((unhide HT).below (by (repeat (first | exact Below.refl _ _ | refine Below.drew ?_ | refine Below.alloc ?_ (by first | omega | (simp <;> omega)) _)))) n (Nat.zero_add n) ?_ ?_; (first | exact ownP_empty' wq rfl (Nat.le_refl _) | exact (ownP_empty' wq rfl (Nat.le_refl _)).alloc _ | exact ownP_empty' (wq.alloc _) (by simp) (by simp)); (exact (by (repeat (first | exact Below.refl _ _ | refine Below.drew ?_ | refine Below.alloc ?_ (by first | omega | (simp <;> omega)) _)))); omega; intro A1 c1 w6 hO6 hB6 hg6; have HO6 := hide hO6; have HB6 := hide hB6; have K3 := hide (Whl.below (unhide Kq) ((unhide HB6).mono (Nat.le_refl _))); clear HT hO6 hB6; (first | (have U6 := hide (Whl.grown (b := wq.heap.size) (g := wq.heap.size + 1) (T := 43) (cs := #[.int .i64 x, .int .i64 y]) (by first | exact Whl.drew (Whl.here' _ _ _ (by simp)) | exact Whl.here' _ _ _ (by simp)) hg6 (by omega))) | (have U6 := hide (Whl.grown (b := wq.heap.size + 1) (g := wq.heap.size) (T := 43) (cs := #[.int .i64 x, .int .i64 y]) (by first | exact Whl.drew (Whl.alloc (Whl.here' wq _ _ rfl) _) | exact Whl.alloc (Whl.here' wq _ _ rfl) _) hg6 (by omega))) | skip))
              | (refine step_append_marks3 (by rfl) _ _ (by rfl) wq A1 n c1 (xs.take n) (by rfl) ?_ ?_ _ 1 1 _ [(x, y)] (by rfl) (rp_one (T := 43) ?_ (Nat.lt_succ_self _)) (n + 1) (by rfl) ?_ ?_; (first | exact unhide HO6 | exact (unhide HO6).alloc _); (first | exact unhide HB6 | exact (unhide HB6).alloc (unhide HB6).size _); (first | exact unhide U6 | exact Whl.here _ _ _); omega; intro A2 c2 w7 hO7 hB7 hg7; have HO7 := hide hO7; have HB7 := hide hB7; clear hO7 hB7 hg7 HO6 HB6; have K4 := hide (Whl.below (unhide Kq) ((unhide HB7).mono (Nat.le_refl _))))
              | (refine step_append_marks3 (by rfl) _ _ (by rfl) wq A2 (n + 1) c2 (xs.take n ++ [(x, y)]) (by rfl) (unhide HO7) (unhide HB7) _ _ _ wq.heap.size (xs.drop n) (by rfl) ?_ (n + 1) ?_ ?_ ?_; (exact (unhide (HD _)).below (unhide HB7)); omega; omega; intro A3 c3 w8 hO8 hB8 hg8; have HO8 := hide hO8; have HB8 := hide hB8; clear hO8 hB8 hg8; have K5 := hide (Whl.below (unhide Kq) (unhide HB8))))
          all_goals
            go_wp2_with fail
            go_ret
            exact ⟨A3, n + 1, c3, rfl, by unfold putF; rw [unhide HP2]; exact OwnP.less (unhide HO8) (unhide HBq).size, below_next (unhide HBq) (unhide HB8)⟩
end Go.Proofs.Ytmpgafanlgnpeaa
