/- Chapter 5, the walks: two tracks in one: the reference's. (By gen_mergeB.py.) -/
import Derived.Test.YtmpgafanlgnpeaaProg
import Derived.Test.YtmpgafanlgnpeaaMerge
import Derived.Test.YtmpgafanlgnpeaaDrawP
namespace Go.Proofs.Ytmpgafanlgnpeaa
open Go Go.RowKit

theorem ownP_cmx {w : World} {lo n c : Nat} {E : TypeId} {A : Option Addr} {xs : List (Int × Int)} (h : OwnP w lo E A n c xs) : c ≤ 9223372036854775807 := by
  rcases h.2 with ⟨hv, h0⟩ | ⟨g, cap, cur, hv, hg, hh, hle, hm, _⟩
  · injection hv with _ _ h3
    omega
  · injection hv with _ _ h3
    unfold maxLen at hm
    omega
theorem putsF_snoc (a l b : List (Int × Int)) (m : Int × Int) : putsF a l (b ++ [m]) = if m ∈ a then putsF a l b else putF m (putsF a l b) := by
  unfold putsF
  rw [List.foldl_append]
  rfl
theorem mem_take_step {xs : List (Int × Int)} {j : Nat} {p m : Int × Int} (h : xs[j]? = some p) : (m ∈ xs.take (j + 1)) ↔ (m ∈ xs.take j ∨ m = p) := by
  rw [List.take_add_one, h]
  simp

set_option maxHeartbeats 4000000 in
set_option maxRecDepth 100000 in
theorem specMerge_any (A B : Option Addr) (n m c d : Nat) (xs ys : List (Int × Int)) (w : World) (hx : RP w w.heap.size A n xs) (hy : RP w w.heap.size B m ys) (hn : n ≤ 1048576) (hm : m ≤ 1048576) :
    Calls Try.prog 45 #[.slice A n c, .slice B m d] w (RetMB w (mrgR xs ys).1 (mrgR xs ys).2) := by
  have HLX := hide hx.len
  have HLY := hide hy.len
  have HG1 := hide (l5Good_any A n c xs w hx (by omega))
  have HY := hide (fun (W : World) (hb : Below w.heap.size w W) => l5Good_any B m d ys W ((hy.below hb).more hb.size) (by omega))
  have HRX := hide (fun (W : World) (hb : Below w.heap.size w W) => (hx.below hb).more hb.size)
  have HRY := hide (fun (W : World) (hb : Below w.heap.size w W) => (hy.below hb).more hb.size)
  clear hx hy
  go_enter Try.func45, Try.ntmps45
  go_wp2_with fail
  rcases t1 : trkB xs with _ | _
  · have HRR : Hid (mrgR xs ys = ([], false)) := by unfold Hid mrgR; rw [t1]; rfl
    rw [t1] at HG1
    refine (unhide HG1).mono ?_
    rintro e w2 ⟨rfl, hb⟩
    have HB2 := hide hb
    clear hb
    go_wp2_with fail
    go_ret2
    rw [unhide HRR]
    exact ⟨_, 0, 0, rfl, OwnP.empty _ _ (unhide HB2).size, (unhide HB2).alloc (unhide HB2).size _⟩
  · rcases t2 : trkB ys with _ | _
    · have HRR : Hid (mrgR xs ys = ([], false)) := by unfold Hid mrgR; rw [t1, t2]; rfl
      rw [t1] at HG1
      refine (unhide HG1).mono ?_
      rintro e w2 ⟨rfl, hb⟩
      have HB2 := hide hb
      have HY2 := hide (unhide HY w2 hb)
      rw [t2] at HY2
      clear hb HY
      go_wp2_with fail
      refine (unhide HY2).mono ?_
      rintro e w3 ⟨rfl, hb⟩
      have HB3 := hide (below_next (unhide HB2) hb)
      clear hb
      go_wp2_with fail
      go_ret2
      rw [unhide HRR]
      exact ⟨_, 0, 0, rfl, OwnP.empty _ _ (unhide HB3).size, (unhide HB3).alloc (unhide HB3).size _⟩
    · have HMS := hide (merge_same (trk_of t1).1 (trk_of t2).1)
      have hn10 : n ≤ 10 := by have := (trk_of t1).2.2; have := unhide HLX; omega
      have hm10 : m ≤ 10 := by have := (trk_of t2).2.2; have := unhide HLY; omega
      rw [t1] at HG1
      refine (unhide HG1).mono ?_
      rintro e w2 ⟨rfl, hb⟩
      have HB2 := hide hb
      have HY2 := hide (unhide HY w2 hb)
      rw [t2] at HY2
      clear hb HY HG1
      go_wp2_with fail
      refine (unhide HY2).mono ?_
      rintro e w3 ⟨rfl, hb⟩
      have HB3 := hide (below_next (unhide HB2) hb)
      have HX3 := hide (unhide HRX w3 (unhide HB3))
      clear hb HB2 HY2
      go_wp2_with (at_builtin; refine append_marks _ rfl _ _ rfl w3 _ 0 0 [] rfl (OwnP.empty w3 _ (Nat.le_refl _)) ((Below.refl _ w3).alloc (Nat.le_refl _) _) A n c _ xs rfl ((unhide HX3).alloc (Nat.le_refl _) _) (by omega) ?_; intro A4 c4 w4 hO4 hB4 hg4 hl4)
      have HO4 := hide (show OwnP w4 w3.heap.size 43 A4 n c4 xs by simpa using hO4)
      have HB4 := hide (below_next (unhide HB3) hB4)
      have hz3 := (unhide HB3).size
      have hz4 := hide hB4.size
      clear hO4 hB4 hg4 hl4 HX3 HB3
      go_loopw [6, 7] (fun v i wr => ∃ (k p : Nat) (A' : Option Addr) (c' : Nat), k ≤ m ∧ p ≤ n + k ∧ i = .int .i64 k ∧ v = .slice A' p c' ∧ Hid (OwnP wr w3.heap.size 43 A' p c' (putsF xs xs (ys.take k))) ∧ Hid (Below w.heap.size w wr) ∧ Hid (w3.heap.size ≤ wr.heap.size)) (fun _ i _ => m - (intOf i).toNat)
      case atStart => exact ⟨0, n, A4, c4, by omega, by omega, rfl, rfl, HO4, HB4, hz4⟩
      case round =>
        clear HO4 HB4
        obtain ⟨k, p, A', c', hk, hp, rfl, rfl, hO, hB, HW3⟩ := hrel
        obtain ⟨wo, rfl⟩ : ∃ wo : World, wo = wr := ⟨_, rfl⟩
        by_cases hlt : k < m
        · obtain ⟨ae, y0, y1, rfl, hby, hy, hd0, hd1⟩ := (unhide HRY _ (unhide hB)).get hlt
          have HPS : Hid (putsF xs xs (ys.take (k + 1)) = if (y0, y1) ∈ xs then putsF xs xs (ys.take k) else putF (y0, y1) (putsF xs xs (ys.take k))) := by
            unfold Hid
            rw [List.take_add_one, unhide hy]
            exact putsF_snoc _ _ _ _
          have l1 : (k : Int) < (m : Int) := by omega
          have l2 : (0 : Int) ≤ (k : Int) := by omega
          have HD0 := hide (fun (W : World) (hb : Below wo.heap.size wo W) => (hb.cell (p := ae.add (k * 2)) (by rw [block_of_add]; exact hby)).trans hd0)
          have HD1 := hide (fun (W : World) (hb : Below wo.heap.size wo W) => (hb.cell (p := ⟨(ae.add (k * 2)).block, (ae.add (k * 2)).off + 1, none⟩) (by rw [block_of_add]; exact hby)).trans hd1)
          clear hd0 hd1 hy
          go_wp2_with fail
          go_loopw [8, 9] (fun ag i wr => ∃ (j : Nat), j ≤ n ∧ i = .int .i64 j ∧ ag = .bool (decide ((y0, y1) ∈ xs.take j)) ∧ Hid (Below wo.heap.size wo wr)) (fun _ i _ => n - (intOf i).toNat)
          case atStart => exact ⟨0, Nat.zero_le _, rfl, by simp, Below.refl _ _⟩
          case round =>
            obtain ⟨j, hj, rfl, rfl, hQ⟩ := hrel
            by_cases hjn : j < n
            · obtain ⟨ad, x0, x1, rfl, hbx, hx, hc0, hc1⟩ := (unhide HRX _ (below_next (unhide hB) (unhide hQ))).get hjn
              have hd0 := unhide HD0 _ (unhide hQ)
              have hd1 := unhide HD1 _ (unhide hQ)
              have HST := hide (mem_take_step (m := (y0, y1)) (unhide hx))
              have l3 : (j : Int) < (n : Int) := by omega
              have l4 : (0 : Int) ≤ (j : Int) := by omega
              have q1 := noGuard
              clear hx
              rcases hag : decide ((y0, y1) ∈ xs.take j) with _ | _
              · have hna : ¬ (y0, y1) ∈ xs.take j := of_decide_eq_false hag
                rcases ht : (x0 == y0 && x1 == y1) with _ | _
                · have hE : ∀ W, (Go.binOp .eql 43 (.agg #[.int .i64 x0, .int .i64 x1]) (.agg #[.int .i64 y0, .int .i64 y1])).run Try.prog W = .ok (.bool false) W := fun W => by rw [run_eql_mark, ht]
                  have HN2 : Hid (decide ((y0, y1) ∈ xs.take (j + 1)) = false) := by
                    unfold Hid
                    rw [decide_eq_false_iff_not, unhide HST]
                    rintro (h | h)
                    · exact hna h
                    · injection h with h1 h2
                      subst h1 h2
                      simp at ht
                  clear ht hag hna HST
                  go_wp2_with fail
                  go_quiet (fail)
                  clear hE
                  go_wp2_with fail
                  go_roundw
                  case rel => exact ⟨j + 1, by omega, by go_num, by rw [unhide HN2], below_drewN (unhide hQ) _⟩
                  case measure => simp [intOf]; omega
                · have hE : ∀ W, (Go.binOp .eql 43 (.agg #[.int .i64 x0, .int .i64 x1]) (.agg #[.int .i64 y0, .int .i64 y1])).run Try.prog W = .ok (.bool true) W := fun W => by rw [run_eql_mark, ht]
                  have HN2 : Hid (decide ((y0, y1) ∈ xs.take (j + 1)) = true) := by
                    unfold Hid
                    rw [decide_eq_true_iff, unhide HST]
                    rw [Bool.and_eq_true, beq_iff_eq, beq_iff_eq] at ht
                    exact .inr (by rw [ht.1, ht.2])
                  clear ht hag hna HST
                  go_wp2_with fail
                  go_quiet (fail)
                  clear hE
                  go_wp2_with fail
                  go_roundw
                  case rel => exact ⟨j + 1, by omega, by go_num, by rw [unhide HN2], below_drewN (unhide hQ) _⟩
                  case measure => simp [intOf]; omega
              · have HN2 : Hid (decide ((y0, y1) ∈ xs.take (j + 1)) = true) := by
                  unfold Hid
                  rw [decide_eq_true_iff, unhide HST]
                  exact .inl (of_decide_eq_true hag)
                clear hag HST
                go_wp2_with fail
                go_quiet (fail)
                go_wp2_with fail
                go_roundw
                case rel => exact ⟨j + 1, by omega, by go_num, by rw [unhide HN2], below_drewN (unhide hQ) _⟩
                case measure => simp [intOf]; omega
            · obtain rfl : j = n := by omega
              have HT : Hid (xs.take j = xs) := List.take_of_length_le (by have := unhide HLX; omega)
              rw [unhide HT]
              have HB2 := hide (below_next (unhide hB) (unhide hQ))
              have HO2 := hide ((unhide hO).below (unhide hQ) (Nat.le_refl _))
              have hd0 := unhide HD0 _ (unhide hQ)
              have hd1 := unhide HD1 _ (unhide hQ)
              have l5 : ¬ (j : Int) < (j : Int) := by omega
              rcases hag : decide ((y0, y1) ∈ xs) with _ | _
              · have hna : ¬ (y0, y1) ∈ xs := of_decide_eq_false hag
                have HP := hide (specPut_any A' p c' _ y0 y1 _ (unhide HO2).rp (by omega) (unhide HO2).cap (ownP_cmx (unhide HO2)))
                have HPL := hide (putF_len (y0, y1) (putsF xs xs (ys.take k)))
                have HOL := hide (unhide HO2).len
                rw [if_neg hna] at HPS
                clear hna hag
                go_wp2_with fail
                refine (unhide HP).mono ?_
                rintro e wq ⟨A5, p5, c5, rfl, hO5, hb⟩
                have hp5 : p5 = p + 1 := by have := hO5.len; have := unhide HPL; have := unhide HOL; omega
                have HO5 := hide (OwnP.less hO5 (Nat.le_trans (show w3.heap.size ≤ wo.heap.size from (unhide HW3)) (unhide hQ).size))
                have HB5 := hide (below_next (unhide HB2) hb)
                have hb9 := hb.size
                clear hO5 hb HP hd0 hd1
                have hp6 : p5 ≤ j + (k + 1) := by omega
                clear hp5
                go_wp2_with fail
                go_roundw
                case rel => exact ⟨k + 1, p5, A5, c5, by omega, by omega, by go_num, rfl, by rw [unhide HPS]; exact HO5, HB5, Nat.le_trans (unhide HW3) (Nat.le_trans (unhide hQ).size hb9)⟩
                case measure => simp [intOf]; omega
              · rw [if_pos (of_decide_eq_true hag)] at HPS
                clear hag hd0 hd1
                go_wp2_with fail
                go_roundw
                case rel => exact ⟨k + 1, p, A', c', by omega, by omega, by go_num, rfl, by rw [unhide HPS]; exact HO2, HB2, Nat.le_trans (unhide HW3) (unhide hQ).size⟩
                case measure => simp [intOf]; omega
        · obtain rfl : k = m := by omega
          have HT : Hid (ys.take k = ys) := List.take_of_length_le (by have := unhide HLY; omega)
          rw [unhide HT] at hO
          have HGo := hide (l5Good_any A' p c' _ wo (unhide hO).rp (by omega))
          have l5 : ¬ (k : Int) < (k : Int) := by omega
          rcases t3 : trkB (putsF xs xs ys) with _ | _
          · have HRR : Hid (mrgR xs ys = ([], false)) := by unfold Hid mrgR; rw [t1, t2, (unhide HMS).1, t3]; rfl
            rw [t3] at HGo
            go_wp2_with fail
            refine (unhide HGo).mono ?_
            rintro e w5 ⟨rfl, hb⟩
            have HB5 := hide (below_next (unhide hB) hb)
            clear hb
            go_wp2_with fail
            go_ret2
            rw [unhide HRR]
            exact ⟨_, 0, 0, rfl, OwnP.empty _ _ (unhide HB5).size, (unhide HB5).alloc (unhide HB5).size _⟩
          · have HRR : Hid (mrgR xs ys = (putsF xs xs ys, true)) := by unfold Hid mrgR; rw [t1, t2, (unhide HMS).1, t3, (unhide HMS).2 t3]; rfl
            rw [t3] at HGo
            go_wp2_with fail
            refine (unhide HGo).mono ?_
            rintro e w5 ⟨rfl, hb⟩
            have HB5 := hide (below_next (unhide hB) hb)
            have HO5 := hide ((unhide hO).below hb (Nat.le_refl _))
            clear hb
            go_wp2_with fail
            go_ret2
            rw [unhide HRR]
            exact ⟨A', p, c', rfl, OwnP.less (unhide HO5) hz3, unhide HB5⟩
end Go.Proofs.Ytmpgafanlgnpeaa
