/- Chapter 5, the walks: two tracks in one: the program's and the reference's. (By gen_merge.py.) -/
import Derived.Test.YtmpgafanlgnpeaaProg
import Derived.Test.YtmpgafanlgnpeaaCompact
import Derived.Test.YtmpgafanlgnpeaaConM
namespace Go.Proofs.Ytmpgafanlgnpeaa
open Go Go.RowKit

theorem Compact_any (lo : Nat) (A : Option Addr) (n c : Nat) (xs : List (Int × Int)) (w : World) (h : OwnP w lo 43 A n c xs) (hn : n ≤ 4194304) :
    Calls Try.prog 82 #[.slice A n c] w (RetOwn w lo A n c (cmpct xs)) := by
  by_cases h2 : 2 ≤ n
  · obtain ⟨g, rfl, _⟩ := h.form (by omega)
    exact Compact_big lo g n c xs w h h2 hn
  · have HE : Hid (cmpct xs = xs) := by
      have hl := h.len
      match xs, hl with
      | [], _ => rfl
      | [x], _ => rfl
      | x :: y :: l, hl => simp at hl; omega
    have HO := hide h
    clear h
    have h3 : (n : Int) < 2 := by omega
    go_enter Try.func82, Try.ntmps82
    go_wp2_with fail
    go_ret
    rw [unhide HE]
    exact ⟨n, rfl, unhide HO, World.grownBy.refl _ _⟩

set_option maxHeartbeats 4000000 in
set_option maxRecDepth 100000 in
theorem implMerge_any (A B : Option Addr) (n m c d : Nat) (xs ys : List (Int × Int)) (w : World) (hx : RP w w.heap.size A n xs) (hy : RP w w.heap.size B m ys) (hn : n ≤ 1048576) (hm : m ≤ 1048576) :
    Calls Try.prog 46 #[.slice A n c, .slice B m d] w (RetMB w (mrgR xs ys).1 (mrgR xs ys).2) := by
  have HLX := hide hx.len
  have HLY := hide hy.len
  have HX := hide (fun (W : World) (hb : Below w.heap.size w W) => implIsTrack_any A n c xs W ((hx.below hb).more hb.size) (by omega))
  have HY := hide (fun (W : World) (hb : Below w.heap.size w W) => implIsTrack_any B m d ys W ((hy.below hb).more hb.size) (by omega))
  have HRX := hide hx
  have HRY := hide hy
  clear hx hy
  go_enter Try.func46, Try.ntmps46
  go_wp2_with fail
  have HB1 : Hid (Below w.heap.size w (w.alloc (.cells #[.slice A n c, .slice B m d] 25))) := (Below.refl _ w).alloc (Nat.le_refl _) _
  have HW1 : Hid (Whl (w.alloc (.cells #[.slice A n c, .slice B m d] 25)) w.heap.size 25 #[.slice A n c, .slice B m d]) := Whl.here w _ _
  generalize w.alloc (.cells #[.slice A n c, .slice B m d] 25) = w1 at HB1 HW1 ⊢
  refine (Concat_two ⟨w.heap.size, 0, none⟩ A B n m c d xs ys w1 (((unhide HRX).below (unhide HB1)).more (unhide HB1).size) (((unhide HRY).below (unhide HB1)).more (unhide HB1).size) hn hm (unhide HW1).lt ((unhide HW1).cell 0) ((unhide HW1).cell 1)).mono ?_
  rintro e w2 ⟨A2, n2, c2, rfl, hO, hb⟩
  have hn2 : n2 ≤ 2097152 := by have h9 := hO.len; rw [List.length_append] at h9; have := unhide HLX; have := unhide HLY; omega
  have HB2 := hide (below_next (unhide HB1) hb)
  have HO2 := hide hO
  clear hO hb HW1
  go_wp2_with fail
  refine (ordered_any A2 n2 c2 _ (xs ++ ys) _ (unhide HO2).rp (Nat.le_refl _) (by omega)).mono ?_
  rintro e w3 ⟨A3, n3, c3, rfl, hO, hb⟩
  have hn3 : n3 ≤ 2097152 := by have h9 := hO.len; rw [osort_len] at h9; have := (unhide HO2).len; omega
  have HB3 := hide (below_next (unhide HB2) hb)
  have HO3 := hide (OwnP.less hO (unhide HB2).size)
  clear hO hb HO2
  go_wp2_with fail
  refine (Compact_any w.heap.size A3 n3 c3 _ _ (unhide HO3) (by omega)).mono ?_
  rintro e w4 ⟨n4, rfl, hO, hg⟩
  have hn4 : n4 ≤ 2097152 := by have h9 := hO.len; have := cmpct_len (osort (xs ++ ys)); have := (unhide HO3).len; omega
  have HB4 := hide ((unhide HO3).grow (unhide HB3) (Nat.le_refl _) (unhide HB3).size hg)
  have HG4 := hide (implIsTrack_any A3 n4 c3 _ w4 hO.rp (by omega))
  have HG5 := hide (fun (W : World) (hb : Below w4.heap.size w4 W) => implIsTrack_any A3 n4 c3 _ W ((hO.rp.below hb).more hb.size) (by omega))
  have HO4 := hide hO
  have HX4 := hide (unhide HX w4 (unhide HB4))
  clear hO hg HO3 HB3 HB2 HB1 HX HG4
  rcases t1 : trkB xs with _ | _
  · have HRR : Hid (mrgR xs ys = ([], false)) := by unfold Hid mrgR; rw [t1]; rfl
    rw [t1] at HX4
    go_wp2_with fail
    refine (unhide HX4).mono ?_
    rintro e w5 ⟨rfl, hb⟩
    have HB5 := hide (below_next (unhide HB4) hb)
    clear hb
    go_wp2_with fail
    go_ret2
    rw [unhide HRR]
    exact ⟨none, 0, 0, rfl, OwnP.nil _ _ _, unhide HB5⟩
  · rw [t1] at HX4
    rcases t2 : trkB ys with _ | _
    · have HRR : Hid (mrgR xs ys = ([], false)) := by unfold Hid mrgR; rw [t1, t2]; rfl
      go_wp2_with fail
      refine (unhide HX4).mono ?_
      rintro e w5 ⟨rfl, hb⟩
      have HB5 := hide (below_next (unhide HB4) hb)
      have HY5 := hide (unhide HY w5 (unhide HB5))
      rw [t2] at HY5
      clear hb HY
      go_wp2_with fail
      refine (unhide HY5).mono ?_
      rintro e w6 ⟨rfl, hb⟩
      have HB6 := hide (below_next (unhide HB5) hb)
      clear hb
      go_wp2_with fail
      go_ret2
      rw [unhide HRR]
      exact ⟨none, 0, 0, rfl, OwnP.nil _ _ _, unhide HB6⟩
    · rcases t3 : trkB (cmpct (osort (xs ++ ys))) with _ | _
      all_goals rw [t3] at HG5
      · have HRR : Hid (mrgR xs ys = ([], false)) := by unfold Hid mrgR; rw [t1, t2, t3]; rfl
        go_wp2_with fail
        refine (unhide HX4).mono ?_
        rintro e w5 ⟨rfl, hb⟩
        have HB5 := hide (below_next (unhide HB4) hb)
        have HC5 := hide hb
        have HY5 := hide (unhide HY w5 (unhide HB5))
        rw [t2] at HY5
        clear hb HY
        go_wp2_with fail
        refine (unhide HY5).mono ?_
        rintro e w6 ⟨rfl, hb⟩
        have HB6 := hide (below_next (unhide HB5) hb)
        have HC6 := hide (below_next (unhide HC5) hb)
        have HG6 := hide (unhide HG5 w6 (unhide HC6))
        clear hb
        go_wp2_with fail
        refine (unhide HG6).mono ?_
        rintro e w7 ⟨rfl, hb⟩
        have HB7 := hide (below_next (unhide HB6) hb)
        have HC7 := hide (below_next (unhide HC6) hb)
        clear hb
        go_wp2_with fail
        go_ret2
        rw [unhide HRR]
        exact ⟨none, 0, 0, rfl, OwnP.nil _ _ _, unhide HB7⟩
      · have HRR : Hid (mrgR xs ys = (cmpct (osort (xs ++ ys)), true)) := by unfold Hid mrgR; rw [t1, t2, t3]; rfl
        go_wp2_with fail
        refine (unhide HX4).mono ?_
        rintro e w5 ⟨rfl, hb⟩
        have HB5 := hide (below_next (unhide HB4) hb)
        have HC5 := hide hb
        have HY5 := hide (unhide HY w5 (unhide HB5))
        rw [t2] at HY5
        clear hb HY
        go_wp2_with fail
        refine (unhide HY5).mono ?_
        rintro e w6 ⟨rfl, hb⟩
        have HB6 := hide (below_next (unhide HB5) hb)
        have HC6 := hide (below_next (unhide HC5) hb)
        have HG6 := hide (unhide HG5 w6 (unhide HC6))
        clear hb
        go_wp2_with fail
        refine (unhide HG6).mono ?_
        rintro e w7 ⟨rfl, hb⟩
        have HB7 := hide (below_next (unhide HB6) hb)
        have HC7 := hide (below_next (unhide HC6) hb)
        clear hb
        go_wp2_with fail
        go_ret2
        rw [unhide HRR]
        exact ⟨_, _, _, rfl, (unhide HO4).below (unhide HC7) (Nat.le_refl _), unhide HB7⟩
end Go.Proofs.Ytmpgafanlgnpeaa
