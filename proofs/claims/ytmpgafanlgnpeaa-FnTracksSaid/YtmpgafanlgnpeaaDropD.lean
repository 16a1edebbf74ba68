/- Chapter 5, the walk: the marks that others tell nearly are dropped: the reference's. -/
import Derived.Test.YtmpgafanlgnpeaaProg
import Derived.Test.YtmpgafanlgnpeaaDropC
namespace Go.Proofs.Ytmpgafanlgnpeaa
open Go.RowKit

set_option maxHeartbeats 4000000 in
set_option maxRecDepth 100000 in
theorem specDrop_any (A : Option Addr) (n c : Nat) (xs : List (Int × Int)) (d : Int) (w : World) (hr : RP w w.heap.size A n xs) (hn : n ≤ 2097152) :
    Calls Try.prog 36 #[.slice A n c, .int .i64 d] w (RetMB w (dropR xs d).1 (dropR xs d).2) := by
  have HG := hide (l5Good_any A n c xs w hr (by omega))
  have HL := hide hr.len
  have HR := hide hr
  clear hr
  rcases h1 : trkB xs with _ | _
  · have HRR : Hid (dropR xs d = ([], false)) := by unfold Hid dropR; rw [h1]; rfl
    go_enter Try.func36, Try.ntmps36
    go_wp2_with fail
    rw [h1] at HG
    refine (unhide HG).mono ?_
    rintro e w1 ⟨rfl, hb⟩
    have HB1 := hide hb
    clear hb
    go_wp2_with fail
    go_ret2
    rw [unhide HRR]
    exact ⟨_, 0, 0, rfl, OwnP.empty _ _ (unhide HB1).size, (unhide HB1).alloc (unhide HB1).size _⟩
  · obtain ⟨ht, l2, l10⟩ := trk_of h1
    rw [unhide HL] at l2 l10
    rcases h2 : inB d 0 1000 with _ | _
    · have HRR : Hid (dropR xs d = ([], false)) := by unfold Hid dropR; rw [h1, h2]; rfl
      clear ht
      go_enter Try.func36, Try.ntmps36
      go_wp2_with fail
      rw [h1] at HG
      refine (unhide HG).mono ?_
      rintro e w1 ⟨rfl, hb⟩
      have HB1 := hide hb
      clear hb
      go_wp2_with fail
      refine (l1In_any d _ _ _).mono ?_
      rintro e w9 ⟨rfl, rfl⟩
      rw [h2]
      go_wp2_with fail
      go_ret2
      rw [unhide HRR]
      exact ⟨_, 0, 0, rfl, OwnP.empty _ _ (unhide HB1).size, (unhide HB1).alloc (unhide HB1).size _⟩
    · obtain ⟨d0, d1⟩ := inB_iff.1 h2
      have HRR : Hid (dropR xs d = (dropF d xs 1, true)) := by unfold Hid dropR; rw [h1, h2]; rfl
      have HT := hide ht
      clear ht
      go_enter Try.func36, Try.ntmps36
      go_wp2_with fail
      rw [h1] at HG
      refine (unhide HG).mono ?_
      rintro e w1 ⟨rfl, hb⟩
      have HB1 := hide hb
      clear hb
      go_wp2_with fail
      refine (l1In_any d _ _ _).mono ?_
      rintro e w9 ⟨rfl, rfl⟩
      rw [h2]
      go_wp2_with (at_builtin; refine append_marks _ rfl _ _ rfl w1 _ 0 0 [] rfl (OwnP.empty w1 _ (Nat.le_refl _)) ((Below.refl _ w1).alloc (Nat.le_refl _) _) A n c _ xs rfl (((unhide HR).below (unhide HB1)).alloc (unhide HB1).size _) (by omega) ?_; intro A2 c2 w2 hO hb hg2 hl2)
      have HB2 := hide (below_next (unhide HB1) hb)
      have HO2 : Hid (OwnP w2 w.heap.size 43 A2 n c2 xs) := OwnP.less (by simpa using hO) (unhide HB1).size
      clear hO hb hg2 hl2
      go_wp2_with fail
      go_loopw [6, 7] (fun v i wr => ∃ (k m : Nat) (A' : Option Addr) (c' : Nat) (ys : List (Int × Int)), 1 ≤ k ∧ k ≤ m ∧ 2 ≤ m ∧ m ≤ n ∧ i = .int .i64 k ∧ v = .slice A' m c' ∧ Hid (OwnP wr w.heap.size 43 A' m c' ys) ∧ Hid (Trk ys) ∧ Hid (dropF d ys k = dropF d xs 1) ∧ Hid (Below w.heap.size w wr)) (fun v i _ => (match v with | .slice _ m _ => m | _ => 0) - (intOf i).toNat)
      case atStart => exact ⟨1, n, A2, c2, xs, by omega, by omega, by omega, by omega, rfl, rfl, HO2, HT, rfl, HB2⟩
      case round =>
        obtain ⟨k, m, A', c', ys, hk1, hkm, hm2, hmn, rfl, rfl, hO, hT, hD, hB⟩ := hrel
        by_cases hlt : k + 1 < m
        · obtain ⟨p, rfl⟩ : ∃ p, m = p + 1 := ⟨m - 1, by omega⟩
          have hlm := (unhide hO).len
          obtain ⟨ad, x, y, rfl, hbx, hx, hc0, hc1⟩ := (unhide hO).rp.get (show k < p + 1 by omega)
          have q0 := (unhide hT).sh0 k (by omega)
          have q1 := (unhide hT).tr0 k (by omega)
          have qL := drop_line (unhide hT) hk1 (by omega)
          rw [sh_of (unhide hx)] at q0 qL
          rw [tr_of (unhide hx)] at q1
          dsimp only at q0 q1 qL
          have HLD := hide (del_len (xs := ys) (i := k) (by omega))
          have HTD := hide ((unhide hT).del (i := k) (by omega))
          have HN : Hid (nearB d ys k = decide (max (y - lineF (del ys k) x) (-(y - lineF (del ys k) x)) ≤ d)) := by unfold Hid nearB; rw [sh_of (unhide hx), tr_of (unhide hx)]
          have HTT := hide (fun (B : Option Addr) (c : Nat) (W : World) (h : RP W W.heap.size B p (del ys k)) => l5Line_any B p c (del ys k) x W h (by omega) (by omega) (unhide HTD) ⟨by omega, by omega⟩)
          have HYes := hide (fun h => dropF_yes (d := d) (xs := ys) (i := k) (by omega) h)
          have HNo := hide (fun h => dropF_no (d := d) (xs := ys) (i := k) (by omega) h)
          obtain ⟨q00, q01⟩ := q0
          obtain ⟨q10, q11⟩ := q1
          obtain ⟨q20, q21⟩ := qL
          generalize lineF (del ys k) x = L at HN HTT q20 q21
          have HLM := hide hlm
          clear hlm hx
          have hcap := (unhide hO).cap
          have hmx := (unhide hO).max
          have hne2 : ¬ c' = k + 1 := by omega
          have l1 : k ≤ c' := by omega
          have l2 : k + 1 ≤ p + 1 := by omega
          have l3 : k + 1 ≤ c' := by omega
          have l4 : (0 : Int) ≤ (k : Int) + 1 := by omega
          have l5 : (k : Int) + 1 ≤ (p : Int) + 1 := by omega
          have l6 : (0 : Int) ≤ (k : Int) := by omega
          have s0 : IntKind.i64.wrap ((k : Int) + 1) = (k : Int) + 1 := IntWalk.i64_in _ (by omega)
          have HCut : Hid (RP wr wr.heap.size (some (ad.add ((k + 1) * 2))) (p - k) (ys.drop (k + 1))) := by
            have h9 := (unhide hO).rp.cut (k := k + 1) (cap := c') (by omega) (by omega)
            rw [if_neg hne2, show p + 1 - (k + 1) = p - k by omega] at h9
            exact h9
          go_wp2_with fail
          go_region_law (first | (refine step_append_marks rfl _ _ rfl wr _ _ _ _ rfl hO5 hB5 (some (ad.add ((k + 1) * 2))) _ _ wr.heap.size (ys.drop (k + 1)) rfl ((unhide HCut).below hB5) p (by omega) (by omega) ?_; intro A6 c6 w6 hO6 hB6) | (refine step_append_marks rfl _ _ rfl wr _ 0 0 [] rfl (OwnP.empty _ _ (Nat.le_refl _)) (by repeat (first | exact Below.refl _ _ | refine Below.drew ?_ | refine Below.alloc ?_ (Nat.le_refl _) _)) (some ad) k c' wr.heap.size (ys.take k) rfl (((unhide hO).rp.take (by omega)).below (by repeat (first | exact Below.refl _ _ | refine Below.drew ?_ | refine Below.alloc ?_ (Nat.le_refl _) _))) k (by omega) (by omega) ?_; intro A5 c5 w5 hO5 hB5))
          all_goals
            have HO4 : Hid (OwnP w6 wr.heap.size 43 A6 p c6 (del ys k)) := hO6
            have HB4 := hide hB6
            clear hO6 hB6 hO5 hB5 HCut l1 l2 l3 l4 l5 s0 hne2
            have p0 : ∀ s : Abv w6, s.w.cell? (ad.add (k * 2)) = some (.int .i64 x) := Abv.cell (by rw [block_of_add]; exact Nat.lt_of_lt_of_le hbx (unhide HB4).size) (((unhide HB4).cell (by rw [block_of_add]; exact hbx)).trans hc0)
            have p1 : ∀ s : Abv w6, s.w.cell? ⟨(ad.add (k * 2)).block, (ad.add (k * 2)).off + 1, none⟩ = some (.int .i64 y) := Abv.cell (p := ⟨(ad.add (k * 2)).block, (ad.add (k * 2)).off + 1, none⟩) (by show (ad.add (k * 2)).block < _; rw [block_of_add]; exact Nat.lt_of_lt_of_le hbx (unhide HB4).size) (((unhide HB4).cell (p := ⟨(ad.add (k * 2)).block, (ad.add (k * 2)).off + 1, none⟩) (by show (ad.add (k * 2)).block < _; rw [block_of_add]; exact hbx)).trans hc1)
            have HTS := hide (fun s : Abv w6 => unhide HTT A6 c6 s.w ((unhide HO4).rp.abv s))
            have l1 : (k : Int) < (p : Int) + 1 := by omega
            have l2 : (0 : Int) ≤ (k : Int) := by omega
            have s1 : IntKind.i64.wrap (L - y) = L - y := IntWalk.i64_in _ (by omega)
            have s2 : IntKind.i64.wrap (-d) = -d := IntWalk.i64_in _ (by omega)
            clear hc0 hc1
            rcases ht : inB (L - y) (-d) d with _ | _
            · have hn : nearB d ys k = false := by
                rw [unhide HN]
                have := inB_no.1 ht
                exact decide_eq_false (by omega)
              have HD2 : Hid (dropF d ys (k + 1) = dropF d xs 1) := by unfold Hid; rw [unhide HNo hn]; exact unhide hD
              have HI := hide (fun W => l1In_any (L - y) (-d) d W)
              rw [ht] at HI
              clear HN HYes HNo hn ht
              go_simp
              go_wp2_with fail
              refine wp_region_abv w6 (by kernel_rfl) (by kernel_rfl) (Below.refl _ _) ?_
              repeat (go_big_quiet_step ((first | (go_at_call 64; exact Calls.abv (unhide HTS _)) | (go_at_call 74; exact Calls.abv_same (unhide HI _)))))
              refine wpQuiet_nil ?_
              intro _ hw'
              obtain ⟨s, hw''⟩ := hw'
              subst hw''
              clear s1 s2
              go_wp2_with fail
              go_roundw
              case rel => exact ⟨k + 1, p + 1, some ad, c', ys, by omega, by omega, by omega, by omega, by go_num, rfl, (unhide hO).below (below_next (unhide HB4) s.h) (Nat.le_refl _), hT, HD2, below_next (unhide hB) (below_next (unhide HB4) s.h)⟩
              case measure => simp [intOf]; omega
            · have hn : nearB d ys k = true := by
                rw [unhide HN]
                have := inB_iff.1 ht
                exact decide_eq_true (by omega)
              have HD2 : Hid (dropF d (del ys k) k = dropF d xs 1) := by unfold Hid; rw [unhide HYes hn]; exact unhide hD
              have HTD2 := hide ((unhide hT).del (i := k) (by have := unhide HLM; omega))
              have HI := hide (fun W => l1In_any (L - y) (-d) d W)
              rw [ht] at HI
              clear HN HYes HNo hn ht
              go_simp
              go_wp2_with fail
              refine wp_region_abv w6 (by kernel_rfl) (by kernel_rfl) (Below.refl _ _) ?_
              repeat (go_big_quiet_step ((first | (go_at_call 64; exact Calls.abv (unhide HTS _)) | (go_at_call 74; exact Calls.abv_same (unhide HI _)))))
              refine wpQuiet_nil ?_
              intro _ hw'
              obtain ⟨s, hw''⟩ := hw'
              subst hw''
              clear s1 s2
              go_wp2_with fail
              go_roundw
              case rel => exact ⟨k, p, A6, c6, del ys k, by omega, by omega, by omega, by omega, rfl, rfl, ((unhide HO4).below s.h (Nat.le_refl _)).less (unhide hB).size, HTD2, HD2, below_next (unhide hB) (below_next (unhide HB4) s.h)⟩
              case measure => simp [intOf]; omega
        · have HE : Hid (ys = dropF d xs 1) := by have := unhide hD; rw [dropF_end (by have := (unhide hO).len; omega)] at this; exact this
          go_wp2_with fail
          go_ret2
          rw [unhide HRR, ← unhide HE]
          exact ⟨A', m, c', rfl, unhide hO, unhide hB⟩
end Go.Proofs.Ytmpgafanlgnpeaa
