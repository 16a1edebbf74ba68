/- Chapter 5, the walk: the marks that others tell nearly are dropped: the program's. -/
import Derived.Test.YtmpgafanlgnpeaaProg
import Derived.Test.YtmpgafanlgnpeaaDropB
import Derived.Test.YtmpgafanlgnpeaaClkB
namespace Go.Proofs.Ytmpgafanlgnpeaa
open Go.RowKit

/-- fresh marks and a bool come back -/
def RetMB (w : World) (ys : List (Int × Int)) (b : Bool) (e : Ending) (w' : World) : Prop := ∃ A n c, e = .returned (.tuple #[.slice A n c, .bool b]) ∧ OwnP w' w.heap.size 43 A n c ys ∧ Below w.heap.size w w'
/-- the line without mark i, at what mark i shows, lies within the ticks -/
theorem drop_line {xs : List (Int × Int)} (h : Trk xs) {i : Nat} (h1 : 1 ≤ i) (h2 : i + 1 < xs.length) : 0 ≤ lineF (del xs i) (sh xs i) ∧ lineF (del xs i) (sh xs i) ≤ 1000000 := by
  have hl := del_len (xs := xs) (i := i) (by omega)
  have ht := h.del (i := i) (by omega)
  have e0 := line_mark ht (by omega) (k := 0) (by omega)
  have e1 := line_mark ht (by omega) (k := xs.length - 2) (by omega)
  have s0 : sh (del xs i) 0 ≤ sh xs i := by
    rw [sh_del (by omega), if_pos (by omega)]
    exact h.sh_le (by omega) (by omega)
  have s1 : sh xs i ≤ sh (del xs i) (xs.length - 2) := by
    rw [sh_del (by omega), if_neg (by omega)]
    exact h.sh_le (by omega) (by omega)
  have m0 := line_mono ht (by omega) s0
  have m1 := line_mono ht (by omega) s1
  have t0 := ht.tr0 0 (by omega)
  have t1 := ht.tr0 (xs.length - 2) (by omega)
  rw [e0] at m0
  rw [e1] at m1
  omega
theorem RP.abv {W : World} {A : Option Addr} {n : Nat} {xs : List (Int × Int)} (h : RP W W.heap.size A n xs) (s : Abv W) : RP s.w s.w.heap.size A n xs := (h.below s.h).more s.h.size

set_option maxHeartbeats 4000000 in
set_option maxRecDepth 100000 in
theorem implDrop_any (A : Option Addr) (n c : Nat) (xs : List (Int × Int)) (d : Int) (w : World) (hr : RP w w.heap.size A n xs) (hn : n ≤ 2097152) :
    Calls Try.prog 37 #[.slice A n c, .int .i64 d] w (RetMB w (dropR xs d).1 (dropR xs d).2) := by
  have HG := hide (implIsTrack_any A n c xs w hr (by omega))
  have HL := hide hr.len
  have HR := hide hr
  clear hr
  rcases h1 : trkB xs with _ | _
  · have HRR : Hid (dropR xs d = ([], false)) := by unfold Hid dropR; rw [h1]; rfl
    go_enter Try.func37, Try.ntmps37
    go_wp2_with fail
    rw [h1] at HG
    refine (unhide HG).mono ?_
    rintro e w1 ⟨rfl, hb⟩
    have HB1 := hide hb
    clear hb
    go_wp2_with fail
    go_ret2
    rw [unhide HRR]
    exact ⟨none, 0, 0, rfl, OwnP.nil _ _ _, unhide HB1⟩
  · obtain ⟨ht, l2, l10⟩ := trk_of h1
    rw [unhide HL] at l2 l10
    rcases h2 : inB d 0 1000 with _ | _
    · have HRR : Hid (dropR xs d = ([], false)) := by unfold Hid dropR; rw [h1, h2]; rfl
      clear ht
      go_enter Try.func37, Try.ntmps37
      go_wp2_with fail
      rw [h1] at HG
      refine (unhide HG).mono ?_
      rintro e w1 ⟨rfl, hb⟩
      have HB1 := hide hb
      clear hb
      go_wp2_with fail
      refine (in_any d _ _ _).mono ?_
      rintro e w9 ⟨rfl, rfl⟩
      rw [h2]
      go_wp2_with fail
      go_ret2
      rw [unhide HRR]
      exact ⟨none, 0, 0, rfl, OwnP.nil _ _ _, unhide HB1⟩
    · obtain ⟨d0, d1⟩ := inB_iff.1 h2
      have HRR : Hid (dropR xs d = (dropF d xs 1, true)) := by unfold Hid dropR; rw [h1, h2]; rfl
      have HT := hide ht
      clear ht
      go_enter Try.func37, Try.ntmps37
      go_wp2_with fail
      rw [h1] at HG
      refine (unhide HG).mono ?_
      rintro e w1 ⟨rfl, hb⟩
      have HB1 := hide hb
      clear hb
      go_wp2_with fail
      refine (in_any d _ _ _).mono ?_
      rintro e w9 ⟨rfl, rfl⟩
      rw [h2]
      go_wp2_with fail
      refine (copyM_any A n c _ xs _ ((unhide HR).below (unhide HB1)) (unhide HB1).size hn).mono ?_
      rintro e w2 ⟨A2, n2, c2, rfl, hO, hb⟩
      have e2 : n2 = n := by have := hO.len; have := unhide HL; omega
      subst e2
      have HB2 := hide (below_next (unhide HB1) hb)
      have HO2 := hide (OwnP.less hO (unhide HB1).size)
      clear hO hb
      go_wp2_with fail
      go_loopw [6, 7] (fun v i wr => ∃ (k m : Nat) (A' : Option Addr) (c' : Nat) (ys : List (Int × Int)), 1 ≤ k ∧ 2 ≤ m ∧ m ≤ n2 ∧ i = .int .i64 k ∧ v = .slice A' m c' ∧ Hid (OwnP wr w.heap.size 43 A' m c' ys) ∧ Hid (Trk ys) ∧ Hid (dropF d ys k = dropF d xs 1) ∧ Hid (Below w.heap.size w wr)) (fun v i _ => (match v with | .slice _ m _ => m | _ => 0) - (intOf i).toNat)
      case atStart => exact ⟨1, n2, A2, c2, xs, by omega, by omega, by omega, rfl, rfl, HO2, HT, rfl, HB2⟩
      case round =>
        obtain ⟨k, m, A', c', ys, hk1, hm2, hmn, rfl, rfl, hO, hT, hD, hB⟩ := hrel
        by_cases hlt : k + 1 < m
        · obtain ⟨p, rfl⟩ : ∃ p, m = p + 1 := ⟨m - 1, by omega⟩
          have hlm := (unhide hO).len
          obtain ⟨ad, x, y, rfl, hbx, hx, hc0, hc1⟩ := (unhide hO).rp.get (show k < p + 1 by omega)
          have q0 := (unhide hT).sh0 k (by omega)
          have q1 := (unhide hT).tr0 k (by omega)
          have qL := drop_line (unhide hT) hk1 (by omega)
          rw [sh_of (unhide hx)] at q0 qL
          rw [tr_of (unhide hx)] at q1
          dsimp only at q0 q1 qL
          have HLD := hide (del_len (xs := ys) (i := k) (by omega))
          have HTD := hide ((unhide hT).del (i := k) (by omega))
          have HN : Hid (nearB d ys k = decide (max (y - lineF (del ys k) x) (-(y - lineF (del ys k) x)) ≤ d)) := by unfold Hid nearB; rw [sh_of (unhide hx), tr_of (unhide hx)]
          have HTT := hide (fun (B : Option Addr) (c : Nat) (W : World) (h : RP W W.heap.size B p (del ys k)) => trueTick_any B p c (del ys k) x W h (by omega) (by omega) (unhide HTD) ⟨by omega, by omega⟩)
          have HYes := hide (fun h => dropF_yes (d := d) (xs := ys) (i := k) (by omega) h)
          have HNo := hide (fun h => dropF_no (d := d) (xs := ys) (i := k) (by omega) h)
          have HA := hide (fun W => abs_any (y - lineF (del ys k) x) W (by omega) (by omega))
          obtain ⟨q00, q01⟩ := q0
          obtain ⟨q10, q11⟩ := q1
          obtain ⟨q20, q21⟩ := qL
          generalize lineF (del ys k) x = L at HN HTT HA q20 q21
          have HLM := hide hlm
          clear hlm hx
          go_wp2_with fail
          refine (copyM_any (some ad) (p + 1) c' _ ys _ (unhide hO).rp (Nat.le_refl _) (by omega)).mono ?_
          rintro e w3 ⟨A3, n3, c3, rfl, hO3, hb3⟩
          obtain rfl : n3 = p + 1 := by have := hO3.len; have := unhide HLM; omega
          obtain ⟨g, rfl, hg0, hg1, hg2⟩ := hO3.form (by omega)
          have HO3 := hide hO3
          have HB3 := hide hb3
          have hz3 := hb3.size
          clear hO3 hb3
          go_wp2_with fail
          refine (Delete_any wr.heap.size g k p c3 ys _ (unhide HO3) (by omega) (by omega)).mono ?_
          rintro e w4 ⟨m4, rfl, hO4, hg4⟩
          obtain rfl : m4 = p := by have := hO4.len; have := unhide HLD; have := unhide HLM; omega
          have HB4 := hide ((unhide HB3).grown hg4 hz3 (fun k0 e0 => by injection e0 with e0; omega))
          have HO4 := hide hO4
          clear hO4 hg4 hg1 hz3 HB3 HO3
          have p0 : ∀ s : Abv w4, s.w.cell? (ad.add (k * 2)) = some (.int .i64 x) := Abv.cell (by rw [block_of_add]; exact Nat.lt_of_lt_of_le hbx (unhide HB4).size) (((unhide HB4).cell (by rw [block_of_add]; exact hbx)).trans hc0)
          have p1 : ∀ s : Abv w4, s.w.cell? ⟨(ad.add (k * 2)).block, (ad.add (k * 2)).off + 1, none⟩ = some (.int .i64 y) := Abv.cell (p := ⟨(ad.add (k * 2)).block, (ad.add (k * 2)).off + 1, none⟩) (by show (ad.add (k * 2)).block < _; rw [block_of_add]; exact Nat.lt_of_lt_of_le hbx (unhide HB4).size) (((unhide HB4).cell (p := ⟨(ad.add (k * 2)).block, (ad.add (k * 2)).off + 1, none⟩) (by show (ad.add (k * 2)).block < _; rw [block_of_add]; exact hbx)).trans hc1)
          have HTS := hide (fun s : Abv w4 => unhide HTT (some ⟨g, 0, none⟩) c3 s.w ((unhide HO4).rp.abv s))
          have l1 : (k : Int) < (m4 : Int) + 1 := by omega
          have l2 : (0 : Int) ≤ (k : Int) := by omega
          have s1 : IntKind.i64.wrap (y - L) = y - L := IntWalk.i64_in _ (by omega)
          generalize max (y - L) (-(y - L)) = M at HN HA
          clear hc0 hc1 HTT HTD
          rcases ht : decide (M ≤ d) with _ | _
          · have HD2 : Hid (dropF d ys (k + 1) = dropF d xs 1) := by unfold Hid; rw [unhide HNo (by rw [unhide HN, ht])]; exact unhide hD
            clear HN HYes HNo
            go_wp2_with fail
            refine wp_region_abv w4 (by kernel_rfl) (by kernel_rfl) (Below.refl _ _) ?_
            repeat (go_big_quiet_step ((first | (go_at_call 65; exact Calls.abv (unhide HTS _)) | (go_at_call 70; exact Calls.abv_same (unhide HA _)))))
            refine wpQuiet_nil ?_
            intro _ hw'
            obtain ⟨s, hw''⟩ := hw'
            subst hw''
            clear s1
            go_wp2_with fail
            go_roundw
            case rel => exact ⟨k + 1, m4 + 1, some ad, c', ys, by omega, by omega, by omega, by go_num, rfl, (unhide hO).below (below_next (unhide HB4) s.h) (Nat.le_refl _), hT, HD2, below_next (unhide hB) (below_next (unhide HB4) s.h)⟩
            case measure => simp [intOf]; omega
          · have HD2 : Hid (dropF d (del ys k) k = dropF d xs 1) := by unfold Hid; rw [unhide HYes (by rw [unhide HN, ht])]; exact unhide hD
            have HTD := hide ((unhide hT).del (i := k) (by have := unhide HLM; omega))
            clear HN HYes HNo
            go_wp2_with fail
            refine wp_region_abv w4 (by kernel_rfl) (by kernel_rfl) (Below.refl _ _) ?_
            repeat (go_big_quiet_step ((first | (go_at_call 65; exact Calls.abv (unhide HTS _)) | (go_at_call 70; exact Calls.abv_same (unhide HA _)))))
            refine wpQuiet_nil ?_
            intro _ hw'
            obtain ⟨s, hw''⟩ := hw'
            subst hw''
            clear s1
            go_wp2_with fail
            go_roundw
            case rel => exact ⟨k, m4, some ⟨g, 0, none⟩, c3, del ys k, by omega, by omega, by omega, rfl, rfl, ((unhide HO4).below s.h (Nat.le_refl _)).less (unhide hB).size, HTD, HD2, below_next (unhide hB) (below_next (unhide HB4) s.h)⟩
            case measure => simp [intOf]; omega
        · have HE : Hid (ys = dropF d xs 1) := by have := unhide hD; rw [dropF_end (by have := (unhide hO).len; omega)] at this; exact this
          go_wp2_with fail
          go_ret2
          rw [unhide HRR, ← unhide HE]
          exact ⟨A', m, c', rfl, unhide hO, unhide hB⟩
end Go.Proofs.Ytmpgafanlgnpeaa
