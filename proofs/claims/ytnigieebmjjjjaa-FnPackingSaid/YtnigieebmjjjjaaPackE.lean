/- Chapter 4, the walks: FromDifferences; widths counted: the program's and the reference's. -/
import Derived.Test.YtnigieebmjjjjaaProg
import Derived.Test.YtnigieebmjjjjaaPackD
import Derived.Deep.DeepCutAuto
namespace Go.Proofs.Ytnigieebmjjjjaa
open Go.RowKit

/-- all differences are taken -/
def fromB (ds : List Int) : Bool := decide (ds.length ≤ (readI ds).length)
theorem readI_len (ds : List Int) : (readI ds).length ≤ 24 ∧ (readI ds).length ≤ ds.length := by
  have := readGo_len [] 0 ds (by simp)
  simpa [readI] using this


set_option maxHeartbeats 400000 in
theorem specFromDifferences_any (A : Option Addr) (n c : Nat) (ds : List Int) (w : World) (hr : RI w w.heap.size A n ds) (hn : n ≤ 1048576) :
    Calls Try.prog 20 #[.slice A n c] w (RetIB w (if fromB ds then readI ds else []) (fromB ds)) := by
  have HC := hide (l4Sum_any A n c ds w hr hn)
  have HL := hide hr.len
  have HN := hide (readI_len ds)
  clear hr
  cases hq : fromB ds with
  | false =>
    have HQ : Hid (¬ ds.length ≤ (readI ds).length) := by unfold fromB at hq; unfold Hid; simpa using hq
    go_enter Try.func20, Try.ntmps20
    go_wp2_with fail
    refine (unhide HC).mono ?_
    rintro e w1 ⟨A2, n2, c2, rfl, hO, hB⟩
    have hlt : n2 < n := by have := hO.len; have := unhide HL; have := unhide HQ; omega
    have HO := hide hO
    have HB := hide hB
    clear hO hB
    have ht : ((n2 : Int) != (n : Int)) = true := by simp; omega
    go_wp2
    go_ret2
    exact ⟨_, _, _, rfl, (OwnI.empty _ (unhide HB).size), (unhide HB).alloc (unhide HB).size _⟩
  | true =>
    have HQ : Hid (ds.length ≤ (readI ds).length) := by unfold fromB at hq; unfold Hid; simpa using hq
    go_enter Try.func20, Try.ntmps20
    go_wp2_with fail
    refine (unhide HC).mono ?_
    rintro e w1 ⟨A2, n2, c2, rfl, hO, hB⟩
    have hge : n ≤ n2 := by have := hO.len; have := unhide HL; have := unhide HQ; omega
    have hle : n2 ≤ n := by have := hO.len; have := (unhide HN).2; have := unhide HL; omega
    have HO := hide hO
    have HB := hide hB
    clear hO hB
    have ht : ((n2 : Int) != (n : Int)) = false := by simp; omega
    go_wp2
    go_ret2
    exact ⟨_, _, _, rfl, unhide HO, unhide HB⟩

set_option maxHeartbeats 400000 in
theorem implFromDifferences_any (A : Option Addr) (n c : Nat) (ds : List Int) (w : World) (hr : RI w w.heap.size A n ds) (hn : n ≤ 1048576) :
    Calls Try.prog 21 #[.slice A n c] w (RetIB w (if fromB ds then readI ds else []) (fromB ds)) := by
  have HC := hide (readable_any A n c ds w hr hn)
  have HL := hide hr.len
  have HN := hide (readI_len ds)
  clear hr
  cases hq : fromB ds with
  | false =>
    have HQ : Hid (¬ ds.length ≤ (readI ds).length) := by unfold fromB at hq; unfold Hid; simpa using hq
    go_enter Try.func21, Try.ntmps21
    go_wp2_with fail
    refine (unhide HC).mono ?_
    rintro e w1 ⟨A2, n2, c2, rfl, hO, hB⟩
    have hlt : n2 < n := by have := hO.len; have := unhide HL; have := unhide HQ; omega
    have HO := hide hO
    have HB := hide hB
    clear hO hB
    have ht : (n2 : Int) < (n : Int) := by omega
    go_wp2
    go_ret2
    exact ⟨none, 0, 0, rfl, OwnI.nil _ _, unhide HB⟩
  | true =>
    have HQ : Hid (ds.length ≤ (readI ds).length) := by unfold fromB at hq; unfold Hid; simpa using hq
    go_enter Try.func21, Try.ntmps21
    go_wp2_with fail
    refine (unhide HC).mono ?_
    rintro e w1 ⟨A2, n2, c2, rfl, hO, hB⟩
    have hge : n ≤ n2 := by have := hO.len; have := unhide HL; have := unhide HQ; omega
    have hle : n2 ≤ n := by have := hO.len; have := (unhide HN).2; have := unhide HL; omega
    have HO := hide hO
    have HB := hide hB
    clear hO hB
    have ht : ¬ ((n2 : Int) < (n : Int)) := by omega
    go_wp2
    go_ret2
    exact ⟨_, _, _, rfl, unhide HO, unhide HB⟩

/-! ### widths -/
/-- how many differences are packed to 1, 2 and 3 bytes, among the first k -/
def cntK (xs : List Int) : Nat → List Int
  | 0 => [0, 0, 0]
  | k + 1 => (cntK xs k).set ((bytesI (foldI ((diffI xs).getD k 0))).length - 1) ((cntK xs k).getD ((bytesI (foldI ((diffI xs).getD k 0))).length - 1) 0 + 1)
theorem cntK_len (xs : List Int) (k : Nat) : (cntK xs k).length = 3 := by
  induction k with
  | zero => rfl
  | succ k ih => simp [cntK, ih]
theorem cntK_bound (xs : List Int) (k j : Nat) : 0 ≤ (cntK xs k).getD j 0 ∧ (cntK xs k).getD j 0 ≤ k := by
  induction k generalizing j with
  | zero =>
    match j with
    | 0 => simp [cntK]
    | 1 => simp [cntK]
    | 2 => simp [cntK]
    | j + 3 => simp [cntK]
  | succ k ih =>
    have h1 := ih j
    have h2 := ih ((bytesI (foldI ((diffI xs).getD k 0))).length - 1)
    unfold cntK
    generalize (bytesI (foldI ((diffI xs).getD k 0))).length - 1 = q at *
    simp only [List.getD_eq_getElem?_getD] at h1 h2 ⊢
    rw [List.getElem?_set]
    split
    · split
      · simp only [Option.getD_some]
        omega
      · simp only [Option.getD_none]
        omega
    · omega
def cntI (xs : List Int) : List Int := cntK xs xs.length
theorem cntI_len (xs : List Int) : (if smpB xs then cntI xs else []).length ≤ 2097152 := by
  split
  · unfold cntI
    rw [cntK_len]
    omega
  · simp
theorem cntK_step (xs : List Int) (k : Nat) (d : Int) (m : Nat) (hd : (diffI xs)[k]? = some d) (hm : (bytesI (foldI d)).length = m) : cntK xs (k + 1) = (cntK xs k).set (m - 1) ((cntK xs k).getD (m - 1) 0 + 1) := by
  show (cntK xs k).set ((bytesI (foldI ((diffI xs).getD k 0))).length - 1) ((cntK xs k).getD ((bytesI (foldI ((diffI xs).getD k 0))).length - 1) 0 + 1) = _
  rw [getD_of hd, hm]

set_option maxHeartbeats 1000000 in
theorem implWidthCounts_any (A : Option Addr) (n c : Nat) (xs : List Int) (w : World) (hr : RI w w.heap.size A n xs) (hn : n ≤ 1048576) :
    Calls Try.prog 35 #[.slice A n c] w (RetIB w (if smpB xs then cntI xs else []) (smpB xs)) := by
  have HA := hide (areSamples_any A n c xs _ hr (by omega))
  cases h1 : smpB xs
  · clear hr
    go_enter Try.func35, Try.ntmps35
    go_wp2_with (go_at_call 48; refine (unhide HA).mono ?_; rintro e w1 ⟨rfl, hb⟩; have HB := hide hb; clear hb)
    go_ret2
    exact ⟨none, 0, 0, rfl, OwnI.nil _ _, unhide HB⟩
  · have hn24 : n ≤ 24 := by have := smpB_len h1; have := hr.len; omega
    have HC := hide (fun (W : World) (h : RI W W.heap.size A n xs) => differences_any A n c xs W h (smpB_all h1) (by omega))
    have HD := hide (fun (k : Nat) (d : Int) (h : (diffI xs)[k]? = some d) => diffI_range xs (smpB_all h1) h)
    have HR := hide hr
    have HL := hide hr.len
    clear hr
    have hmk : ∀ W : World, (Instr.makeSlice 22 (.int .i64 3) (.int .i64 3)).run Try.prog W = .ok (.slice (some ⟨W.heap.size, 0, none⟩) 3 3) (W.alloc (.cells #[.int .i64 0, .int .i64 0, .int .i64 0] 3)) := fun _ => by kernel_rfl
    go_enter Try.func35, Try.ntmps35
    go_wp2_with (first
      | (go_at_call 48; refine (unhide HA).mono ?_; rintro e w1 ⟨rfl, hb⟩; have HB := hide hb; clear hb)
      | (go_at_call 49; refine (unhide HC _ ((((unhide HR).below (unhide HB)).alloc (unhide HB).size _).more (Nat.le_trans (unhide HB).size (by simp)))).mono ?_; rintro e w2 ⟨Ad, nd, cd, rfl, hOd, hBd⟩; have HOd := hide hOd; have HBd := hide hBd; clear hOd hBd))
    have hnd : nd = n := by have := (unhide HOd).len; rw [diffI_len] at this; have := unhide HL; omega
    subst hnd
    have HOe : Hid (OwnI w2 w1.heap.size (some ⟨w1.heap.size, 0, none⟩) 3 3 [0, 0, 0]) := OwnI.below (OwnI.lit w1 _ [0, 0, 0] 3 (Nat.le_refl _) rfl (by omega) _ rfl) (unhide HBd) (Nat.le_refl _)
    have HB2 : Hid (Below w.heap.size w w2) := ((unhide HB).alloc (unhide HB).size _).trans ((unhide HBd).mono (Nat.le_trans (unhide HB).size (by simp)))
    have HDR : Hid (OwnR w2 (w1.heap.size + 1) w2.heap.size 3 1 Ad nd cd (cI (diffI xs))) := by have := (unhide HOd).r; unfold Hid; simpa using this
    have hz1 : w.heap.size ≤ w1.heap.size := (unhide HB).size
    go_loopw [14] (fun i wr => ∃ k : Nat, k ≤ nd ∧ i = .int .i64 k ∧ Hid (OwnI wr w1.heap.size (some ⟨w1.heap.size, 0, none⟩) 3 3 (cntK xs k)) ∧ Hid (Below w.heap.size w wr) ∧
        Hid (OwnR wr (w1.heap.size + 1) w2.heap.size 3 1 Ad nd cd (cI (diffI xs)))) (fun i _ => nd - (intOf i).toNat)
    case atStart => exact ⟨0, Nat.zero_le _, rfl, unhide HOe, unhide HB2, unhide HDR⟩
    case round =>
      obtain ⟨k, hk, rfl, hO, hB, hDR⟩ := hrel
      by_cases hlt : k < nd
      · obtain ⟨ad, d, rfl, _, hd, hc⟩ := (unhide hDR).ri.get hlt
        obtain ⟨g0, g1⟩ := unhide HD k d (unhide hd)
        have HX := hide (fun m => cntK_step xs k d m (unhide hd))
        have HBL := hide (bytesI_len (foldI d))
        have HBD := hide (cntK_bound xs k)
        clear hd
        have Cb := fun W => packed_any d W g0 g1
        generalize foldI d = N at *
        have HCb := hide Cb
        clear Cb
        go_wp2_with fail
        refine (unhide HCb _).mono ?_
        rintro e wb ⟨Ab, mb, cb, rfl, hOb, hBb⟩
        have hm1 : 1 ≤ mb ∧ mb ≤ 3 := by have := hOb.len; have := unhide HBL; omega
        have HM := hide hOb.len
        obtain ⟨m1, m2⟩ := hm1
        obtain ⟨g, hg, hlo, hgl, hc2, hfz, hO2, hgr⟩ := OwnI.store (OwnI.below (unhide hO) hBb (Nat.le_refl _)) (show mb - 1 < 3 by omega) ((cntK xs k).getD (mb - 1) 0 + 1)
        obtain rfl : w1.heap.size = g := by simpa using hg
        rw [← unhide HX mb (unhide HM)] at hO2
        have HO2 := hide hO2
        have HB3 := hide (((unhide hB).trans (hBb.mono (unhide hB).size)).setCell (p := ⟨w1.heap.size, mb - 1, none⟩) hz1 (.int .i64 ((cntK xs k).getD (mb - 1) 0 + 1)))
        have hDb := (unhide hDR).below hBb (Nat.le_refl _)
        have HDR2 : Hid (OwnR (wb.setCell ⟨w1.heap.size, mb - 1, none⟩ (.int .i64 ((cntK xs k).getD (mb - 1) 0 + 1))) (w1.heap.size + 1) w2.heap.size 3 1 (some ad) nd cd (cI (diffI xs))) := by
          refine ⟨World.ownsRow.kept hDb.1 hgr ?_, hDb.2⟩
          rcases hv : (Value.slice (some ad) nd cd).ownBlock with _ | g
          · exact .inl rfl
          · refine .inr fun e => ?_
            have q1 := World.ownsRow.lt hDb.1 g hv
            injection e with e
            omega
        obtain ⟨b1, b2⟩ := unhide HBD (mb - 1)
        generalize (cntK xs k).getD (mb - 1) 0 = y at *
        have e3 : ((mb : Int) - 1).toNat = mb - 1 := by omega
        have l3 : (mb : Int) - 1 < 3 := by omega
        have l4 : 0 ≤ (mb : Int) - 1 := by omega
        clear hO2 hgr hg hDb hBb hOb HX HM hO hB hDR
        go_wp2
        go_roundw
        case rel => exact ⟨k + 1, by omega, by go_num, HO2, HB3, HDR2⟩
        case measure => simp [intOf]; omega
      · have e : k = nd := by omega
        subst e
        go_wp2
        go_ret2
        refine ⟨_, _, _, rfl, ?_, unhide hB⟩
        unfold cntI
        rw [unhide HL]
        exact (unhide hO).less hz1

set_option maxHeartbeats 2000000 in
theorem specWidthCounts_any (A : Option Addr) (n c : Nat) (xs : List Int) (w : World) (hr : RI w w.heap.size A n xs) (hn : n ≤ 1048576) :
    Calls Try.prog 34 #[.slice A n c] w (RetIB w (if smpB xs then cntI xs else []) (smpB xs)) := by
  have HA := hide (l2Samples_any A n c _ xs _ hr (by omega))
  cases h1 : smpB xs
  · clear hr
    go_enter Try.func34, Try.ntmps34
    go_wp2_with (go_at_call 46; refine (unhide HA).mono ?_; rintro e w1 ⟨rfl, rfl⟩)
    go_ret2
    exact ⟨_, _, _, rfl, OwnI.empty _ (Nat.le_refl _), (Below.refl _ _).alloc (Nat.le_refl _) _⟩
  · have hn24 : n ≤ 24 := by have := smpB_len h1; have := hr.len; omega
    have HC := hide (fun (W : World) (h : RI W W.heap.size A n xs) => l4Diffs_any A n c 0 xs W h (smpB_all h1) (by omega))
    have HD := hide (fun (k : Nat) (d : Int) (h : (diffI xs)[k]? = some d) => diffI_range xs (smpB_all h1) h)
    have HR := hide hr
    have HL := hide hr.len
    clear hr
    have hmk : ∀ W : World, (Instr.makeSlice 22 (.int .i64 3) (.int .i64 3)).run Try.prog W = .ok (.slice (some ⟨W.heap.size, 0, none⟩) 3 3) (W.alloc (.cells #[.int .i64 0, .int .i64 0, .int .i64 0] 3)) := fun _ => by kernel_rfl
    go_enter Try.func34, Try.ntmps34
    go_wp2_with (go_at_call 46; refine (unhide HA).mono ?_; rintro e w1 ⟨rfl, rfl⟩)
    go_cut [4, 5] (fun s4 s5 wx => ∃ (g nd cd : Nat) (Ad : Option Addr), s4 = .slice (some ⟨g, 0, none⟩) 3 3 ∧ s5 = .slice Ad nd cd ∧ w.heap.size ≤ g ∧ Hid (OwnI wx w.heap.size (some ⟨g, 0, none⟩) 3 3 [0, 0, 0]) ∧ Hid (OwnI wx w.heap.size Ad nd cd (diffI xs)) ∧ Hid (Below w.heap.size w wx) ∧ Hid (∀ g', (Value.slice Ad nd cd).ownBlock = some g' → g' ≠ g))
    case first =>
      go_region_held3 (fun _ => True)
        (trivial)
        (first
          | (go_at_call 47; refine (unhide HC _ (by first | exact unhide HR | exact ((unhide HR).alloc (Nat.le_refl _) _).more (by simp))).mono ?_; rintro e w2 ⟨Ad, nd, cd, rfl, hOd, hBd⟩))
      · go_wp2_with fail
        go_meet
        have hz := hBd.size
        refine ⟨w.heap.size, nd, cd, Ad, rfl, rfl, Nat.le_refl _, OwnI.below (OwnI.below (OwnI.lit w _ [0, 0, 0] 3 (Nat.le_refl _) rfl (by omega) _ rfl) ((Below.refl _ _).drew) (Nat.le_refl _)) hBd (Nat.le_refl _), hOd.less (by simp), (((Below.refl _ w).alloc (Nat.le_refl _) _).drew).trans (hBd.mono (by simp)), fun g' hg e => ?_⟩
        have := (OwnI.lt hOd hg).1
        simp at this
        omega
      · go_wp2_with fail
        go_meet
        have hz := hBd.size
        have hB2 : Below w.heap.size w w2 := (Below.refl _ w).drew.trans hBd
        refine ⟨w2.heap.size, nd, cd, Ad, rfl, rfl, hB2.size, OwnI.lit w2 _ [0, 0, 0] 3 hB2.size rfl (by omega) _ rfl, OwnI.alloc hOd _, hB2.alloc hB2.size _, fun g' hg e => ?_⟩
        have := (OwnI.lt hOd hg).2
        omega
    case rest =>
      obtain ⟨g, nd, cd, Ad, rfl, rfl, hg, HOe, HOd, HB2, HNE⟩ := hcut
      have hnd : nd = n := by have := (unhide HOd).len; rw [diffI_len] at this; have := unhide HL; omega
      subst hnd
      go_wp2
      go_loopw [6] (fun i wx => ∃ k : Nat, k ≤ nd ∧ i = .int .i64 k ∧ Hid (OwnI wx w.heap.size (some ⟨g, 0, none⟩) 3 3 (cntK xs k)) ∧ Hid (Below w.heap.size w wx) ∧ Hid (OwnI wx w.heap.size Ad nd cd (diffI xs))) (fun i _ => nd - (intOf i).toNat)
      case atStart => exact ⟨0, Nat.zero_le _, rfl, unhide HOe, unhide HB2, unhide HOd⟩
      case round =>
        obtain ⟨k, hk, rfl, hO, hB, hDR⟩ := hrel
        by_cases hlt : k < nd
        · obtain ⟨ad, d, rfl, _, hd, hc⟩ := (unhide hDR).ri.get hlt
          obtain ⟨g0, g1⟩ := unhide HD k d (unhide hd)
          have HX := hide (fun m => cntK_step xs k d m (unhide hd))
          have HBL := hide (bytesI_len (foldI d))
          have HBD := hide (cntK_bound xs k)
          clear hd
          have f0 := foldI_nonneg d
          have f1 := foldI_le d g0 g1
          have HCf := hide (fun W => l4Fold_any d W g0 g1)
          have Cb := fun W => l4Bytes_any (foldI d) W f0 (by omega)
          generalize foldI d = N at *
          have HCb := hide Cb
          clear Cb
          go_wp2_with (first
            | (go_at_call 53; refine (unhide HCf _).mono ?_; rintro e wf ⟨rfl, rfl⟩))
          refine (unhide HCb _).mono ?_
          rintro e wb ⟨Ab, mb, cb, rfl, hOb, hBb⟩
          have hm1 : 1 ≤ mb ∧ mb ≤ 3 := by have := hOb.len; have := unhide HBL; omega
          have HM := hide hOb.len
          obtain ⟨m1, m2⟩ := hm1
          obtain ⟨g2, hg2, hlo, hgl, hc2, hfz, hO2, hgr⟩ := OwnI.store (OwnI.below (unhide hO) hBb (Nat.le_refl _)) (show mb - 1 < 3 by omega) ((cntK xs k).getD (mb - 1) 0 + 1)
          obtain rfl : g = g2 := by simpa using hg2
          rw [← unhide HX mb (unhide HM)] at hO2
          have HO2 := hide hO2
          have HB3 := hide (((unhide hB).trans (hBb.mono (unhide hB).size)).setCell (p := ⟨g, mb - 1, none⟩) hg (.int .i64 ((cntK xs k).getD (mb - 1) 0 + 1)))
          have hDb := OwnI.below (unhide hDR) hBb (Nat.le_refl _)
          have HDR2 : Hid (OwnI (wb.setCell ⟨g, mb - 1, none⟩ (.int .i64 ((cntK xs k).getD (mb - 1) 0 + 1))) w.heap.size (some ad) nd cd (diffI xs)) := by
            refine hDb.kept hgr ?_
            rcases hv : (Value.slice (some ad) nd cd).ownBlock with _ | q
            · exact .inl rfl
            · refine .inr fun e => ?_
              injection e with e
              exact unhide HNE q hv e
          obtain ⟨b1, b2⟩ := unhide HBD (mb - 1)
          generalize (cntK xs k).getD (mb - 1) 0 = y at *
          have e3 : ((mb : Int) - 1).toNat = mb - 1 := by omega
          have l3 : (mb : Int) - 1 < 3 := by omega
          have l4 : 0 ≤ (mb : Int) - 1 := by omega
          clear hO2 hgr hg2 hDb hBb hOb HX HM hO hB hDR
          go_wp2
          go_roundw
          case rel => exact ⟨k + 1, by omega, by go_num, HO2, HB3, HDR2⟩
          case measure => simp [intOf]; omega
        · have e : k = nd := by omega
          subst e
          go_wp2
          go_ret2
          refine ⟨_, _, _, rfl, ?_, unhide hB⟩
          unfold cntI
          rw [unhide HL]
          exact unhide hO
end Go.Proofs.Ytnigieebmjjjjaa
