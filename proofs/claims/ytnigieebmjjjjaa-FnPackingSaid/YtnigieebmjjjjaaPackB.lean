/- Chapter 4, the walks: the bytes of samples; differences, folded numbers, widths and packed samples as they are asked for: the program's and the reference's. -/
import Derived.Test.YtnigieebmjjjjaaProg
import Derived.Test.YtnigieebmjjjjaaPackA
namespace Go.Proofs.Ytnigieebmjjjjaa
open Go.RowKit

theorem OwnI.back {w1 w : World} {lo n c : Nat} {A : Option Addr} {xs : List Int} (h : OwnI w1 lo A n c xs) (hl : w.heap.size ≤ lo) : OwnI w1 w.heap.size A n c xs := h.less hl


set_option maxHeartbeats 1000000 in
theorem l4Pack_any (A : Option Addr) (n c : Nat) (xs : List Int) (w : World) (hr : RI w w.heap.size A n xs) (hs : ∀ x ∈ xs, -100000 ≤ x ∧ x ≤ 100000) (hn : n ≤ 1000000) :
    Calls Try.prog 58 #[.slice A n c] w (RetI w (packI xs)) := by
  have HC := hide (fun (W : World) (h : RI W W.heap.size A n xs) => l4Diffs_any A n c 0 xs W h hs (by omega))
  have HR := hide hr
  have HL := hide hr.len
  have HD := hide (fun (k : Nat) (d : Int) (h : (diffI xs)[k]? = some d) => diffI_range xs hs h)
  clear hr hs
  go_enter Try.func58, Try.ntmps58
  go_wp2_with (go_at_call 47; refine (unhide HC _ (unhide HR)).mono ?_; rintro e w1 ⟨Ad, nd, cd, rfl, hOd, hBd⟩; have HOd := hide hOd; have HBd := hide hBd; clear hOd hBd)
  have hnd : nd = n := by have := (unhide HOd).len; rw [diffI_len] at this; have := unhide HL; omega
  subst hnd
  have HRd : Hid (RI w1 w1.heap.size Ad nd (diffI xs)) := (unhide HOd).ri
  go_loopw [4, 5] (fun v i wr => ∃ (k m : Nat) (A' : Option Addr) (c' : Nat), k ≤ nd ∧ i = .int .i64 k ∧ v = .slice A' m c' ∧ Hid (m ≤ 3 * k) ∧ Hid (OwnI wr w1.heap.size A' m c' (packK xs k)) ∧ Hid (Below w1.heap.size w1 wr)) (fun _ i _ => nd - (intOf i).toNat)
  case atStart => exact ⟨0, 0, _, _, Nat.zero_le _, rfl, rfl, Nat.zero_le _, OwnI.empty _ (Nat.le_refl _), (Below.refl _ _).alloc (Nat.le_refl _) _⟩
  case round =>
    obtain ⟨k, m, A', c', hk, rfl, rfl, hm, hO, hB⟩ := hrel
    by_cases hlt : k < nd
    · obtain ⟨ad, d, rfl, _, hd, hc⟩ := ((unhide HRd).below (unhide hB)).get hlt
      obtain ⟨g0, g1⟩ := unhide HD k d (unhide hd)
      have HX := hide (packK_step xs k d (unhide hd))
      have HBL := hide (bytesI_len (foldI d))
      have f0 := foldI_nonneg d
      have f1 := foldI_le d g0 g1
      have hmm : m ≤ 3000000 := by have := unhide hm; omega
      have Cf := fun W => l4Fold_any d W g0 g1
      have Cb := fun W => l4Bytes_any (foldI d) W f0 (by omega)
      clear hd
      generalize foldI d = N at *
      have HCf := hide Cf
      have HCb := hide Cb
      clear Cf Cb
      go_wp2_with (first
        | (go_at_call 53; refine (unhide HCf _).mono ?_; rintro e wf ⟨rfl, rfl⟩)
        | (go_at_call 56; refine (unhide HCb _).mono ?_; rintro e wb ⟨Ab, mb, cb, rfl, hOb, hBb⟩; have HOb := hide hOb; have HBb := hide hBb; clear hOb hBb)
        | (at_builtin; refine append_ints _ rfl _ _ rfl w1 A' m c' (packK xs k) rfl (OwnI.below (unhide hO) (unhide HBb) (Nat.le_refl _)) ((unhide hB).trans ((unhide HBb).mono (unhide hB).size)) Ab mb cb _ (bytesI N) rfl (unhide HOb).ri (by have := (unhide HOb).len; have := (unhide HBL).2; omega) ?_; intro A2 c2 w2 hO2 hB2 hg2 hl2))
      rw [← unhide HX] at hO2
      have HO2 := hide hO2
      have HB2 := hide hB2
      have hm2 : Hid (m + mb ≤ 3 * (k + 1)) := by have h1 := (unhide HBL).2; have h2 := unhide hm; have h3 := (unhide HOb).len; unfold Hid; omega
      clear hO2 hB2 hO hB HX hg2 hl2 hm
      go_wp2
      go_roundw
      case rel => exact ⟨k + 1, m + mb, A2, c2, by omega, by go_num, rfl, hm2, HO2, HB2⟩
      case measure => simp [intOf]; omega
    · have e : k = nd := by omega
      subst e
      have hO2 := unhide hO
      rw [packK_end xs k (by rw [unhide HL]; exact Nat.le_refl _)] at hO2
      have HO2 := hide hO2
      clear hO2 hO hm
      go_wp2
      go_ret
      exact ⟨A', m, c', rfl, (unhide HO2).less (by have := (unhide HBd).size; simp at this ⊢; omega), (unhide HBd).trans ((unhide hB).mono (unhide HBd).size)⟩

set_option maxHeartbeats 1000000 in
theorem pack_any (A : Option Addr) (n c : Nat) (xs : List Int) (w : World) (hr : RI w w.heap.size A n xs) (hs : ∀ x ∈ xs, -100000 ≤ x ∧ x ≤ 100000) (hn : n ≤ 1000000) :
    Calls Try.prog 59 #[.slice A n c] w (RetI w (packI xs)) := by
  have HC := hide (fun (W : World) (h : RI W W.heap.size A n xs) => differences_any A n c xs W h hs (by omega))
  have HR := hide hr
  have HL := hide hr.len
  have HD := hide (fun (k : Nat) (d : Int) (h : (diffI xs)[k]? = some d) => diffI_range xs hs h)
  clear hr hs
  go_enter Try.func59, Try.ntmps59
  go_wp2_with (go_at_call 49; refine (unhide HC _ (((unhide HR).alloc (Nat.le_refl _) _).more (by simp))).mono ?_; rintro e w1 ⟨Ad, nd, cd, rfl, hOd, hBd⟩; have HOd := hide hOd; have HBd := hide hBd; clear hOd hBd)
  have hnd : nd = n := by have := (unhide HOd).len; rw [diffI_len] at this; have := unhide HL; omega
  subst hnd
  have HOe : Hid (OwnI w1 w.heap.size (some ⟨w.heap.size, 0, none⟩) 0 0 []) := OwnI.below (OwnI.empty w (Nat.le_refl _)) (unhide HBd) (Nat.le_refl _)
  have hz1 : w.heap.size < w1.heap.size := by have := (unhide HBd).size; simp at this; omega
  have HB1 : Hid (Below w.heap.size w w1) := ((Below.refl _ w).alloc (Nat.le_refl _) _).trans ((unhide HBd).mono (by simp))
  have HDR : Hid (OwnR w1 (w.heap.size + 1) w1.heap.size 3 1 Ad nd cd (cI (diffI xs))) := by have := (unhide HOd).r; unfold Hid; simpa using this
  go_loopw [3, 10] (fun v i wr => ∃ (k m : Nat) (A' : Option Addr) (c' : Nat), k ≤ nd ∧ i = .int .i64 k ∧ v = .slice A' m c' ∧ w1.heap.size ≤ wr.heap.size ∧ Hid (m ≤ 3 * k) ∧ Hid (OwnI wr w.heap.size A' m c' (packK xs k)) ∧ Hid (Below w.heap.size w wr) ∧
      Hid (OwnR wr (w.heap.size + 1) w1.heap.size 3 1 Ad nd cd (cI (diffI xs))) ∧ Hid (∀ g, (Value.slice A' m c').ownBlock = some g → g ≤ w.heap.size ∨ w1.heap.size ≤ g)) (fun _ i _ => nd - (intOf i).toNat)
  case atStart => exact ⟨0, 0, _, _, Nat.zero_le _, rfl, rfl, Nat.le_refl _, Nat.zero_le _, unhide HOe, unhide HB1, unhide HDR, fun g hg => by simp [Value.ownBlock] at hg; omega⟩
  case round =>
    obtain ⟨k, m, A', c', hk, rfl, rfl, hzr, hm, hO, hB, hDR, hNB⟩ := hrel
    by_cases hlt : k < nd
    · obtain ⟨ad, d, rfl, _, hd, hc⟩ := (unhide hDR).ri.get hlt
      obtain ⟨g0, g1⟩ := unhide HD k d (unhide hd)
      have HX := hide (packK_step xs k d (unhide hd))
      have HBL := hide (bytesI_len (foldI d))
      have f0 := foldI_nonneg d
      have f1 := foldI_le d g0 g1
      have hmm : m ≤ 3000000 := by have := unhide hm; omega
      have Cb := fun W => packed_any d W g0 g1
      clear hd
      generalize foldI d = N at *
      have HCb := hide Cb
      clear Cb
      go_wp2_with (first
        | (go_at_call 57; refine (unhide HCb _).mono ?_; rintro e wb ⟨Ab, mb, cb, rfl, hOb, hBb⟩; have HOb := hide hOb; have HBb := hide hBb; clear hOb hBb)
        | (at_builtin; refine append_ints _ rfl _ _ rfl w A' m c' (packK xs k) rfl (OwnI.below (unhide hO) (unhide HBb) (Nat.le_refl _)) ((unhide hB).trans ((unhide HBb).mono (unhide hB).size)) Ab mb cb _ (bytesI N) rfl (unhide HOb).ri (by have := (unhide HOb).len; have := (unhide HBL).2; omega) ?_; intro A2 c2 w2 hO2 hB2 hg2 hl2))
      rw [← unhide HX] at hO2
      have zb := (unhide HBb).size
      have z2 := hg2.size
      have hDb := (unhide hDR).below (unhide HBb) (Nat.le_refl _)
      have HDR2 : Hid (OwnR w2 (w.heap.size + 1) w1.heap.size 3 1 (some ad) nd cd (cI (diffI xs))) := by
        refine ⟨World.ownsRow.kept hDb.1 hg2 ?_, hDb.2⟩
        rcases hv : (Value.slice (some ad) nd cd).ownBlock with _ | g
        · exact .inl rfl
        · refine .inr fun e => ?_
          have q1 := World.ownsRow.lt hDb.1 g hv
          have q2 := hDb.2 g hv
          have q3 := unhide hNB g e.symm
          omega
      have HNB2 : Hid (∀ g, (Value.slice A2 (m + mb) c2).ownBlock = some g → g ≤ w.heap.size ∨ w1.heap.size ≤ g) := fun g hg => by
        rcases hl2 with e | e
        · exact unhide hNB g (e.symm.trans hg)
        · rw [e] at hg
          injection hg with hg
          omega
      have hz2 : w1.heap.size ≤ w2.heap.size := by omega
      have HO2 := hide hO2
      have HB2 := hide hB2
      have hm2 : Hid (m + mb ≤ 3 * (k + 1)) := by have h1 := (unhide HBL).2; have h2 := unhide hm; have h3 := (unhide HOb).len; unfold Hid; omega
      clear hO2 hB2 hO hB HX hg2 hl2 hm hDb zb z2 hDR hNB
      go_wp2
      go_roundw
      case rel => exact ⟨k + 1, m + mb, A2, c2, by omega, by go_num, rfl, hz2, hm2, HO2, HB2, HDR2, HNB2⟩
      case measure => simp [intOf]; omega
    · have e : k = nd := by omega
      subst e
      have hO2 := unhide hO
      rw [packK_end xs k (by rw [unhide HL]; exact Nat.le_refl _)] at hO2
      have HO2 := hide hO2
      clear hO2 hO hm
      go_wp2
      go_ret
      exact ⟨A', m, c', rfl, unhide HO2, unhide hB⟩

end Go.Proofs.Ytnigieebmjjjjaa
