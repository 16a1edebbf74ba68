/- Chapter 5, the walks: a mark more in a track: the program's. -/
import Derived.Test.YtmpgafanlgnpeaaProg
import Derived.Test.YtmpgafanlgnpeaaOrd
import Derived.Test.YtmpgafanlgnpeaaDropC
import Derived.Test.YtmpgafanlgnpeaaWhole
namespace Go.Proofs.Ytmpgafanlgnpeaa
open Go.RowKit

/-- a mark that lies in a block -/
theorem rp_one {w : World} {g : Nat} {T : TypeId} {x y : Int} (h : Whl w g T #[.int .i64 x, .int .i64 y]) {L : Nat} (hL : g < L) : RP w L (some ⟨g, 0, none⟩) 1 [(x, y)] := by
  refine ⟨rfl, fun _ => ⟨_, rfl, hL, fun j u hu => ?_⟩⟩
  have e : (⟨g, 0, none⟩ : Addr).add j = ⟨g, j, none⟩ := by simp [Addr.add]; omega
  rw [e, h.cell j, ← hu]
  match j with
  | 0 => rfl
  | 1 => rfl
  | j + 2 => simp [cP, fP]
theorem two_cells {w' : World} {g : Nat} {T : TypeId} {a b : Value} (h : Whl w' g T #[a, b]) : w'.cell? ⟨g, 0, none⟩ = some a ∧ w'.cell? ⟨g, 1, none⟩ = some b := ⟨h.cell 0, h.cell 1⟩

set_option maxHeartbeats 4000000 in
set_option maxRecDepth 100000 in
theorem implAdd_any (A : Option Addr) (n c : Nat) (xs : List (Int × Int)) (x y : Int) (w : World) (hr : RP w w.heap.size A n xs) (hn : n ≤ 2097152) :
    Calls Try.prog 34 #[.slice A n c, .agg #[.int .i64 x, .int .i64 y]] w (RetMB w (addR xs (x, y)).1 (addR xs (x, y)).2) := by
  have HL := hide hr.len
  have HR := hide hr
  have HG := hide (fun (W : World) (hb : Below w.heap.size w W) => implIsTrack_any A n c xs W ((hr.below hb).more hb.size) (by omega))
  clear hr
  go_enter Try.func34, Try.ntmps34
  go_wp2_with fail
  have K1 : Hid (Whl (w.alloc (.cells #[.int .i64 x, .int .i64 y] 43)) w.heap.size 43 #[.int .i64 x, .int .i64 y]) := Whl.here w _ _
  have HB1 : Hid (Below w.heap.size w (w.alloc (.cells #[.int .i64 x, .int .i64 y] 43))) := (Below.refl _ w).alloc (Nat.le_refl _) _
  have hz1 : (w.alloc (.cells #[.int .i64 x, .int .i64 y] 43)).heap.size = w.heap.size + 1 := by simp
  generalize w.alloc (.cells #[.int .i64 x, .int .i64 y] 43) = w1 at K1 HB1 hz1 ⊢
  have k1 : w1.cell? ⟨w.heap.size, 0, none⟩ = some (.int .i64 x) := (unhide K1).cell 0
  have k2 : w1.cell? ⟨w.heap.size, 1, none⟩ = some (.int .i64 y) := (unhide K1).cell 1
  go_cut [6] (fun s6 wx => ∃ (A' : Option Addr) (p c' : Nat), s6 = .slice A' p c' ∧ Hid (OwnP wx w.heap.size 43 A' p c' (osort (xs ++ [(x, y)]))) ∧ Hid (Below w.heap.size w wx))
  case first =>
    go_region_held3 (fun w' => w'.cell? ⟨w.heap.size, 0, none⟩ = some (.int .i64 x) ∧ w'.cell? ⟨w.heap.size, 1, none⟩ = some (.int .i64 y))
      (((with_reducible refine two_cells (T := 43) ?_); (repeat (first | with_reducible exact unhide K4 | with_reducible exact unhide K3 | with_reducible exact unhide K2 | with_reducible exact unhide K1 | with_reducible refine Whl.alloc ?_ _ | with_reducible refine Whl.drew ?_))))
      (first
        | (go_at_call 73; refine (copyM2_any A n c w.heap.size xs _ ?_ ?_ (Nat.le_trans hn (Nat.le_of_ble_eq_true rfl))).mono ?_; (exact (unhide HR).below (by (repeat (first | exact unhide HB1 | exact Below.refl _ _ | refine below_drewN ?_ _ | refine Below.drew ?_ | refine Below.alloc ?_ (by have := (unhide HB1).size; simp <;> omega) _)))); (have := (unhide HB1).size; first | omega | (simp <;> omega)); rintro e wy ⟨g, c1, rfl, hO, hby⟩; have K2 : Hid (Whl wy w.heap.size 43 #[.int .i64 x, .int .i64 y]) := hide (Whl.below (by (repeat (first | exact unhide K1 | with_reducible refine Whl.alloc ?_ _ | with_reducible refine Whl.drew ?_))) hby); have HB2 : Hid (Below (w.heap.size + 1) w1 wy) := hide ((by (repeat (first | exact Below.refl _ _ | refine Below.drew ?_ | refine Below.alloc ?_ (by first | omega | (simp <;> omega)) _)) : Below (w.heap.size + 1) w1 _).trans (hby.mono (by first | omega | (simp <;> omega)))); have HO2 : Hid (OwnP wy (w.heap.size + 1) 43 (some ⟨g, 0, none⟩) n c1 xs) := hide (OwnP.less hO (by first | omega | (simp <;> omega))); first | (have U2 : Hid (Whl wy (w.heap.size + 1) 43 #[.int .i64 x, .int .i64 y]) := hide (Whl.below (Whl.drew (Whl.here' w1 43 #[.int .i64 x, .int .i64 y] hz1.symm)) hby)) | skip)
        | (go_at_call 72; refine (ordered_any A2 (n + 1) c2 _ (xs ++ [(x, y)]) _ (unhide HO5).rp (Nat.le_refl _) ?_).mono ?_; omega; rintro e wz ⟨A3, n3, c3, rfl, hO, hb⟩; have HO6 := hide hO; have HB6 := hide hb; clear hO hb; have K4 : Hid (Whl wz w.heap.size 43 #[.int .i64 x, .int .i64 y]) := hide (Whl.below (unhide K3) (unhide HB6)))
        | (refine step_append_marks (by rfl) _ _ (by rfl) w1 (some ⟨g, 0, none⟩) n c1 xs (by rfl) ?_ ?_ _ 1 1 _ [(x, y)] (by rfl) (rp_one (T := 43) ?_ (Nat.lt_succ_self _)) (n + 1) (by rfl) ?_ ?_; (rw [hz1]; first | exact unhide HO2 | exact (unhide HO2).alloc _); (rw [hz1]; first | exact unhide HB2 | exact (unhide HB2).alloc (by have := (unhide HB2).size; omega) _); (first | exact unhide U2 | exact Whl.here _ _ _); omega; intro A2 c2 w5 hO5 hB5; have HO5 := hide hO5; have HB5 := hide hB5; clear hO5 hB5; have K3 : Hid (Whl w5 w.heap.size 43 #[.int .i64 x, .int .i64 y]) := hide (Whl.below (unhide K1) (unhide HB5))))
    all_goals
      go_wp2_with fail
      go_meet
      have h5 := (unhide HB5).size
      exact ⟨A3, n3, c3, rfl, OwnP.less (unhide HO6) (by omega), below_next (below_next (unhide HB1) (unhide HB5)) (unhide HB6)⟩
  case rest =>
    obtain ⟨A', p, c', rfl, hO, hB⟩ := hcut
    have hp : p = n + 1 := by have h9 := (unhide hO).len; rw [osort_len, List.length_append] at h9; have := unhide HL; simp at h9; omega
    have HG2 := hide (fun (W : World) (hb : Below wc.heap.size wc W) => implIsTrack_any A' p c' _ W (((unhide hO).rp.below hb).more hb.size) (by omega))
    have HG1 := hide (unhide HG _ (unhide hB))
    clear HG hp
    rcases t1 : trkB xs with _ | _
    · have HRR : Hid (addR xs (x, y) = ([], false)) := by unfold Hid addR; rw [t1]; rfl
      rw [t1] at HG1
      go_wp2_with fail
      refine (unhide HG1).mono ?_
      rintro e w4 ⟨rfl, hb⟩
      have HB4 := hide (below_next (unhide hB) hb)
      clear hb
      go_wp2_with fail
      go_ret2
      rw [unhide HRR]
      exact ⟨none, 0, 0, rfl, OwnP.nil _ _ _, unhide HB4⟩
    · rcases t2 : trkB (osort (xs ++ [(x, y)])) with _ | _
      · have HRR : Hid (addR xs (x, y) = ([], false)) := by unfold Hid addR; rw [t1, t2]; rfl
        rw [t1] at HG1
        rw [t2] at HG2
        go_wp2_with fail
        refine (unhide HG1).mono ?_
        rintro e w4 ⟨rfl, hb⟩
        have HB4 := hide (below_next (unhide hB) hb)
        have HG3 := hide (unhide HG2 _ hb)
        clear hb
        go_wp2_with fail
        refine (unhide HG3).mono ?_
        rintro e w5 ⟨rfl, hb⟩
        have HB5 := hide (below_next (unhide HB4) hb)
        clear hb
        go_wp2_with fail
        go_ret2
        rw [unhide HRR]
        exact ⟨none, 0, 0, rfl, OwnP.nil _ _ _, unhide HB5⟩
      · have HRR : Hid (addR xs (x, y) = (osort (xs ++ [(x, y)]), true)) := by unfold Hid addR; rw [t1, t2]; rfl
        rw [t1] at HG1
        rw [t2] at HG2
        go_wp2_with fail
        refine (unhide HG1).mono ?_
        rintro e w4 ⟨rfl, hb⟩
        have HB4 := hide (below_next (unhide hB) hb)
        have HO4 := hide ((unhide hO).below hb (Nat.le_refl _))
        have HG3 := hide (unhide HG2 _ hb)
        clear hb
        go_wp2_with fail
        refine (unhide HG3).mono ?_
        rintro e w5 ⟨rfl, hb⟩
        have HB5 := hide (below_next (unhide HB4) hb)
        have HO5 := hide ((unhide HO4).below hb (Nat.le_refl _))
        clear hb
        go_wp2_with fail
        go_ret2
        rw [unhide HRR]
        exact ⟨A', p, c', rfl, unhide HO5, unhide HB5⟩
end Go.Proofs.Ytmpgafanlgnpeaa
