/- Chapter 4, the walk: differences unpacked from bytes, the program's. -/
import Derived.Test.YtnigieebmjjjjaaProg
import Derived.Test.YtnigieebmjjjjaaPackG
namespace Go.Proofs.Ytnigieebmjjjjaa
open Go.RowKit

set_option maxHeartbeats 4000000 in
set_option maxRecDepth 100000 in
theorem unpack_any (A : Option Addr) (n c : Nat) (bs : List Int) (w : World) (hr : RI w w.heap.size A n bs) (hcap : n ≤ c) (hn : n ≤ 1048576) (hb : ∀ x ∈ bs, 0 ≤ x ∧ x ≤ 255) :
    Calls Try.prog 63 #[.slice A n c] w (RetIN w (upI bs).1 (upI bs).2) := by
  have HR := hide hr
  have HL := hide hr.len
  have HBY := hide hb
  clear hr hb
  go_enter Try.func63, Try.ntmps63
  go_wp2
  go_loopw [4, 5] (fun v i wr => ∃ (k m : Nat) (A' : Option Addr) (c' : Nat) (out : List Int) (f : Nat), k ≤ n ∧ m ≤ k ∧ n ≤ k + f ∧ i = .int .i64 k ∧ v = .slice A' m c' ∧ Hid (upI bs = upGo f out k bs) ∧ Hid (OwnI wr w.heap.size A' m c' out) ∧ Hid (Below w.heap.size w wr)) (fun _ i _ => n - (intOf i).toNat)
  case atStart => exact ⟨0, 0, _, _, [], n, Nat.zero_le _, Nat.zero_le _, by omega, rfl, rfl, by unfold Hid upI; rw [unhide HL], OwnI.empty _ (Nat.le_refl _), (Below.refl _ _).alloc (Nat.le_refl _) _⟩
  case round =>
    obtain ⟨k, m, A', c', out, f, hk, hmk, hf, rfl, rfl, hE, hO, hB⟩ := hrel
    by_cases hlt : k < n
    · obtain ⟨ad, b, rfl, hbl, hx, hc⟩ := ((unhide HR).below (unhide hB)).get hlt
      obtain ⟨b0, b1⟩ := unhide HBY b (List.mem_of_getElem? (unhide hx))
      have hgo : ∀ (N : Int) (j : Nat), nextI (bs.drop k) = some (N, j) → Hid (upI bs = upGo (f - 1) (out ++ [unfI N]) (k + j) bs) := fun N j h => by unfold Hid; rw [unhide hE, upGo_hit (by omega) h]
      have HG := hide hgo
      have HST : Hid (nextI (bs.drop k) = none → upI bs = (out, k)) := fun h => by rw [unhide hE, upGo_stop h]
      clear hgo hE
      have hl0 : (k : Int) < (n : Int) := by omega
      have hl1 : (k : Int) + 1 ≤ (n : Int) := by omega
      have hl2 : (n : Int) ≤ (c : Int) := by omega
      have hl3 : (0 : Int) ≤ (k : Int) + 1 := by omega
      have hcs : c = k + 1 ∨ ¬ c = k + 1 := by omega
      by_cases c1 : b < 192
      · have HE2 := hide (unhide HG _ _ (next1 (unhide hx) c1))
        have HCU := hide (fun W => unfolded_any b W b0 (by omega))
        generalize unfI b = y at *
        clear hx HG HST
        rcases hcs with hc1 | hc1
        · have hc2 : n = k + 1 := by omega
          subst hc1 hc2
          go_wp2
          have s1 : IntKind.i64.wrap ((k : Int) + 1) = (k : Int) + 1 := IntWalk.i64_in _ (by omega)
          have e1 : ((k : Int) + 1).toNat = k + 1 := by omega
          go_quiet (fail)
          clear s1 e1
          go_wp2_with (first
            | (go_at_call 77; refine (unhide HCU _).mono ?_; rintro e wu ⟨rfl, rfl⟩)
            | (at_builtin; refine append_int _ rfl _ _ rfl w A' m c' out rfl ((OwnI.below (unhide hO) (below_drewN (Below.refl _ _) _) (Nat.le_refl _)).alloc _) ((below_drewN (unhide hB) _).alloc (unhide hB).size _) _ y rfl (cellNew _ _ _) (by omega) ?_; intro A2 c2 w2 hO2 hB2))
          have HO2 := hide hO2
          have HB2 := hide hB2
          clear hO2 hB2 hO hB
          go_wp2
          go_roundw
          case rel => exact ⟨k + 1, m + 1, A2, c2, _, f - 1, by omega, by omega, by omega, by go_num, rfl, unhide HE2, HO2, HB2⟩
          case measure => simp [intOf] <;> omega
        · go_wp2
          have s1 : IntKind.i64.wrap ((k : Int) + 1) = (k : Int) + 1 := IntWalk.i64_in _ (by omega)
          have e1 : ((k : Int) + 1).toNat = k + 1 := by omega
          go_quiet (fail)
          clear s1 e1
          go_wp2_with (first
            | (go_at_call 77; refine (unhide HCU _).mono ?_; rintro e wu ⟨rfl, rfl⟩)
            | (at_builtin; refine append_int _ rfl _ _ rfl w A' m c' out rfl ((OwnI.below (unhide hO) (below_drewN (Below.refl _ _) _) (Nat.le_refl _)).alloc _) ((below_drewN (unhide hB) _).alloc (unhide hB).size _) _ y rfl (cellNew _ _ _) (by omega) ?_; intro A2 c2 w2 hO2 hB2))
          have HO2 := hide hO2
          have HB2 := hide hB2
          clear hO2 hB2 hO hB
          go_wp2
          go_roundw
          case rel => exact ⟨k + 1, m + 1, A2, c2, _, f - 1, by omega, by omega, by omega, by go_num, rfl, unhide HE2, HO2, HB2⟩
          case measure => simp [intOf] <;> omega
      · by_cases c2 : b < 224
        · by_cases k1 : k + 1 < n
          · obtain ⟨ae, d, had, _, hy, hd⟩ := ((unhide HR).below (unhide hB)).get k1
            obtain rfl : ad = ae := by simpa using had
            obtain ⟨d0, d1⟩ := unhide HBY d (List.mem_of_getElem? (unhide hy))
            have HE2 := hide (unhide HG _ _ (next2 (unhide hx) (by omega) c2 (unhide hy)))
            have HCU := hide (fun W => unfolded_any (192 + (b - 192) * 256 + d) W (by omega) (by omega))
            generalize unfI (192 + (b - 192) * 256 + d) = y at *
            have hd2 : wr.cell? ⟨ad.block, ad.off + (k + 1), none⟩ = some (.int .i64 d) := by simpa [Addr.add] using hd
            have hc1 : ¬ c = k + 1 := by omega
            have hlen : (1 : Int) ≤ ((n - (k + 1) : Nat) : Int) := by omega
            have hlen2 : (0 : Int) < ((n - (k + 1) : Nat) : Int) := by omega
            clear hx hy HG HST had hcs
            go_wp2
            have s1 : IntKind.i64.wrap ((k : Int) + 1) = (k : Int) + 1 := IntWalk.i64_in _ (by omega)
            have e1 : ((k : Int) + 1).toNat = k + 1 := by omega
            go_quiet (fail)
            clear s1 e1
            go_wp2_with (first
              | (go_at_call 77; refine (unhide HCU _).mono ?_; rintro e wu ⟨rfl, rfl⟩)
              | (at_builtin; refine append_int _ rfl _ _ rfl w A' m c' out rfl ((OwnI.below (unhide hO) (below_drewN (Below.refl _ _) _) (Nat.le_refl _)).alloc _) ((below_drewN (unhide hB) _).alloc (unhide hB).size _) _ y rfl (cellNew _ _ _) (by omega) ?_; intro A2 c2 w2 hO2 hB2))
            have HO2 := hide hO2
            have HB2 := hide hB2
            clear hO2 hB2 hO hB
            go_wp2
            go_roundw
            case rel => exact ⟨k + 2, m + 1, A2, c2, _, f - 1, by omega, by omega, by omega, by go_num, rfl, unhide HE2, HO2, HB2⟩
            case measure => simp [intOf] <;> omega
          · have hst := unhide HST (next2_none (unhide hx) (by omega) c2 (by rw [unhide HL]; omega))
            have HE2 := hide hst
            have hnk : n = k + 1 := by omega
            clear hst HG HST hx
            subst hnk
            rcases hcs with hc1 | hc1
            · subst hc1
              go_wp2
              have s1 : IntKind.i64.wrap ((k : Int) + 1) = (k : Int) + 1 := IntWalk.i64_in _ (by omega)
              have e1 : ((k : Int) + 1).toNat = k + 1 := by omega
              go_quiet (fail)
              clear s1 e1
              go_wp2
              go_ret2
              rw [unhide HE2]
              exact ⟨A', m, c', rfl, OwnI.below (unhide hO) (below_drewN (Below.refl _ _) _) (Nat.le_refl _), below_drewN (unhide hB) _⟩
            · go_wp2
              have s1 : IntKind.i64.wrap ((k : Int) + 1) = (k : Int) + 1 := IntWalk.i64_in _ (by omega)
              have e1 : ((k : Int) + 1).toNat = k + 1 := by omega
              go_quiet (fail)
              clear s1 e1
              go_wp2
              go_ret2
              rw [unhide HE2]
              exact ⟨A', m, c', rfl, OwnI.below (unhide hO) (below_drewN (Below.refl _ _) _) (Nat.le_refl _), below_drewN (unhide hB) _⟩
        · by_cases k2 : k + 2 < n
          · obtain ⟨ae, d, had, _, hy, hd⟩ := ((unhide HR).below (unhide hB)).get (show k + 1 < n by omega)
            obtain rfl : ad = ae := by simpa using had
            obtain ⟨ae, e, had2, _, hz, he⟩ := ((unhide HR).below (unhide hB)).get k2
            obtain rfl : ad = ae := by simpa using had2
            obtain ⟨d0, d1⟩ := unhide HBY d (List.mem_of_getElem? (unhide hy))
            obtain ⟨e0, e1⟩ := unhide HBY e (List.mem_of_getElem? (unhide hz))
            have HE2 := hide (unhide HG _ _ (next3 (unhide hx) (by omega) (unhide hy) (unhide hz)))
            have HCU := hide (fun W => unfolded_any (8384 + (b - 224) * 65536 + d * 256 + e) W (by omega) (by omega))
            generalize unfI (8384 + (b - 224) * 65536 + d * 256 + e) = y at *
            have hd2 : wr.cell? ⟨ad.block, ad.off + (k + 1), none⟩ = some (.int .i64 d) := by simpa [Addr.add] using hd
            have he2 : wr.cell? ⟨ad.block, ad.off + (k + 1) + 1, none⟩ = some (.int .i64 e) := by
              have h2 : wr.cell? ⟨ad.block, ad.off + (k + 2), none⟩ = some (.int .i64 e) := by simpa [Addr.add] using he
              rw [show ad.off + (k + 1) + 1 = ad.off + (k + 2) by omega]
              exact h2
            have hc1 : ¬ c = k + 1 := by omega
            have hlen : (2 : Int) ≤ ((n - (k + 1) : Nat) : Int) := by omega
            have hlen2 : (0 : Int) < ((n - (k + 1) : Nat) : Int) := by omega
            have hlen3 : (1 : Int) < ((n - (k + 1) : Nat) : Int) := by omega
            clear hx hy hz HG HST had had2 hcs
            go_wp2
            have s1 : IntKind.i64.wrap ((k : Int) + 1) = (k : Int) + 1 := IntWalk.i64_in _ (by omega)
            have e1 : ((k : Int) + 1).toNat = k + 1 := by omega
            go_quiet (fail)
            clear s1 e1
            go_wp2
            have s3 : IntKind.i64.wrap (b - 224) = b - 224 := IntWalk.i64_in _ (by omega)
            have s4 : IntKind.i64.wrap ((b - 224) * 65536) = (b - 224) * 65536 := IntWalk.i64_in _ (by omega)
            have s5 : IntKind.i64.wrap (8384 + (b - 224) * 65536) = 8384 + (b - 224) * 65536 := IntWalk.i64_in _ (by omega)
            have s6 : IntKind.i64.wrap (d * 256) = d * 256 := IntWalk.i64_in _ (by omega)
            have s7 : IntKind.i64.wrap (8384 + (b - 224) * 65536 + d * 256) = 8384 + (b - 224) * 65536 + d * 256 := IntWalk.i64_in _ (by omega)
            have s8 : IntKind.i64.wrap (8384 + (b - 224) * 65536 + d * 256 + e) = 8384 + (b - 224) * 65536 + d * 256 + e := IntWalk.i64_in _ (by omega)
            have hk1 : k + 1 < n := by omega
            have hk2 : 0 < n - (k + 1) := by omega
            go_region_held3 (fun w' => w'.cell? ⟨ad.block, ad.off + (k + 1), none⟩ = some (.int .i64 d) ∧ w'.cell? ⟨ad.block, ad.off + (k + 1) + 1, none⟩ = some (.int .i64 e))
              (first | go_keep | exact ⟨(hB2.cell (p := ⟨ad.block, ad.off + (k + 1), none⟩) hbl).trans (((unhide hB).cell (p := ⟨ad.block, ad.off + (k + 1), none⟩) hbl).symm.trans hd2), (hB2.cell (p := ⟨ad.block, ad.off + (k + 1) + 1, none⟩) hbl).trans (((unhide hB).cell (p := ⟨ad.block, ad.off + (k + 1) + 1, none⟩) hbl).symm.trans he2)⟩)
              (first
                | (go_at_call 77; refine (unhide HCU _).mono ?_; rintro e wu ⟨rfl, rfl⟩)
                | (refine step_append_int _ (by rfl) _ _ (by rfl) w A' m c' out (by rfl) (by exact (OwnI.below (unhide hO) (below_drewN (Below.refl _ _) _) (Nat.le_refl _)).alloc _) (by exact (below_drewN (unhide hB) _).alloc (unhide hB).size _) _ y (by rfl) (cellNew _ _ _) (by omega) ?_; intro A2 c2 w2 hO2 hB2))
            clear s3 s4 s5 s6 s7 s8
            have HO2 := hide hO2
            have HB2 := hide hB2
            clear hO2 hB2 hO hB
            go_wp2
            go_roundw
            case rel => exact ⟨k + 3, m + 1, A2, c2, _, f - 1, by omega, by omega, by omega, by go_num, rfl, unhide HE2, HO2, HB2⟩
            case measure => simp [intOf] <;> omega
          · have hst := unhide HST (next3_none (unhide hx) (by omega) (by rw [unhide HL]; omega))
            have HE2 := hide hst
            clear hst HG HST hx
            have hlen : ((n - (k + 1) : Nat) : Int) < 2 := by omega
            rcases hcs with hc1 | hc1
            · have hc2 : n = k + 1 := by omega
              subst hc1 hc2
              go_wp2
              have s1 : IntKind.i64.wrap ((k : Int) + 1) = (k : Int) + 1 := IntWalk.i64_in _ (by omega)
              have e1 : ((k : Int) + 1).toNat = k + 1 := by omega
              go_quiet (fail)
              clear s1 e1
              go_wp2
              go_ret2
              rw [unhide HE2]
              exact ⟨A', m, c', rfl, OwnI.below (unhide hO) (below_drewN (Below.refl _ _) _) (Nat.le_refl _), below_drewN (unhide hB) _⟩
            · go_wp2
              have s1 : IntKind.i64.wrap ((k : Int) + 1) = (k : Int) + 1 := IntWalk.i64_in _ (by omega)
              have e1 : ((k : Int) + 1).toNat = k + 1 := by omega
              go_quiet (fail)
              clear s1 e1
              go_wp2
              go_ret2
              rw [unhide HE2]
              exact ⟨A', m, c', rfl, OwnI.below (unhide hO) (below_drewN (Below.refl _ _) _) (Nat.le_refl _), below_drewN (unhide hB) _⟩
    · have HE2 : Hid (upI bs = (out, k)) := by unfold Hid; rw [unhide hE, upGo_stop (next_end (by rw [unhide HL]; omega))]
      clear hE
      go_wp2
      go_ret2
      rw [unhide HE2]
      exact ⟨A', m, c', rfl, unhide hO, unhide hB⟩
end Go.Proofs.Ytnigieebmjjjjaa
