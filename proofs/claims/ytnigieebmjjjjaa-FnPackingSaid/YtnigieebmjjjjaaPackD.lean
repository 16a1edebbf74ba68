/- Chapter 4, the walks: the reference's samples from differences; FromDifferences: the program's and the reference's. -/
import Derived.Test.YtnigieebmjjjjaaProg
import Derived.Test.YtnigieebmjjjjaaPackC
import Derived.Deep.RegionHeld3
namespace Go.Proofs.Ytnigieebmjjjjaa
open Go.RowKit

theorem l1Own_any (A : Option Addr) (n c : Nat) (xs : List Int) (w : World) (hr : RI w w.heap.size A n xs) (hn : n ≤ 1000000) :
    Calls Try.prog 72 #[.slice A n c] w (RetI w xs) := by
  have HR := hide hr
  clear hr
  go_enter Try.func72, Try.ntmps72
  go_wp2_with (at_builtin; refine append_ints _ rfl _ _ rfl w _ 0 0 [] rfl (OwnI.empty w (Nat.le_refl _)) ((Below.refl _ w).alloc (Nat.le_refl _) _) A n c _ xs rfl ((unhide HR).alloc (Nat.le_refl _) _) (by omega) ?_; intro A2 c2 w2 hO2 hB2 hg2 hl2)
  go_ret
  exact ⟨A2, n, c2, by simp, by simpa using hO2, hB2⟩

theorem smpB_snoc (out : List Int) (x : Int) (h : ∀ y ∈ out, -100000 ≤ y ∧ y ≤ 100000) : smpB (out ++ [x]) = (inB x (-100000) 100000 && decide (out.length < 24)) := by
  unfold smpB
  rw [List.all_append, List.length_append]
  have e : (out.all fun y => inB y (-100000) 100000) = true := by
    rw [List.all_eq_true]
    intro y hy
    exact inB_iff.2 (h y hy)
  rw [e]
  have e2 : decide (out.length + [x].length ≤ 24) = decide (out.length < 24) := decide_eq_decide.2 (by simp; omega)
  rw [e2]
  simp [Bool.and_comm]

set_option maxHeartbeats 2000000 in
theorem l4Sum_any (A : Option Addr) (n c : Nat) (ds : List Int) (w : World) (hr : RI w w.heap.size A n ds) (hn : n ≤ 1048576) :
    Calls Try.prog 50 #[.slice A n c] w (RetI w (readI ds)) := by
  have HR := hide hr
  clear hr
  go_enter Try.func50, Try.ntmps50
  go_wp2
  go_loopw [3, 4, 5] (fun v l i wr => ∃ (k m : Nat) (A' : Option Addr) (c' : Nat) (last : Int) (out : List Int), k ≤ n ∧ i = .int .i64 k ∧ v = .slice A' m c' ∧ l = .int .i64 last ∧ -100000 ≤ last ∧ last ≤ 100000 ∧ m ≤ 24 ∧ Hid (readI ds = readGo out last (ds.drop k)) ∧ Hid (∀ y ∈ out, -100000 ≤ y ∧ y ≤ 100000) ∧ Hid (OwnI wr w.heap.size A' m c' out) ∧ Hid (Below w.heap.size w wr)) (fun _ _ i _ => n - (intOf i).toNat)
  case atStart => exact ⟨0, 0, _, _, 0, [], Nat.zero_le _, rfl, rfl, rfl, by omega, by omega, by omega, rfl, by simp [Hid], OwnI.empty _ (Nat.le_refl _), (Below.refl _ _).alloc (Nat.le_refl _) _⟩
  case round =>
    obtain ⟨k, m, A', c', last, out, hk, rfl, rfl, rfl, h0, h1, hm, hE, hA, hO, hB⟩ := hrel
    by_cases hlt : k < n
    · obtain ⟨ad, d, rfl, hbl, hd, hc⟩ := ((unhide HR).below (unhide hB)).get hlt
      have hbk : (ad.add k).block < w.heap.size := by rw [block_of_add]; exact hbl
      have HH := hide (readGo_hit out last d ds k (unhide hd))
      have HS := hide (readGo_stop out last d ds k (unhide hd))
      have HK := hide (okStep_eq out last d)
      clear hd
      have hl1 : (k : Int) < (n : Int) := by omega
      cases t1 : inB d (-200000) 200000 with
      | false =>
        have HE2 : Hid (readI ds = out) := by unfold Hid; rw [unhide hE, unhide HS (by rw [unhide HK, t1]; simp)]
        clear HH HS HK hE
        go_wp2
        go_quiet ((go_at_call 52; exact Calls.quiet_of_same ((l4Diff_any _ _).mono fun _ _ ⟨a, b⟩ => ⟨by rw [a, t1], b.symm⟩)))
        go_wp2
        go_ret
        exact ⟨A', m, c', rfl, by rw [unhide HE2]; exact OwnI.below (unhide hO) (below_drewN (Below.refl _ _) _) (Nat.le_refl _), below_drewN (unhide hB) _⟩
      | true =>
        obtain ⟨g0, g1⟩ := inB_iff.1 t1
        have HQ := hide (smpB_snoc out (last + d) (unhide hA))
        have s1 : IntKind.i64.wrap (last + d) = last + d := IntWalk.i64_in _ (by omega)
        have hlen : m ≤ 24 := hm
        have HRo : Hid (RI wr wr.heap.size A' m out) := (unhide hO).ri
        have hbr : (ad.add k).block < wr.heap.size := by have := (unhide hB).size; omega
        go_wp2
        go_region_held3 (fun w' => w'.cell? (ad.add k) = some (.int .i64 d))
          (first | go_keep | exact (hBw.cell hbr).trans hc | (simp; exact (hBw.cell hbr).trans hc) | exact (hB2.cell hbr).trans hc)
          (first
            | (go_at_call 52; refine (l4Diff_any _ _).mono ?_; rintro e w1 ⟨rfl, rfl⟩)
            | (go_at_call 72; refine (l1Own_any A' m c' out _ (by first | exact unhide HRo | exact ((unhide HRo).alloc (Nat.le_refl _) _).more (by simp)) (by omega)).mono ?_; rintro e wo ⟨Ao, no, co, rfl, hOo, hBo⟩; have hno : no ≤ 24 := (by have := hOo.len; have := (unhide hO).len; omega); have hBw : Below wr.heap.size wr wo := (by first | exact (Below.refl _ wr).drew.trans hBo | exact ((Below.refl _ wr).drew.alloc (Nat.le_refl _) _).trans (hBo.mono (by simp))); have hOw : OwnI wo wr.heap.size Ao no co out := (by first | exact hOo | exact hOo.less (by simp)); try (have hct : wo.cell? ⟨wr.heap.size, 0, none⟩ = some (.int .i64 (last + d)) := (hBo.cell (by simp)).trans (cellNew _ _ _)))
            | (go_at_call 46; refine (l2Samples_any _ _ _ _ _ _ (by exact hO2.ri) (by exact hO2.max)).mono ?_; rintro e w1 ⟨rfl, rfl⟩)
            | (refine step_append_int _ (by rfl) _ _ (by rfl) wr Ao no co out (by rfl) (by first | exact hOw.alloc _ | exact hOw) (by first | exact hBw.alloc hBw.size _ | exact hBw) _ (last + d) (by rfl) (by first | exact cellNew _ _ _ | exact hct) (by omega) ?_; intro A2 c2 w2 hO2 hB2))
        all_goals
          clear s1
          have hOo2 := hide (OwnI.below (unhide hO) hB2 (Nat.le_refl _))
          have hB3 := hide ((unhide hB).trans (hB2.mono (unhide hB).size))
          cases t2 : smpB (out ++ [last + d]) with
          | false =>
            have HE2 : Hid (readI ds = out) := by
              have := (unhide HQ).symm.trans t2
              unfold Hid
              rw [unhide hE, unhide HS (by rw [unhide HK, t1, Bool.true_and, this])]
            clear HH HS HK hE HQ hO2 hB2 hBo hOo hBw hOw hO hB
            go_wp2
            go_ret
            exact ⟨A', m, c', rfl, by rw [unhide HE2]; exact unhide hOo2, unhide hB3⟩
          | true =>
            have hq := (unhide HQ).symm.trans t2
            have HE2 : Hid (readI ds = readGo (out ++ [last + d]) (last + d) (ds.drop (k + 1))) := by
              unfold Hid
              rw [unhide hE, unhide HH (by rw [unhide HK, t1, Bool.true_and, hq])]
            simp only [Bool.and_eq_true, decide_eq_true_eq] at hq
            obtain ⟨g2, g3⟩ := inB_iff.1 hq.1
            have HA2 : Hid (∀ y ∈ out ++ [last + d], -100000 ≤ y ∧ y ≤ 100000) := by
              intro y hy
              rcases List.mem_append.1 hy with h | h
              · exact unhide hA y h
              · simp at h
                subst h
                exact ⟨g2, g3⟩
            have hm23 : m ≤ 23 := by have := hq.2; have := (unhide hO).len; omega
            clear HH HS HK hE HQ hO2 hB2 hBo hOo hBw hOw hO hB hq hm hlen hA
            go_wp2_with (at_builtin; refine append_int _ rfl _ _ rfl w A' m c' out rfl ((unhide hOo2).alloc _) ((unhide hB3).alloc (unhide hB3).size _) _ (last + d) rfl (cellNew _ _ _) (by omega) ?_; intro A3 c3 w3 hO3 hB4)
            have HO3 := hide hO3
            have HB4 := hide hB4
            clear hO3 hB4 hOo2 hB3
            go_wp2
            go_roundw
            case rel => exact ⟨k + 1, m + 1, A3, c3, last + d, _, by omega, by go_num, rfl, rfl, by omega, by omega, by omega, HE2, HA2, HO3, HB4⟩
            case measure => simp [intOf]; omega
    · have HE2 : Hid (readI ds = out) := by unfold Hid; rw [unhide hE, readGo_end out last ds k (by rw [(unhide HR).len]; omega)]
      clear hE
      go_wp2
      go_ret
      exact ⟨A', m, c', rfl, by rw [unhide HE2]; exact unhide hO, unhide hB⟩
end Go.Proofs.Ytnigieebmjjjjaa
