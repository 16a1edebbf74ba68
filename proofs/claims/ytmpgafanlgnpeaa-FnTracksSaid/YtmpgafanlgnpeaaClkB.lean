/- Chapter 5, the walks: the true time of a shown tick: the program's and the reference's. -/
import Derived.Test.YtmpgafanlgnpeaaProg
import Derived.Test.YtmpgafanlgnpeaaClkA
import Derived.BigRegion
import Derived.Deep.DeepCutAuto
namespace Go.Proofs.Ytmpgafanlgnpeaa
open Go.RowKit

/-- an int and a bool come back -/
def RetNB (w : World) (r : Int) (b : Bool) (e : Ending) (w' : World) : Prop := e = .returned (.tuple #[.int .i64 r, .bool b]) ∧ Below w.heap.size w w'

theorem tdiv_bound (a b : Int) (h0 : -3000000000000 ≤ a ∧ a ≤ 3000000000000) : -3000000000000 ≤ a.tdiv b ∧ a.tdiv b ≤ 3000000000000 := by
  have h := Int.natAbs_tdiv_le_natAbs a b
  omega
theorem tmod_bound (a b : Int) (h1 : 1 ≤ b ∧ b ≤ 1000000000) : -1000000000 ≤ a.tmod b ∧ a.tmod b ≤ 1000000000 := by
  have h : (a.tmod b).natAbs < b.natAbs := by
    rw [Int.natAbs_tmod]
    exact Nat.mod_lt _ (by omega)
  omega

set_option maxHeartbeats 400000 in
theorem floorDiv_any (a b : Int) (w : World) (h0 : -3000000000000 ≤ a ∧ a ≤ 3000000000000) (h1 : 1 ≤ b ∧ b ≤ 1000000000) :
    Calls Try.prog 90 #[.int .i64 a, .int .i64 b] w fun e w' => e = .returned (.int .i64 (a / b)) ∧ w = w' := by
  have HF := hide (floor_quo a b (by omega))
  obtain ⟨b0, b1⟩ := h1
  obtain ⟨a0, a1⟩ := h0
  have hz : (b == 0) = false := by simp; omega
  have hz2 : ¬ b = 0 := by omega
  have hb2 : decide (b < 0) = false := decide_eq_false (by omega)
  rcases (show a < 0 ∨ 0 ≤ a by omega) with ha | ha
  · have hq := tdiv_bound a b ⟨a0, a1⟩
    have s1 : IntKind.i64.wrap (a.tdiv b) = a.tdiv b := IntWalk.i64_in _ (by omega)
    have s2 : IntKind.i64.wrap (a.tmod b) = a.tmod b := IntWalk.i64_in _ (by have := tmod_bound a b ⟨b0, b1⟩; omega)
    have s3 : IntKind.i64.wrap (a.tdiv b - 1) = a.tdiv b - 1 := IntWalk.i64_in _ (by omega)
    have ha2 : decide (a < 0) = true := decide_eq_true ha
    clear hq
    by_cases hm : a.tmod b = 0
    · have hm2 : (a.tmod b != 0) = false := by simp [hm]
      have HR : Hid (a / b = a.tdiv b) := by unfold Hid; rw [← unhide HF, if_neg (by simp [hm])]
      clear hm
      go_enter Try.func90, Try.ntmps90
      go_wp2
      go_ret
      exact ⟨ret_int (unhide HR).symm, rfl⟩
    · have hm2 : (a.tmod b != 0) = true := by simpa using hm
      have HR : Hid (a / b = a.tdiv b - 1) := by unfold Hid; rw [← unhide HF, if_pos ⟨hm, ha⟩]
      clear hm
      go_enter Try.func90, Try.ntmps90
      go_wp2
      go_ret
      exact ⟨ret_int (unhide HR).symm, rfl⟩
  · have ha2 : decide (a < 0) = false := decide_eq_false (by omega)
    by_cases hm : a % b = 0
    · have hm2 : (a % b != 0) = false := by simp [hm]
      clear hm
      go_enter Try.func90, Try.ntmps90
      go_wp2
      go_ret
      exact ⟨rfl, rfl⟩
    · have hm2 : (a % b != 0) = true := by simpa using hm
      clear hm
      go_enter Try.func90, Try.ntmps90
      go_wp2
      go_ret
      exact ⟨rfl, rfl⟩

/-- what the walk needs to know of a pair of marks -/
theorem pair_num {xs : List (Int × Int)} (ht : Trk xs) {n k : Nat} (hl : xs.length = n) (hk : k + 1 < n) {x y x' y' : Int} (h : xs[k]? = some (x, y)) (h' : xs[k + 1]? = some (x', y')) :
    (0 ≤ x ∧ x ≤ 1000000) ∧ (0 ≤ y ∧ y ≤ 1000000) ∧ (0 ≤ x' ∧ x' ≤ 1000000) ∧ (0 ≤ y' ∧ y' ≤ 1000000) ∧ x < x' ∧ y < y' ∧ (∀ s, seg xs k s = y + ((s - x) * (y' - y)) / (x' - x)) := by
  have a := ht.sh0 k (by omega)
  have b := ht.tr0 k (by omega)
  have c := ht.sh0 (k + 1) (by omega)
  have d := ht.tr0 (k + 1) (by omega)
  have e := ht.up k (by omega)
  rw [sh_of h] at a e
  rw [tr_of h] at b e
  rw [sh_of h'] at c e
  rw [tr_of h'] at d e
  exact ⟨a, b, c, d, e.1, e.2, fun s => by unfold seg; rw [sh_of h, tr_of h, sh_of h', tr_of h']⟩
theorem ediv_bound (a b : Int) (h0 : -3000000000000 ≤ a ∧ a ≤ 3000000000000) (h1 : 1 ≤ b) : -3000000000000 ≤ a / b ∧ a / b ≤ 3000000000000 := by
  have h2 : a / b ≤ 3000000000000 / b := Int.ediv_le_ediv (by omega) h0.2
  have h3 : -3000000000000 / b ≤ a / b := Int.ediv_le_ediv (by omega) h0.1
  have h4 : 3000000000000 / b ≤ 3000000000000 := Int.ediv_le_self _ (by omega)
  have h5 : -3000000000000 ≤ -3000000000000 / b := by
    rw [Int.le_ediv_iff_mul_le (by omega)]
    omega
  omega

set_option maxHeartbeats 2000000 in
set_option maxRecDepth 100000 in
theorem trueTick_any (A : Option Addr) (n c : Nat) (xs : List (Int × Int)) (s : Int) (w : World) (hr : RP w w.heap.size A n xs) (hn : n ≤ 2097152) (h2 : 2 ≤ n) (ht : Trk xs) (hs : -2000000 ≤ s ∧ s ≤ 3000000) :
    Calls Try.prog 65 #[.slice A n c, .int .i64 s] w fun e w' => e = .returned (.int .i64 (lineF xs s)) ∧ Below w.heap.size w w' := by
  have HR := hide hr
  have HL := hide hr.len
  have HT := hide ht
  clear hr ht
  obtain ⟨hs0, hs1⟩ := hs
  go_enter Try.func65, Try.ntmps65
  go_wp2
  go_loop [5] (fun i => ∃ k : Nat, k + 1 < n ∧ i = .int .i64 k ∧ Hid (k = 0 ∨ sh xs k ≤ s)) (fun i => n - (intOf i).toNat)
  case atStart => exact ⟨0, by omega, rfl, .inl rfl⟩
  case round =>
    obtain ⟨k, hk, rfl, hK⟩ := hrel
    obtain ⟨ad, x1, y1, rfl, hbx, hx1, hc10, hc11⟩ := (unhide HR).get (show k + 1 < n by omega)
    have l1 : (k : Int) + 1 < (n : Int) := by omega
    have l2 : (0 : Int) ≤ (k : Int) + 1 := by omega
    have l3 : ((k : Int) + 1).toNat = k + 1 := by omega
    by_cases hk2 : k + 2 < n ∧ x1 ≤ s
    · obtain ⟨l4, l5⟩ := hk2
      have HK2 : Hid (k + 1 = 0 ∨ sh xs (k + 1) ≤ s) := .inr (by rw [sh_of (unhide hx1)]; exact l5)
      clear hx1 hK
      go_wp2
      go_round
      case rel => exact ⟨k + 1, by omega, by go_num, HK2⟩
      case measure => simp [intOf]; omega
    · have HAt : Hid (At xs s k) := by
        have := unhide HL
        refine ⟨by omega, unhide hK, ?_⟩
        rw [sh_of (unhide hx1)]
        by_cases h9 : k + 2 < n
        · exact .inr (by have : ¬ x1 ≤ s := fun e => hk2 ⟨h9, e⟩
                         show s ≤ x1; omega)
        · exact .inl (by omega)
      obtain ⟨ad', x0, y0, had, _, hx0, hc00, hc01⟩ := (unhide HR).get (show k < n by omega)
      obtain rfl := Option.some.inj had
      obtain ⟨⟨x00, x01⟩, ⟨y00, y01⟩, ⟨x10, x11⟩, ⟨y10, y11⟩, hxx, hyy, hseg⟩ := pair_num (unhide HT) (unhide HL) hk (unhide hx0) (unhide hx1)
      have HRes : Hid (lineF xs s = y0 + ((s - x0) * (y1 - y0)) / (x1 - x0)) := by unfold Hid; rw [line_of (unhide HT) (unhide HAt), hseg]
      have hp := prod_bound (a := s - x0) (b := y1 - y0) (by omega) (by omega)
      have hq := ediv_bound ((s - x0) * (y1 - y0)) (x1 - x0) hp (by omega)
      have HP := hide hp
      have HQ := hide hq
      clear hx0 hx1 had hseg HAt hK hp hq
      by_cases hk3 : k + 2 < n
      all_goals
        go_wp2
        go_cut [6, 7] (fun s6 s7 wx => ∃ p q : Nat, s6 = .pointer (some ⟨p, 0, none⟩) ∧ s7 = .pointer (some ⟨q, 0, none⟩) ∧ wx.cell? ⟨p, 0, none⟩ = some (.int .i64 x0) ∧ wx.cell? ⟨p, 1, none⟩ = some (.int .i64 y0) ∧ wx.cell? ⟨q, 0, none⟩ = some (.int .i64 x1) ∧ wx.cell? ⟨q, 1, none⟩ = some (.int .i64 y1) ∧ Hid (Below w.heap.size w wx))
        case first =>
          have l4 : (k : Int) < (n : Int) := by omega
          have l5 : (0 : Int) ≤ (k : Int) := by omega
          have s1 : IntKind.i64.wrap ((k : Int) + 1) = (k : Int) + 1 := IntWalk.i64_in _ (by omega)
          go_region_held3 (fun w' => w'.cell? (ad.add (k * 2)) = some (.int .i64 x0) ∧ w'.cell? ⟨(ad.add (k * 2)).block, (ad.add (k * 2)).off + 1, none⟩ = some (.int .i64 y0) ∧ w'.cell? (ad.add ((k + 1) * 2)) = some (.int .i64 x1) ∧ w'.cell? ⟨(ad.add ((k + 1) * 2)).block, (ad.add ((k + 1) * 2)).off + 1, none⟩ = some (.int .i64 y1))
            (go_keep) (fail)
          all_goals
            go_wp2_with fail
            go_meet
            exact ⟨_, _, rfl, rfl, by simp, by simp, by simp, by simp, ((((Below.refl _ w).drew.alloc (Nat.le_refl _) _).alloc (by simp) _)).mono (Nat.le_refl _)⟩
        case rest =>
          obtain ⟨p, q, rfl, rfl, e0, e1, e2, e3, HB⟩ := hcut
          obtain ⟨hp0, hp1⟩ := unhide HP
          obtain ⟨hq0, hq1⟩ := unhide HQ
          have s2 : IntKind.i64.wrap (s - x0) = s - x0 := IntWalk.i64_in _ (by omega)
          have s3 : IntKind.i64.wrap (y1 - y0) = y1 - y0 := IntWalk.i64_in _ (by omega)
          have s4 : IntKind.i64.wrap ((s - x0) * (y1 - y0)) = (s - x0) * (y1 - y0) := IntWalk.i64_in _ (by omega)
          have s5 : IntKind.i64.wrap (x1 - x0) = x1 - x0 := IntWalk.i64_in _ (by omega)
          have HF := hide (fun W => floorDiv_any ((s - x0) * (y1 - y0)) (x1 - x0) W ⟨hp0, hp1⟩ (by omega))
          have s6 : IntKind.i64.wrap (y0 + ((s - x0) * (y1 - y0)) / (x1 - x0)) = y0 + ((s - x0) * (y1 - y0)) / (x1 - x0) := IntWalk.i64_in _ (by omega)
          clear hp0 hp1 hq0 hq1
          go_wp2
          go_quiet ((go_at_call 90; exact Calls.quiet_of_same ((unhide HF _).mono fun _ _ ⟨a, b⟩ => ⟨a, b.symm⟩)))
          clear s2 s3 s4 s5 s6
          go_wp2
          go_ret
          exact ⟨ret_int (unhide HRes).symm, below_drewN (unhide HB) _⟩
set_option maxHeartbeats 2000000 in
set_option maxRecDepth 100000 in
theorem l5Line_any (A : Option Addr) (n c : Nat) (xs : List (Int × Int)) (s : Int) (w : World) (hr : RP w w.heap.size A n xs) (hn : n ≤ 2097152) (h2 : 2 ≤ n) (ht : Trk xs) (hs : -2000000 ≤ s ∧ s ≤ 3000000) :
    Calls Try.prog 64 #[.slice A n c, .int .i64 s] w fun e w' => e = .returned (.int .i64 (lineF xs s)) ∧ Below w.heap.size w w' := by
  have HR := hide hr
  have HL := hide hr.len
  have HT := hide ht
  clear hr ht
  obtain ⟨hs0, hs1⟩ := hs
  go_enter Try.func64, Try.ntmps64
  go_wp2
  go_loop [5] (fun i => ∃ k : Nat, 1 ≤ k ∧ k < n ∧ i = .int .i64 k ∧ Hid (k = 1 ∨ sh xs (k - 1) ≤ s)) (fun i => n - (intOf i).toNat)
  case atStart => exact ⟨1, by omega, by omega, rfl, .inl rfl⟩
  case round =>
    obtain ⟨k, hk1, hk, rfl, hK⟩ := hrel
    obtain ⟨ad, x1, y1, rfl, hbx, hx1, hc10, hc11⟩ := (unhide HR).get hk
    have l1 : (k : Int) < (n : Int) := by omega
    have l2 : (0 : Int) ≤ (k : Int) := by omega
    have l3 : (1 : Int) ≤ (k : Int) := by omega
    by_cases hk2 : k + 1 < n ∧ x1 < s
    · obtain ⟨l4, l5⟩ := hk2
      have HK2 : Hid (k + 1 = 1 ∨ sh xs (k + 1 - 1) ≤ s) := .inr (by rw [Nat.add_sub_cancel, sh_of (unhide hx1)]; exact Int.le_of_lt l5)
      clear hx1 hK
      go_wp2
      go_round
      case rel => exact ⟨k + 1, by omega, by omega, by go_num, HK2⟩
      case measure => simp [intOf]; omega
    · have ek : k - 1 + 1 = k := by omega
      have HAt : Hid (At xs s (k - 1)) := by
        have := unhide HL
        refine ⟨by omega, ?_, ?_⟩
        · rcases unhide hK with h9 | h9
          · exact .inl (by omega)
          · exact .inr h9
        · rw [ek, sh_of (unhide hx1)]
          by_cases h9 : k + 1 < n
          · exact .inr (by have : ¬ x1 < s := fun e => hk2 ⟨h9, e⟩
                           show s ≤ x1; omega)
          · exact .inl (by omega)
      obtain ⟨ad', x0, y0, had, _, hx0, hc00, hc01⟩ := (unhide HR).get (show k - 1 < n by omega)
      obtain rfl := Option.some.inj had
      obtain ⟨⟨x00, x01⟩, ⟨y00, y01⟩, ⟨x10, x11⟩, ⟨y10, y11⟩, hxx, hyy, hseg⟩ := pair_num (unhide HT) (unhide HL) (k := k - 1) (by omega) (unhide hx0) (by rw [ek]; exact unhide hx1)
      have HRes : Hid (lineF xs s = y0 + ((s - x0) * (y1 - y0)) / (x1 - x0)) := by unfold Hid; rw [line_of (unhide HT) (unhide HAt), hseg]
      have hp := prod_bound (a := s - x0) (b := y1 - y0) (by omega) (by omega)
      have HP := hide hp
      clear hx0 hx1 had hseg HAt hK hp ek
      by_cases hk3 : k + 1 < n
      all_goals
        go_wp2
        go_cut [6, 7] (fun s6 s7 wx => ∃ p q : Nat, s6 = .pointer (some ⟨p, 0, none⟩) ∧ s7 = .pointer (some ⟨q, 0, none⟩) ∧ wx.cell? ⟨p, 0, none⟩ = some (.int .i64 x0) ∧ wx.cell? ⟨p, 1, none⟩ = some (.int .i64 y0) ∧ wx.cell? ⟨q, 0, none⟩ = some (.int .i64 x1) ∧ wx.cell? ⟨q, 1, none⟩ = some (.int .i64 y1) ∧ Hid (Below w.heap.size w wx))
        case first =>
          have l4 : (k : Int) - 1 < (n : Int) := by omega
          have l5 : (0 : Int) ≤ (k : Int) - 1 := by omega
          have l6 : ((k : Int) - 1).toNat = k - 1 := by omega
          have l7 : (k : Int) ≤ (n : Int) := by omega
          have s1 : IntKind.i64.wrap ((k : Int) - 1) = (k : Int) - 1 := IntWalk.i64_in _ (by omega)
          go_region_held3 (fun w' => w'.cell? (ad.add ((k - 1) * 2)) = some (.int .i64 x0) ∧ w'.cell? ⟨(ad.add ((k - 1) * 2)).block, (ad.add ((k - 1) * 2)).off + 1, none⟩ = some (.int .i64 y0) ∧ w'.cell? (ad.add (k * 2)) = some (.int .i64 x1) ∧ w'.cell? ⟨(ad.add (k * 2)).block, (ad.add (k * 2)).off + 1, none⟩ = some (.int .i64 y1))
            (go_keep) (fail)
          all_goals
            go_wp2_with fail
            go_meet
            exact ⟨_, _, rfl, rfl, by simp, by simp, by simp, by simp, ((((Below.refl _ w).drew.alloc (Nat.le_refl _) _).alloc (by simp) _)).mono (Nat.le_refl _)⟩
        case rest =>
          obtain ⟨p, q, rfl, rfl, e0, e1, e2, e3, HB⟩ := hcut
          obtain ⟨hp0, hp1⟩ := unhide HP
          have HF := hide (floor_quo ((s - x0) * (y1 - y0)) (x1 - x0) (by omega))
          have s2 : IntKind.i64.wrap (s - x0) = s - x0 := IntWalk.i64_in _ (by omega)
          have s3 : IntKind.i64.wrap (y1 - y0) = y1 - y0 := IntWalk.i64_in _ (by omega)
          have s4 : IntKind.i64.wrap ((s - x0) * (y1 - y0)) = (s - x0) * (y1 - y0) := IntWalk.i64_in _ (by omega)
          have s5 : IntKind.i64.wrap (x1 - x0) = x1 - x0 := IntWalk.i64_in _ (by omega)
          have hQ0 : 1 ≤ x1 - x0 ∧ x1 - x0 ≤ 1000000000 := by omega
          go_wp2
          go_quiet (fail)
          clear s2 s3 s4 s5
          generalize (s - x0) * (y1 - y0) = P at HRes HF hp0 hp1 ⊢
          generalize x1 - x0 = Q at HRes HF hQ0 ⊢
          obtain ⟨b0, b1⟩ := hQ0
          have hz : (Q == 0) = false := by simp; omega
          have hz2 : ¬ Q = 0 := by omega
          rcases (show P < 0 ∨ 0 ≤ P by omega) with ha | ha
          · have hq := tdiv_bound P Q ⟨hp0, hp1⟩
            have s1 : IntKind.i64.wrap (P.tdiv Q) = P.tdiv Q := IntWalk.i64_in _ (by omega)
            have s2 : IntKind.i64.wrap (P.tmod Q) = P.tmod Q := IntWalk.i64_in _ (by have := tmod_bound P Q ⟨b0, b1⟩; omega)
            have s3 : IntKind.i64.wrap (P.tdiv Q - 1) = P.tdiv Q - 1 := IntWalk.i64_in _ (by omega)
            have s4 : IntKind.i64.wrap (y0 + P.tdiv Q) = y0 + P.tdiv Q := IntWalk.i64_in _ (by omega)
            have s5 : IntKind.i64.wrap (y0 + (P.tdiv Q - 1)) = y0 + (P.tdiv Q - 1) := IntWalk.i64_in _ (by omega)
            have ha2 : decide (P < 0) = true := decide_eq_true ha
            clear hq
            by_cases hm : P.tmod Q = 0
            · have hm2 : (P.tmod Q != 0) = false := by simp [hm]
              have HR2 : Hid (P / Q = P.tdiv Q) := by unfold Hid; rw [← unhide HF, if_neg (by simp [hm])]
              clear hm
              go_wp2
              go_ret
              exact ⟨ret_int (by rw [unhide HRes, unhide HR2]), below_drewN (unhide HB) _⟩
            · have hm2 : (P.tmod Q != 0) = true := by simpa using hm
              have HR2 : Hid (P / Q = P.tdiv Q - 1) := by unfold Hid; rw [← unhide HF, if_pos ⟨hm, ha⟩]
              clear hm
              go_wp2
              go_ret
              exact ⟨ret_int (by rw [unhide HRes, unhide HR2]), below_drewN (unhide HB) _⟩
          · have hq := ediv_bound P Q ⟨hp0, hp1⟩ b0
            have ha2 : decide (P < 0) = false := decide_eq_false (by omega)
            have s4 : IntKind.i64.wrap (y0 + P / Q) = y0 + P / Q := IntWalk.i64_in _ (by omega)
            clear hq
            go_wp2
            go_ret
            exact ⟨ret_int (unhide HRes).symm, below_drewN (unhide HB) _⟩

end Go.Proofs.Ytmpgafanlgnpeaa
