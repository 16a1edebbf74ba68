/- Chapter 5, the walks: the worst drift: the program's and the reference's. (By gen_clkG.py.) -/
import Derived.Test.YtmpgafanlgnpeaaProg
import Derived.Test.YtmpgafanlgnpeaaClkF
namespace Go.Proofs.Ytmpgafanlgnpeaa
open Go.RowKit

/-- the distance of a drift from 1, times its den -/
def offD (p : Int × Int) : Int := max (p.1 - p.2) (-(p.1 - p.2))
/-- p is worse than q -/
def wrsB (p q : Int × Int) : Bool := decide (offD q * p.2 < offD p * q.2)
/-- the worst of the first k drifts -/
def wrsI (ds : List (Int × Int)) : Nat → Nat
  | 0 => 0
  | k + 1 => if wrsB (ds.getD k (0, 0)) (ds.getD (wrsI ds k) (0, 0)) = true then k else wrsI ds k
theorem wrs_one (ds : List (Int × Int)) : wrsI ds 1 = 0 := by
  simp [wrsI]
theorem wrs_le (ds : List (Int × Int)) (k : Nat) : wrsI ds k ≤ k - 1 := by
  induction k with
  | zero => simp [wrsI]
  | succ k ih =>
    rw [wrsI]
    split <;> omega
theorem wrs_step (ds : List (Int × Int)) (k : Nat) {p q : Int × Int} (h : ds[k]? = some p) (h' : ds[wrsI ds k]? = some q) : wrsI ds (k + 1) = if wrsB p q = true then k else wrsI ds k := by
  rw [wrsI, List.getD_eq_getElem?_getD, h, List.getD_eq_getElem?_getD, h']
  rfl
theorem offD_bound {p : Int × Int} (h : (0 ≤ p.1 ∧ p.1 ≤ 1000000) ∧ (0 ≤ p.2 ∧ p.2 ≤ 1000000)) : 0 ≤ offD p ∧ offD p ≤ 1000000 := by unfold offD; omega
theorem prod_bound' {a b : Int} (ha : 0 ≤ a ∧ a ≤ 1000000) (hb : 0 ≤ b ∧ b ≤ 1000000) : 0 ≤ a * b ∧ a * b ≤ 1000000000000 := by
  have h1 := Int.mul_le_mul_of_nonneg_right ha.2 hb.1
  have h2 := Int.mul_nonneg ha.1 hb.1
  omega
/-- the worst drift of a track, whether it is one -/
def wrsR (xs : List (Int × Int)) : Int × Bool := if trkB xs = true then (((wrsI (drfI xs xs.length) (xs.length - 1) : Nat) : Int), true) else (0, false)

theorem absD_any (x y : Int) (w : World) (a0 : 0 ≤ x) (a1 : x ≤ 1000000) (b0 : 0 ≤ y) (b1 : y ≤ 1000000) :
    Calls Try.prog 70 #[.int .i64 (x - y)] w fun e w' => e = .returned (.int .i64 (offD (x, y))) ∧ w = w' := abs_any (x - y) w (by omega) (by omega)
theorem l5Off_any (x y : Int) (w : World) (h0 : 0 ≤ x ∧ x ≤ 1000000) (h1 : 0 ≤ y ∧ y ≤ 1000000) :
    Calls Try.prog 69 #[.agg #[.int .i64 x, .int .i64 y]] w fun e w' => e = .returned (.int .i64 (offD (x, y))) ∧ Below w.heap.size w w' := by
  have HM := hide (fun W => l1Most_any (x - y) (y - x) W)
  have e : Hid (max (x - y) (y - x) = offD (x, y)) := by unfold Hid offD; simp only; rw [Int.neg_sub]
  rw [unhide e] at HM
  obtain ⟨a0, a1⟩ := h0
  obtain ⟨b0, b1⟩ := h1
  generalize offD (x, y) = r at *
  go_enter Try.func69, Try.ntmps69
  go_wp2_with fail
  refine (unhide HM _).mono ?_
  rintro e w1 ⟨rfl, rfl⟩
  go_wp2_with fail
  go_ret
  exact ⟨rfl, (Below.refl _ w).alloc (Nat.le_refl _) _⟩

set_option maxHeartbeats 4000000 in
set_option maxRecDepth 100000 in
theorem implWorst_any (A : Option Addr) (n c : Nat) (xs : List (Int × Int)) (w : World) (hr : RP w w.heap.size A n xs) (hn : n ≤ 2097152) :
    Calls Try.prog 31 #[.slice A n c] w (RetNB w (wrsR xs).1 (wrsR xs).2) := by
  have HL := hide hr.len
  have HG := hide (implIsTrack_any A n c xs w hr (by omega))
  have HR := hide hr
  clear hr
  rcases h1 : trkB xs with _ | _
  · have HRR : Hid (wrsR xs = (0, false)) := by unfold Hid wrsR; rw [h1]; rfl
    go_enter Try.func31, Try.ntmps31
    go_wp2_with fail
    rw [h1] at HG
    refine (unhide HG).mono ?_
    rintro e w1 ⟨rfl, hb⟩
    have HB1 := hide hb
    clear hb
    go_wp2_with fail
    go_ret2
    exact ⟨by rw [unhide HRR]; rfl, unhide HB1⟩
  · obtain ⟨ht, l2, l10⟩ := trk_of h1
    rw [unhide HL] at l2 l10
    have HRR : Hid (wrsR xs = (((wrsI (drfI xs n) (n - 1) : Nat) : Int), true)) := by unfold Hid wrsR; rw [h1, unhide HL]; rfl
    have HDL := hide (drfI_len xs n)
    have HDB := hide (drfI_bound ht n (by have := unhide HL; omega))
    have HT := hide ht
    clear ht
    go_enter Try.func31, Try.ntmps31
    go_wp2_with fail
    rw [h1] at HG
    refine (unhide HG).mono ?_
    rintro e w1 ⟨rfl, hb⟩
    have HB1 := hide hb
    clear hb
    go_wp2_with fail
    refine (drifts_any A n c xs _ (((unhide HR).below (unhide HB1)).more (unhide HB1).size) hn (by omega) (unhide HT)).mono ?_
    rintro e w2 ⟨Ad, nd, cd, rfl, hO, hb⟩
    have HB2 := hide (below_next (unhide HB1) hb)
    have HD := hide (hO.rp)
    clear hb hO
    obtain rfl : nd = n - 1 := by have := (unhide HD).len; have := unhide HDL; omega
    generalize drfI xs n = ds at *
    obtain ⟨m, hm⟩ : ∃ m, m = n - 1 := ⟨_, rfl⟩
    rw [← hm] at HD HRR HDL ⊢
    have hm1 : 1 ≤ m := by omega
    have hm2 : m ≤ 9 := by omega
    clear hm
    go_wp2_with fail
    go_loopw [5, 16] (fun b i wr => ∃ (k : Nat), k ≤ m ∧ i = .int .i64 k ∧ b = .int .i64 (wrsI ds k) ∧ Hid (Below w2.heap.size w2 wr)) (fun _ i _ => m - (intOf i).toNat)
    case atStart => exact ⟨0, by omega, rfl, rfl, Below.refl _ _⟩
    case round =>
      obtain ⟨k, hk, rfl, rfl, hB⟩ := hrel
      by_cases hlt : k < m
      · obtain ⟨ad, x, y, rfl, hbx, hx, hc0, hc1⟩ := ((unhide HD).below (unhide hB)).get hlt
        have hbl : wrsI ds k < m := by have := wrs_le ds k; omega
        obtain ⟨ad', x', y', had, _, hx', hd0, hd1⟩ := ((unhide HD).below (unhide hB)).get hbl
        obtain rfl := Option.some.inj had
        have HS := hide (wrs_step ds k (unhide hx) (unhide hx'))
        have b1 := unhide HDB (x, y) (List.mem_of_getElem? (unhide hx))
        have b2 := unhide HDB (x', y') (List.mem_of_getElem? (unhide hx'))
        have o1 := offD_bound b1
        have o2 := offD_bound b2
        have q1 := prod_bound' o1 b2.2
        have q2 := prod_bound' o2 b1.2
        simp only at b1 b2 q1 q2
        obtain ⟨⟨b10, b11⟩, b12, b13⟩ := b1
        obtain ⟨⟨b20, b21⟩, b22, b23⟩ := b2
        obtain ⟨o10, o11⟩ := o1
        obtain ⟨o20, o21⟩ := o2
        obtain ⟨q10, q11⟩ := q1
        obtain ⟨q20, q21⟩ := q2
        clear hx hx' had
        generalize hb' : wrsI ds k = b at *
        have l1 : (k : Int) < (m : Int) := by omega
        have l2 : (0 : Int) ≤ (k : Int) := by omega
        have l3 : (b : Int) < (m : Int) := by omega
        have l4 : (0 : Int) ≤ (b : Int) := by omega
        have s1 : IntKind.i64.wrap (x - y) = x - y := IntWalk.i64_in _ (by omega)
        have s2 : IntKind.i64.wrap (x' - y') = x' - y' := IntWalk.i64_in _ (by omega)
        have hW : Hid (wrsB (x, y) (x', y') = decide (offD (x', y') * y < offD (x, y) * y')) := rfl
        have s3 : IntKind.i64.wrap (offD (x, y) * y') = offD (x, y) * y' := IntWalk.i64_in _ (by omega)
        have s4 : IntKind.i64.wrap (offD (x', y') * y) = offD (x', y') * y := IntWalk.i64_in _ (by omega)
        have a0 := fun o : Obj => (World.cell?_alloc_lt wr o (ad.add (b * 2)) (by rw [block_of_add]; exact Nat.lt_of_lt_of_le hbx (unhide hB).size)).trans hd0
        have a1 := fun o : Obj => (World.cell?_alloc_lt wr o ⟨(ad.add (b * 2)).block, (ad.add (b * 2)).off + 1, none⟩ (by show (ad.add (b * 2)).block < _; rw [block_of_add]; exact Nat.lt_of_lt_of_le hbx (unhide hB).size)).trans hd1
        go_wp2_with fail
        go_quiet ((first | (go_at_call 70; exact Calls.quiet_of_same ((absD_any _ _ _ (by omega) (by omega) (by omega) (by omega)).mono fun _ _ ⟨a, b⟩ => ⟨a, b.symm⟩))))
        clear s3 s4 s1 s2
        generalize offD (x, y) = u at hW ⊢
        generalize offD (x', y') = u' at hW ⊢
        rcases hd : decide (u' * y < u * y') with _ | _
        · have HE : Hid (wrsI ds (k + 1) = b) := by unfold Hid; rw [unhide HS, unhide hW, hd]; rfl
          clear HS hW
          go_wp2_with fail
          go_roundw
          case rel => exact ⟨k + 1, by omega, by go_num, by rw [unhide HE], below_next (unhide hB) (by repeat (first | exact Below.refl _ _ | refine below_drewN ?_ _ | refine Below.drew ?_ | refine Below.setCell ?_ (by simp <;> omega) _ | refine Below.alloc ?_ (by simp <;> omega) _))⟩
          case measure => simp [intOf]; omega
        · have HE : Hid (wrsI ds (k + 1) = k) := by unfold Hid; rw [unhide HS, unhide hW, hd]; rfl
          clear HS hW
          go_wp2_with fail
          go_roundw
          case rel => exact ⟨k + 1, by omega, by go_num, by rw [unhide HE], below_next (unhide hB) (by repeat (first | exact Below.refl _ _ | refine below_drewN ?_ _ | refine Below.drew ?_ | refine Below.setCell ?_ (by simp <;> omega) _ | refine Below.alloc ?_ (by simp <;> omega) _))⟩
          case measure => simp [intOf]; omega
      · obtain rfl : k = m := by omega
        go_wp2_with fail
        go_ret2
        exact ⟨by rw [unhide HRR]; rfl, below_next (unhide HB2) (unhide hB)⟩

set_option maxHeartbeats 4000000 in
set_option maxRecDepth 100000 in
theorem specWorst_any (A : Option Addr) (n c : Nat) (xs : List (Int × Int)) (w : World) (hr : RP w w.heap.size A n xs) (hn : n ≤ 2097152) :
    Calls Try.prog 30 #[.slice A n c] w (RetNB w (wrsR xs).1 (wrsR xs).2) := by
  have HL := hide hr.len
  have HG := hide (specDriftsOf_any A n c xs w hr hn)
  have HR := hide hr
  clear hr
  rcases h1 : trkB xs with _ | _
  · have HRR : Hid (wrsR xs = (0, false)) := by unfold Hid wrsR; rw [h1]; rfl
    have hd : drfR xs = ([], false) := by unfold drfR; rw [h1]; rfl
    rw [hd] at HG
    clear hd
    go_enter Try.func30, Try.ntmps30
    go_wp2_with fail
    refine (unhide HG).mono ?_
    rintro e w1 ⟨Ad, nd, cd, rfl, hO, hb⟩
    have HB1 := hide hb
    clear hb hO
    go_wp2_with fail
    go_ret2
    exact ⟨by rw [unhide HRR]; rfl, unhide HB1⟩
  · obtain ⟨ht, l2, l10⟩ := trk_of h1
    rw [unhide HL] at l2 l10
    have HRR : Hid (wrsR xs = (((wrsI (drfI xs n) (n - 1) : Nat) : Int), true)) := by unfold Hid wrsR; rw [h1, unhide HL]; rfl
    have HDL := hide (drfI_len xs n)
    have HDB := hide (drfI_bound ht n (by have := unhide HL; omega))
    have HT := hide ht
    clear ht
    have hd : drfR xs = (drfI xs n, true) := by unfold drfR; rw [h1, unhide HL]; rfl
    rw [hd] at HG
    clear hd
    go_enter Try.func30, Try.ntmps30
    go_wp2_with fail
    refine (unhide HG).mono ?_
    rintro e w2 ⟨Ad, nd, cd, rfl, hO, hb⟩
    have HB2 := hide hb
    have HD := hide (hO.rp)
    clear hb hO
    obtain rfl : nd = n - 1 := by have := (unhide HD).len; have := unhide HDL; omega
    generalize drfI xs n = ds at *
    obtain ⟨m, hm⟩ : ∃ m, m = n - 1 := ⟨_, rfl⟩
    rw [← hm] at HD HRR HDL ⊢
    have hm1 : 1 ≤ m := by omega
    have hm2 : m ≤ 9 := by omega
    clear hm
    go_wp2_with fail
    go_loopw [6, 7] (fun b i wr => ∃ (k : Nat), 1 ≤ k ∧ k ≤ m ∧ i = .int .i64 k ∧ b = .int .i64 (wrsI ds k) ∧ Hid (Below w2.heap.size w2 wr)) (fun _ i _ => m - (intOf i).toNat)
    case atStart => exact ⟨1, by omega, by omega, rfl, by rw [wrs_one]; rfl, Below.refl _ _⟩
    case round =>
      obtain ⟨k, hk1, hk, rfl, rfl, hB⟩ := hrel
      by_cases hlt : k < m
      · obtain ⟨ad, x, y, rfl, hbx, hx, hc0, hc1⟩ := ((unhide HD).below (unhide hB)).get hlt
        have hbl : wrsI ds k < m := by have := wrs_le ds k; omega
        obtain ⟨ad', x', y', had, _, hx', hd0, hd1⟩ := ((unhide HD).below (unhide hB)).get hbl
        obtain rfl := Option.some.inj had
        have HS := hide (wrs_step ds k (unhide hx) (unhide hx'))
        have b1 := unhide HDB (x, y) (List.mem_of_getElem? (unhide hx))
        have b2 := unhide HDB (x', y') (List.mem_of_getElem? (unhide hx'))
        have o1 := offD_bound b1
        have o2 := offD_bound b2
        have q1 := prod_bound' o1 b2.2
        have q2 := prod_bound' o2 b1.2
        simp only at b1 b2 q1 q2
        obtain ⟨⟨b10, b11⟩, b12, b13⟩ := b1
        obtain ⟨⟨b20, b21⟩, b22, b23⟩ := b2
        obtain ⟨o10, o11⟩ := o1
        obtain ⟨o20, o21⟩ := o2
        obtain ⟨q10, q11⟩ := q1
        obtain ⟨q20, q21⟩ := q2
        clear hx hx' had
        generalize hb' : wrsI ds k = b at *
        have l1 : (k : Int) < (m : Int) := by omega
        have l2 : (0 : Int) ≤ (k : Int) := by omega
        have l3 : (b : Int) < (m : Int) := by omega
        have l4 : (0 : Int) ≤ (b : Int) := by omega
        have hW : Hid (wrsB (x, y) (x', y') = decide (offD (x', y') * y < offD (x, y) * y')) := rfl
        have s3 : IntKind.i64.wrap (offD (x, y) * y') = offD (x, y) * y' := IntWalk.i64_in _ (by omega)
        have s4 : IntKind.i64.wrap (offD (x', y') * y) = offD (x', y') * y := IntWalk.i64_in _ (by omega)
        have p0 : ∀ s : Abv wr, s.w.cell? (ad.add (k * 2)) = some (.int .i64 x) := Abv.cell (by rw [block_of_add]; exact Nat.lt_of_lt_of_le hbx (unhide hB).size) hc0
        have p1 : ∀ s : Abv wr, s.w.cell? ⟨(ad.add (k * 2)).block, (ad.add (k * 2)).off + 1, none⟩ = some (.int .i64 y) := Abv.cell (p := ⟨(ad.add (k * 2)).block, (ad.add (k * 2)).off + 1, none⟩) (by show (ad.add (k * 2)).block < _; rw [block_of_add]; exact Nat.lt_of_lt_of_le hbx (unhide hB).size) hc1
        have r0 : ∀ s : Abv wr, s.w.cell? (ad.add (b * 2)) = some (.int .i64 x') := Abv.cell (by rw [block_of_add]; exact Nat.lt_of_lt_of_le hbx (unhide hB).size) hd0
        have r1 : ∀ s : Abv wr, s.w.cell? ⟨(ad.add (b * 2)).block, (ad.add (b * 2)).off + 1, none⟩ = some (.int .i64 y') := Abv.cell (p := ⟨(ad.add (b * 2)).block, (ad.add (b * 2)).off + 1, none⟩) (by show (ad.add (b * 2)).block < _; rw [block_of_add]; exact Nat.lt_of_lt_of_le hbx (unhide hB).size) hd1
        go_wp2_with fail
        refine wp_region_abv wr (by kernel_rfl) (by kernel_rfl) (Below.refl _ _) ?_
        repeat (go_big_quiet_step ((first | (go_at_call 69; exact Calls.abv (l5Off_any _ _ _ (by constructor <;> omega) (by constructor <;> omega))))))
        refine wpQuiet_nil ?_
        intro _ hw'
        obtain ⟨s, hw''⟩ := hw'
        subst hw''
        clear s3 s4
        generalize offD (x, y) = u at hW ⊢
        generalize offD (x', y') = u' at hW ⊢
        rcases hd : decide (u' * y < u * y') with _ | _
        · have HE : Hid (wrsI ds (k + 1) = b) := by unfold Hid; rw [unhide HS, unhide hW, hd]; rfl
          clear HS hW
          go_wp2_with fail
          go_roundw
          case rel => exact ⟨k + 1, by omega, by omega, by go_num, by rw [unhide HE], below_next (unhide hB) s.h⟩
          case measure => simp [intOf]; omega
        · have HE : Hid (wrsI ds (k + 1) = k) := by unfold Hid; rw [unhide HS, unhide hW, hd]; rfl
          clear HS hW
          go_wp2_with fail
          go_roundw
          case rel => exact ⟨k + 1, by omega, by omega, by go_num, by rw [unhide HE], below_next (unhide hB) s.h⟩
          case measure => simp [intOf]; omega
      · obtain rfl : k = m := by omega
        go_wp2_with fail
        go_ret2
        exact ⟨by rw [unhide HRR]; rfl, below_next (unhide HB2) (unhide hB)⟩

end Go.Proofs.Ytmpgafanlgnpeaa
