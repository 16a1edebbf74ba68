/- Chapter 5, the walks: drifts; the worst drift: the program's and the reference's. (By gen_clkF.py.) -/
import Derived.Test.YtmpgafanlgnpeaaProg
import Derived.Test.YtmpgafanlgnpeaaClkB
import Derived.Test.YtmpgafanlgnpeaaFrac
namespace Go.Proofs.Ytmpgafanlgnpeaa
open Go.RowKit

/-- 'out = append(out, Drift)' at fresh drifts, the new one in two new cells -/
theorem append_drift (w : World) {ops : Array Oper} {rest : List Oper} {o : Oper} {a : Act} {Q : Exit → Act → World → Prop} (hgd : o.guard = none) (s x : Operand)
    (ho : o.op = .call { callee := .builtin .append, args := #[s, x], argTypes := #[32, 32] })
    (w0 : World) (A : Option Addr) (n c : Nat) (xs : List (Int × Int)) (hs : a.eval s = .slice A n c) (hown : OwnP w w0.heap.size 64 A n c xs) (hb : Below w0.heap.size w0 w)
    (ad : Addr) (p q : Int) (hx : a.eval x = .slice (some ad) 1 1) (hc : w.cell? ad = some (.int .i64 p) ∧ w.cell? (ad.add 1) = some (.int .i64 q)) (hn : n ≤ 1000000000)
    (h : ∀ A' c' w', OwnP w' w0.heap.size 64 A' (n + 1) c' (xs ++ [(p, q)]) → Below w0.heap.size w0 w' → wpList Try.prog ops Q rest (a.put o.dst (.slice A' (n + 1) c')) w') : wpList Try.prog ops Q (o :: rest) a w := by
  obtain ⟨i0, hi, hz0, hz1, hz2⟩ := info_parts info_Drift
  exact wpList_append_many w hgd s x 32 ho w0.heap.size 64 i0 (.agg #[.int .i64 0, .int .i64 0]) 2 16 Try.underlying32 hi hz0 hz1 hz2 rfl (by decide) A n c (cP xs) hs hown _ (some ad) 1 1 _ hx (Reads.two hc.1 hc.2) (cP_one [(p, q)]) (by unfold maxLen; omega) (by omega) hb.size
    fun A' c' w' h2 h3 _ => h A' c' w' (by unfold OwnP; rw [cP_append]; exact h2) (hown.grow hb (Nat.le_refl _) hb.size h3)

/-- fresh drifts and a bool come back -/
def RetDB (w : World) (ys : List (Int × Int)) (b : Bool) (e : Ending) (w' : World) : Prop := ∃ A n c, e = .returned (.tuple #[.slice A n c, .bool b]) ∧ OwnP w' w.heap.size 64 A n c ys ∧ Below w.heap.size w w'
def RetD (w : World) (ys : List (Int × Int)) (e : Ending) (w' : World) : Prop := ∃ A n c, e = .returned (.slice A n c) ∧ OwnP w' w.heap.size 64 A n c ys ∧ Below w.heap.size w w'
/-- a fraction in lowest terms -/
def lowP (a b : Int) : Int × Int := (a.tdiv (Int.gcd a b : Nat), b.tdiv (Int.gcd a b : Nat))
theorem lowP_bound (a b : Int) (ha : 0 ≤ a ∧ a ≤ 1000000) (hb : 0 ≤ b ∧ b ≤ 1000000) : (0 ≤ (lowP a b).1 ∧ (lowP a b).1 ≤ 1000000) ∧ (0 ≤ (lowP a b).2 ∧ (lowP a b).2 ≤ 1000000) := by
  unfold lowP
  have h1 := Int.natAbs_tdiv_le_natAbs a (Int.gcd a b : Nat)
  have h2 := Int.natAbs_tdiv_le_natAbs b (Int.gcd a b : Nat)
  have h3 := Int.tdiv_nonneg ha.1 (Int.natCast_nonneg (Int.gcd a b))
  have h4 := Int.tdiv_nonneg hb.1 (Int.natCast_nonneg (Int.gcd a b))
  simp only
  omega
/-- the drifts up to mark k -/
def drfI (xs : List (Int × Int)) : Nat → List (Int × Int)
  | 0 => []
  | k + 1 => drfI xs k ++ (if 1 ≤ k then [lowP (tr xs k - tr xs (k - 1)) (sh xs k - sh xs (k - 1))] else [])
theorem drf_one (xs : List (Int × Int)) : drfI xs 1 = [] := by simp [drfI]
theorem drf_step (xs : List (Int × Int)) (k : Nat) {x y x' y' : Int} (hk : 1 ≤ k) (h : xs[k]? = some (x, y)) (h' : xs[k - 1]? = some (x', y')) : drfI xs (k + 1) = drfI xs k ++ [lowP (y - y') (x - x')] := by
  rw [drfI, if_pos hk, sh_of h, tr_of h, sh_of h', tr_of h']
theorem drfI_len (xs : List (Int × Int)) (k : Nat) : (drfI xs k).length = k - 1 := by
  induction k with
  | zero => simp [drfI]
  | succ k ih =>
    rw [drfI, List.length_append, ih]
    split <;> simp <;> omega
theorem drfI_bound {xs : List (Int × Int)} (ht : Trk xs) (k : Nat) (hk : k ≤ xs.length) : ∀ p ∈ drfI xs k, (0 ≤ p.1 ∧ p.1 ≤ 1000000) ∧ (0 ≤ p.2 ∧ p.2 ≤ 1000000) := by
  induction k with
  | zero => simp [drfI]
  | succ k ih =>
    intro p hp
    rw [drfI, List.mem_append] at hp
    rcases hp with hp | hp
    · exact ih (by omega) p hp
    · split at hp
      · rename_i h1
        simp at hp
        subst hp
        have a := ht.sh0 k (by omega)
        have b := ht.tr0 k (by omega)
        have c := ht.sh0 (k - 1) (by omega)
        have d := ht.tr0 (k - 1) (by omega)
        have e := ht.up (k - 1) (by omega)
        rw [show k - 1 + 1 = k by omega] at e
        exact lowP_bound _ _ (by omega) (by omega)
      · simp at hp
/-- the drifts of a track, whether it is one -/
def drfR (xs : List (Int × Int)) : List (Int × Int) × Bool := if trkB xs = true then (drfI xs xs.length, true) else ([], false)
theorem drifts_len (xs : List (Int × Int)) : (drfR xs).1.length ≤ 2097152 := by
  unfold drfR
  split
  · rename_i h
    have h1 := (trk_of h).2.2
    have h2 := drfI_len xs xs.length
    simp only
    omega
  · simp

set_option maxHeartbeats 4000000 in
set_option maxRecDepth 100000 in
theorem drifts_any (A : Option Addr) (n c : Nat) (xs : List (Int × Int)) (w : World) (hr : RP w w.heap.size A n xs) (hn : n ≤ 2097152) (h1 : 1 ≤ n) (ht : Trk xs) :
    Calls Try.prog 67 #[.slice A n c] w (RetD w (drfI xs n)) := by
  have HR := hide hr
  have HL := hide hr.len
  have HT := hide ht
  clear hr ht
  go_enter Try.func67, Try.ntmps67
  go_wp2_with fail
  go_loopw [3, 4] (fun v i wr => ∃ (k m : Nat) (A' : Option Addr) (c' : Nat), 1 ≤ k ∧ k ≤ n ∧ m ≤ k ∧ i = .int .i64 k ∧ v = .slice A' m c' ∧ Hid (OwnP wr w.heap.size 64 A' m c' (drfI xs k)) ∧ Hid (Below w.heap.size w wr)) (fun _ i _ => n - (intOf i).toNat)
  case atStart => exact ⟨1, 0, _, _, by omega, by omega, by omega, rfl, rfl, by rw [drf_one]; exact OwnP.empty w 64 (Nat.le_refl _), (Below.refl _ w).alloc (Nat.le_refl _) _⟩
  case round =>
    obtain ⟨k, m, A', c', hk0, hk, hmk, rfl, rfl, hO, hB⟩ := hrel
    by_cases hlt : k < n
    · obtain ⟨ad, x, y, rfl, hbx, hx, hc0, hc1⟩ := ((unhide HR).below (unhide hB)).get hlt
      obtain ⟨ad', x', y', had, _, hx', hd0, hd1⟩ := ((unhide HR).below (unhide hB)).get (show k - 1 < n by omega)
      obtain rfl := Option.some.inj had
      have ek : k - 1 + 1 = k := by omega
      obtain ⟨⟨x00, x01⟩, ⟨y00, y01⟩, ⟨x10, x11⟩, ⟨y10, y11⟩, hxx, hyy, _⟩ := pair_num (unhide HT) (unhide HL) (k := k - 1) (by omega) (unhide hx') (by rw [ek]; exact unhide hx)
      have HH := hide (drf_step xs k hk0 (unhide hx) (unhide hx'))
      have HF : Hid (∀ W, Calls Try.prog 91 #[.int .i64 (y - y'), .int .i64 (x - x')] W fun e w' => e = .returned (.tuple #[.int .i64 (lowP (y - y') (x - x')).1, .int .i64 (lowP (y - y') (x - x')).2]) ∧ Below W.heap.size W w') := fun W => fraction_any (y - y') (x - x') W (by omega) (by omega)
      clear hx hx' had ek
      have p0 : ∀ s : Abv wr, s.w.cell? (ad.add (k * 2)) = some (.int .i64 x) := Abv.cell (by rw [block_of_add]; exact Nat.lt_of_lt_of_le hbx (unhide hB).size) hc0
      have p0' : ∀ s : Abv wr, s.w.cell? ⟨(ad.add (k * 2)).block, (ad.add (k * 2)).off + 1, none⟩ = some (.int .i64 y) := Abv.cell (p := ⟨(ad.add (k * 2)).block, (ad.add (k * 2)).off + 1, none⟩) (by show (ad.add (k * 2)).block < _; rw [block_of_add]; exact Nat.lt_of_lt_of_le hbx (unhide hB).size) hc1
      have p2 : ∀ s : Abv wr, s.w.cell? (ad.add ((k - 1) * 2)) = some (.int .i64 x') := Abv.cell (by rw [block_of_add]; exact Nat.lt_of_lt_of_le hbx (unhide hB).size) hd0
      have p2' : ∀ s : Abv wr, s.w.cell? ⟨(ad.add ((k - 1) * 2)).block, (ad.add ((k - 1) * 2)).off + 1, none⟩ = some (.int .i64 y') := Abv.cell (p := ⟨(ad.add ((k - 1) * 2)).block, (ad.add ((k - 1) * 2)).off + 1, none⟩) (by show (ad.add ((k - 1) * 2)).block < _; rw [block_of_add]; exact Nat.lt_of_lt_of_le hbx (unhide hB).size) hd1
      have l3 : (k : Int) - 1 < (n : Int) := by omega
      have l4 : (1 : Int) ≤ (k : Int) := by omega
      have l5 : (0 : Int) ≤ (k : Int) - 1 := by omega
      have l6 : ((k : Int) - 1).toNat = k - 1 := by omega
      have l7 : (k : Int) < (n : Int) := by omega
      have l8 : (k : Int) ≤ (n : Int) := by omega
      have l9 : (0 : Int) ≤ (k : Int) := by omega
      have s1 : IntKind.i64.wrap ((k : Int) - 1) = (k : Int) - 1 := IntWalk.i64_in _ (by omega)
      have s2 : IntKind.i64.wrap (y - y') = y - y' := IntWalk.i64_in _ (by omega)
      have s3 : IntKind.i64.wrap (x - x') = x - x' := IntWalk.i64_in _ (by omega)
      generalize hP : (lowP (y - y') (x - x')).1 = P at HF
      generalize hQ : (lowP (y - y') (x - x')).2 = Q at HF
      have HE : Hid (drfI xs (k + 1) = drfI xs k ++ [(P, Q)]) := by unfold Hid; rw [unhide HH, ← hP, ← hQ]
      clear HH hP hQ
      go_wp2_with fail
      refine wp_region_abv wr (by kernel_rfl) (by kernel_rfl) (Below.refl _ _) ?_
      repeat (go_big_quiet_step ((first | (go_at_call 91; exact Calls.abv (unhide HF _)))))
      refine wpQuiet_nil ?_
      intro _ hw'
      obtain ⟨s, hw''⟩ := hw'
      subst hw''
      clear s1 s2 s3
      have HS := hide s.h
      go_wp2_with (at_builtin; refine append_drift _ rfl _ _ rfl w A' m c' (drfI xs k) rfl ((OwnP.below (unhide hO) (unhide HS) (Nat.le_refl _)).alloc _) ((below_next (unhide hB) (unhide HS)).alloc (below_next (unhide hB) (unhide HS)).size _) _ P Q rfl ⟨by simp, by simp [Addr.add]⟩ (by omega) ?_; intro A2 c2 w2 hO2 hB2)
      rw [← unhide HE] at hO2
      have HO2 := hide hO2
      have HB2 := hide hB2
      clear hO2 hB2 hO hB HE HS
      go_wp2_with fail
      go_roundw
      case rel => exact ⟨k + 1, m + 1, A2, c2, by omega, by omega, by omega, by go_num, rfl, HO2, HB2⟩
      case measure => simp [intOf]; omega
    · obtain rfl : k = n := by omega
      go_wp2_with fail
      go_ret
      exact ⟨A', m, c', rfl, unhide hO, unhide hB⟩

set_option maxHeartbeats 4000000 in
set_option maxRecDepth 100000 in
theorem implDriftsOf_any (A : Option Addr) (n c : Nat) (xs : List (Int × Int)) (w : World) (hr : RP w w.heap.size A n xs) (hn : n ≤ 2097152) :
    Calls Try.prog 25 #[.slice A n c] w (RetDB w (drfR xs).1 (drfR xs).2) := by
  have HG := hide (implIsTrack_any A n c xs w hr (by omega))
  have HL := hide hr.len
  have HR := hide hr
  clear hr
  rcases h1 : trkB xs with _ | _
  · have HRR : Hid (drfR xs = ([], false)) := by unfold Hid drfR; rw [h1]; rfl
    go_enter Try.func25, Try.ntmps25
    go_wp2_with fail
    rw [h1] at HG
    refine (unhide HG).mono ?_
    rintro e w1 ⟨rfl, hb⟩
    have HB1 := hide hb
    clear hb
    go_wp2_with fail
    go_ret2
    rw [unhide HRR]
    exact ⟨none, 0, 0, rfl, OwnP.nil _ _ _, unhide HB1⟩
  · obtain ⟨ht, l2, l10⟩ := trk_of h1
    rw [unhide HL] at l2 l10
    have HRR : Hid (drfR xs = (drfI xs n, true)) := by unfold Hid drfR; rw [h1, unhide HL]; rfl
    have HT := hide ht
    clear ht
    go_enter Try.func25, Try.ntmps25
    go_wp2_with fail
    rw [h1] at HG
    refine (unhide HG).mono ?_
    rintro e w1 ⟨rfl, hb⟩
    have HB1 := hide hb
    clear hb
    go_wp2_with fail
    refine (drifts_any A n c xs _ (((unhide HR).below (unhide HB1)).more (unhide HB1).size) hn (by omega) (unhide HT)).mono ?_
    rintro e w2 ⟨A2, n2, c2, rfl, hO, hb⟩
    have HO := hide (hO.less (unhide HB1).size)
    have HB2 := hide (below_next (unhide HB1) hb)
    clear hO hb
    go_wp2_with fail
    go_ret2
    rw [unhide HRR]
    exact ⟨A2, n2, c2, rfl, unhide HO, unhide HB2⟩

set_option maxHeartbeats 4000000 in
set_option maxRecDepth 100000 in
theorem specDriftsOf_any (A : Option Addr) (n c : Nat) (xs : List (Int × Int)) (w : World) (hr : RP w w.heap.size A n xs) (hn : n ≤ 2097152) :
    Calls Try.prog 24 #[.slice A n c] w (RetDB w (drfR xs).1 (drfR xs).2) := by
  have HG := hide (l5Good_any A n c xs (w.alloc (.cells #[] 64)) ((hr.alloc (Nat.le_refl _) _).more (by simp)) (by omega))
  have HL := hide hr.len
  have HR := hide hr
  clear hr
  rcases h1 : trkB xs with _ | _
  · have HRR : Hid (drfR xs = ([], false)) := by unfold Hid drfR; rw [h1]; rfl
    go_enter Try.func24, Try.ntmps24
    go_wp2_with fail
    rw [h1] at HG
    refine (unhide HG).mono ?_
    rintro e w1 ⟨rfl, hb⟩
    have HB1 : Hid (Below w.heap.size w w1) := ((Below.refl _ w).alloc (Nat.le_refl _) _).trans (hb.mono (by simp))
    have HO1 := hide ((OwnP.empty w 64 (Nat.le_refl _)).below hb (Nat.le_refl _))
    clear hb
    go_wp2_with fail
    go_ret2
    rw [unhide HRR]
    exact ⟨_, _, _, rfl, unhide HO1, unhide HB1⟩
  · obtain ⟨ht, l2, l10⟩ := trk_of h1
    rw [unhide HL] at l2 l10
    have HRR : Hid (drfR xs = (drfI xs n, true)) := by unfold Hid drfR; rw [h1, unhide HL]; rfl
    have HT := hide ht
    clear ht
    go_enter Try.func24, Try.ntmps24
    go_wp2_with fail
    rw [h1] at HG
    refine (unhide HG).mono ?_
    rintro e w1 ⟨rfl, hb⟩
    have HB1 : Hid (Below w.heap.size w w1) := ((Below.refl _ w).alloc (Nat.le_refl _) _).trans (hb.mono (by simp))
    have HO1 := hide ((OwnP.empty w 64 (Nat.le_refl _)).below hb (Nat.le_refl _))
    clear hb
    go_wp2_with fail
    go_loopw [4, 5] (fun v i wr => ∃ (k m : Nat) (A' : Option Addr) (c' : Nat), 1 ≤ k ∧ k ≤ n ∧ m ≤ k ∧ i = .int .i64 k ∧ v = .slice A' m c' ∧ Hid (OwnP wr w.heap.size 64 A' m c' (drfI xs k)) ∧ Hid (Below w.heap.size w wr)) (fun _ i _ => n - (intOf i).toNat)
    case atStart => exact ⟨1, 0, _, _, by omega, by omega, by omega, rfl, rfl, by rw [drf_one]; exact HO1, HB1⟩
    case round =>
      obtain ⟨k, m, A', c', hk0, hk, hmk, rfl, rfl, hO, hB⟩ := hrel
      by_cases hlt : k < n
      · obtain ⟨ad, x, y, rfl, hbx, hx, hc0, hc1⟩ := ((unhide HR).below (unhide hB)).get hlt
        obtain ⟨ad', x', y', had, _, hx', hd0, hd1⟩ := ((unhide HR).below (unhide hB)).get (show k - 1 < n by omega)
        obtain rfl := Option.some.inj had
        have ek : k - 1 + 1 = k := by omega
        obtain ⟨⟨x00, x01⟩, ⟨y00, y01⟩, ⟨x10, x11⟩, ⟨y10, y11⟩, hxx, hyy, _⟩ := pair_num (unhide HT) (unhide HL) (k := k - 1) (by omega) (unhide hx') (by rw [ek]; exact unhide hx)
        have HH := hide (drf_step xs k hk0 (unhide hx) (unhide hx'))
        have HF : Hid (∀ W, Calls Try.prog 66 #[.int .i64 (y - y'), .int .i64 (x - x')] W fun e w' => e = .returned (.tuple #[.int .i64 (lowP (y - y') (x - x')).1, .int .i64 (lowP (y - y') (x - x')).2]) ∧ Below W.heap.size W w') := fun W => l2Reduce_any (y - y') (x - x') W (by omega) (by omega)
        clear hx hx' had ek
        have p0 : ∀ s : Abv wr, s.w.cell? (ad.add (k * 2)) = some (.int .i64 x) := Abv.cell (by rw [block_of_add]; exact Nat.lt_of_lt_of_le hbx (unhide hB).size) hc0
        have p0' : ∀ s : Abv wr, s.w.cell? ⟨(ad.add (k * 2)).block, (ad.add (k * 2)).off + 1, none⟩ = some (.int .i64 y) := Abv.cell (p := ⟨(ad.add (k * 2)).block, (ad.add (k * 2)).off + 1, none⟩) (by show (ad.add (k * 2)).block < _; rw [block_of_add]; exact Nat.lt_of_lt_of_le hbx (unhide hB).size) hc1
        have p2 : ∀ s : Abv wr, s.w.cell? (ad.add ((k - 1) * 2)) = some (.int .i64 x') := Abv.cell (by rw [block_of_add]; exact Nat.lt_of_lt_of_le hbx (unhide hB).size) hd0
        have p2' : ∀ s : Abv wr, s.w.cell? ⟨(ad.add ((k - 1) * 2)).block, (ad.add ((k - 1) * 2)).off + 1, none⟩ = some (.int .i64 y') := Abv.cell (p := ⟨(ad.add ((k - 1) * 2)).block, (ad.add ((k - 1) * 2)).off + 1, none⟩) (by show (ad.add ((k - 1) * 2)).block < _; rw [block_of_add]; exact Nat.lt_of_lt_of_le hbx (unhide hB).size) hd1
        have l3 : (k : Int) - 1 < (n : Int) := by omega
        have l4 : (1 : Int) ≤ (k : Int) := by omega
        have l5 : (0 : Int) ≤ (k : Int) - 1 := by omega
        have l6 : ((k : Int) - 1).toNat = k - 1 := by omega
        have l7 : (k : Int) < (n : Int) := by omega
        have l8 : (k : Int) ≤ (n : Int) := by omega
        have l9 : (0 : Int) ≤ (k : Int) := by omega
        have s1 : IntKind.i64.wrap ((k : Int) - 1) = (k : Int) - 1 := IntWalk.i64_in _ (by omega)
        have s2 : IntKind.i64.wrap (y - y') = y - y' := IntWalk.i64_in _ (by omega)
        have s3 : IntKind.i64.wrap (x - x') = x - x' := IntWalk.i64_in _ (by omega)
        generalize hP : (lowP (y - y') (x - x')).1 = P at HF
        generalize hQ : (lowP (y - y') (x - x')).2 = Q at HF
        have HE : Hid (drfI xs (k + 1) = drfI xs k ++ [(P, Q)]) := by unfold Hid; rw [unhide HH, ← hP, ← hQ]
        clear HH hP hQ
        go_wp2_with fail
        refine wp_region_abv wr (by kernel_rfl) (by kernel_rfl) (Below.refl _ _) ?_
        repeat (go_big_quiet_step ((first | (go_at_call 66; exact Calls.abv (unhide HF _)))))
        refine wpQuiet_nil ?_
        intro _ hw'
        obtain ⟨s, hw''⟩ := hw'
        subst hw''
        clear s1 s2 s3
        have HS := hide s.h
        go_wp2_with (at_builtin; refine append_drift _ rfl _ _ rfl w A' m c' (drfI xs k) rfl ((OwnP.below (unhide hO) (unhide HS) (Nat.le_refl _)).alloc _) ((below_next (unhide hB) (unhide HS)).alloc (below_next (unhide hB) (unhide HS)).size _) _ P Q rfl ⟨by simp, by simp [Addr.add]⟩ (by omega) ?_; intro A2 c2 w2 hO2 hB2)
        rw [← unhide HE] at hO2
        have HO2 := hide hO2
        have HB2 := hide hB2
        clear hO2 hB2 hO hB HE HS
        go_wp2_with fail
        go_roundw
        case rel => exact ⟨k + 1, m + 1, A2, c2, by omega, by omega, by omega, by go_num, rfl, HO2, HB2⟩
        case measure => simp [intOf]; omega
      · obtain rfl : k = n := by omega
        go_wp2_with fail
        go_ret2
        rw [unhide HRR]
        exact ⟨A', m, c', rfl, unhide hO, unhide hB⟩

end Go.Proofs.Ytmpgafanlgnpeaa
