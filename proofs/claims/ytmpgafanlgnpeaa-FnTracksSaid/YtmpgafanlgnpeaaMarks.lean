/- The walks of the laws' helpers on slices of pairs: a copy, the size, equality, marks written, marks held. (By gen_marks.py.) -/
import Derived.Test.YtmpgafanlgnpeaaProg
import Derived.Test.YtmpgafanlgnpeaaBase
import Derived.Test.YtmpgafanlgnpeaaFlat
import Derived.Test.YtmpgafanlgnpeaaAbove
import Derived.Deep.RegionHeld3
namespace Go.Proofs.Ytmpgafanlgnpeaa
open Go.RowKit

/-- what is left of a size -/
def szI (left : Int) (n : Nat) : Int := if left - n < 0 then -1 else left - n

theorem szClockMarkS_any (A : Option Addr) (n c : Nat) (left : Int) (w : World) (h0 : 0 ≤ left) (h1 : left ≤ 1048576) (hn : n ≤ 9223372036854775807) :
    Calls Try.prog 15 #[.slice A n c, .int .i64 left] w fun e w' => e = .returned (.int .i64 (szI left n)) ∧ w = w' := by
  by_cases h : left - n < 0
  · have e : Hid (szI left n = -1) := by unfold Hid szI; rw [if_pos h]
    go_enter Try.func15, Try.ntmps15
    go_wp2
    go_ret
    exact ⟨ret_int (unhide e).symm, rfl⟩
  · have e : Hid (szI left n = left - n) := by unfold Hid szI; rw [if_neg h]
    go_enter Try.func15, Try.ntmps15
    go_wp2
    go_ret
    exact ⟨ret_int (unhide e).symm, rfl⟩

theorem info_ClockMark : (Try.prog.info? 43).map (fun i => (i.zero, i.size, i.bytes)) = some (some (.agg #[.int .i64 0, .int .i64 0]), 2, 16) := by kernel_rfl

theorem toClockMark_any (a b : Int) (w : World) :
    Calls Try.prog 33 #[.agg #[.int .i64 a, .int .i64 b]] w fun e w' => e = .returned (.agg #[.int .i64 a, .int .i64 b]) ∧ Below w.heap.size w w' := by
  go_enter Try.func33, Try.ntmps33
  go_wp2
  refine bodyPost_ret (v := .agg #[.int .i64 a, .int .i64 b]) (by simp [results, Try.results33, go_sem]) rfl ⟨rfl, ?_⟩
  repeat (first | exact Below.refl _ _ | refine Below.setCell ?_ (by simp <;> omega) _ | refine Below.alloc ?_ (by simp <;> omega) _)

/-- Fresh pairs come back; what was there stays. -/
def RetP (w : World) (E : TypeId) (ys : List (Int × Int)) (e : Ending) (w' : World) : Prop := ∃ A n c, e = .returned (.slice A n c) ∧ OwnP w' w.heap.size E A n c ys ∧ Below w.heap.size w w'

theorem below_next {w a b : World} (h : Below w.heap.size w a) (hb : Below a.heap.size a b) : Below w.heap.size w b := h.trans (hb.mono h.size)
theorem made_pairs (n : Nat) : (madeCells #[Value.int .i64 0, Value.int .i64 0] (n * 2)).toList = cP (List.replicate n (0, 0)) := by
  induction n with
  | zero => simp [madeCells, cP]
  | succ n ih =>
    unfold madeCells at ih ⊢
    rw [show (n + 1) * 2 = n * 2 + 1 + 1 by omega, Array.toList_map, Array.toList_range, List.range_succ, List.range_succ, List.map_append, List.map_append, ← Array.toList_range, ← Array.toList_map, ih, List.replicate_succ', cP_append]
    have h0 : n * 2 % 2 = 0 := by omega
    have h1 : (n * 2 + 1) % 2 = 1 := by omega
    simp [cP, fP, h0, h1]
theorem copyP_step (xs : List (Int × Int)) (n k : Nat) (hl : xs.length = n) (hk : k < n) {x y : Int} (hx : xs[k]? = some (x, y)) : (xs.take k ++ (List.replicate n ((0, 0) : Int × Int)).drop k).set k (x, y) = xs.take (k + 1) ++ (List.replicate n (0, 0)).drop (k + 1) := by
  rw [set_step _ _ n k _ (by simp; omega) (by simp) hk, List.take_add_one, hx]
  rfl

set_option maxHeartbeats 1000000 in
set_option maxRecDepth 100000 in
theorem toClockMarkS_any (A : Option Addr) (n c : Nat) (xs : List (Int × Int)) (w : World) (hr : RP w w.heap.size A n xs) (hn : n ≤ 1048576) :
    Calls Try.prog 17 #[.slice A n c] w (RetP w 43 xs) := by
  obtain ⟨i0, hi, hz0, hz1, hz2⟩ := info_parts info_ClockMark
  have HR := hide hr; clear hr
  go_enter Try.func17, Try.ntmps17
  go_wp2_with (at_make; refine wpList_make_full _ rfl _ _ 25 rfl w.heap.size 43 i0 (.agg #[.int .i64 0, .int .i64 0]) 2 Try.underlying25 hi hz0 hz1 _ _ _ _ n rfl rfl rfl rfl (by rw [hz2]; omega) (by unfold maxLen; omega) (Nat.le_refl _) ?_)
  intro w1 hown hg
  have HO := hide hown; have HG := hide hg; clear hown hg
  go_wp2
  go_loopw [4] (fun i wr => ∃ k : Nat, k ≤ n ∧ i = .int .i64 k ∧ Hid (OwnP wr w.heap.size 43 (some ⟨w.heap.size, 0, none⟩) n n (xs.take k ++ (List.replicate n (0, 0)).drop k)) ∧ Hid (Below w.heap.size w wr)) (fun i _ => n - (intOf i).toNat)
  case atStart =>
    refine ⟨0, Nat.zero_le _, rfl, ?_, hide ((Below.refl _ _).grown (unhide HG) (Nat.le_refl _) (by simp))⟩
    have := unhide HO
    unfold OwnP Hid
    rw [made_pairs] at this
    simpa using this
  case round =>
    obtain ⟨k, hk, rfl, hO, hB⟩ := hrel
    by_cases hlt : k < n
    · obtain ⟨ad, x, y, rfl, hb, hx, hc0, hc1⟩ := ((unhide HR).below (unhide hB)).get hlt
      go_wp2_with fail
      refine (toClockMark_any x y _).mono ?_
      rintro e w2 ⟨rfl, hb2⟩
      have hO2 := (unhide hO).below hb2 (Nat.le_refl _)
      have hB2 := below_next (unhide hB) hb2
      obtain ⟨g, hg, hlo, hgl, hd0, hd1, hf0, hf1, hO3, hgr⟩ := hO2.store hlt x y
      obtain rfl : w.heap.size = g := by simpa using hg
      rw [copyP_step xs n k (unhide HR).len hlt (unhide hx)] at hO3
      have HO3 := hide hO3
      have HB3 := hide ((hB2.setCell (p := ⟨w.heap.size, k * 2, none⟩) (Nat.le_refl _) (.int .i64 x)).setCell (p := ⟨w.heap.size, k * 2 + 1, none⟩) (Nat.le_refl _) (.int .i64 y))
      clear hO3 hgr hg hO2 hB2 hb2 hx hO hB
      go_wp2
      go_roundw
      case rel => exact ⟨k + 1, by omega, by go_num, HO3, HB3⟩
      case measure => simp [intOf]; omega
    · go_wp2
      go_ret
      have e : k = n := by omega
      subst e
      have e2 : xs.take k ++ (List.replicate k ((0, 0) : Int × Int)).drop k = xs := by
        rw [List.take_of_length_le (by rw [(unhide HR).len]; exact Nat.le_refl _)]
        simp
      rw [e2] at hO
      exact ⟨_, _, _, rfl, unhide hO, unhide hB⟩

theorem eqClockMark_any (a b a' b' : Int) (w : World) :
    Calls Try.prog 62 #[.agg #[.int .i64 a, .int .i64 b], .agg #[.int .i64 a', .int .i64 b']] w fun e w' => e = .returned (.bool (a == a' && b == b')) ∧ Below w.heap.size w w' := by
  have B0 : Hid (Below w.heap.size w ((w.alloc (.cells #[.int .i64 a, .int .i64 b] 43)).alloc (.cells #[.int .i64 a', .int .i64 b'] 43))) := ((Below.refl _ _).alloc (Nat.le_refl _) _).alloc (by simp) _
  by_cases h1 : a = a'
  · subst h1
    have ea : (a != a) = false := by simp
    by_cases h2 : b = b'
    · subst h2
      have eb : (b != b) = false := by simp
      go_enter Try.func62, Try.ntmps62
      go_wp2
      go_ret
      exact ⟨by simp, unhide B0⟩
    · have eb : (b != b') = true := by simpa using h2
      have er : Hid ((a == a && b == b') = false) := by unfold Hid; simp [h2]
      clear h2
      go_enter Try.func62, Try.ntmps62
      go_wp2
      go_ret
      exact ⟨ret_bool (unhide er).symm, unhide B0⟩
  · have ea : (a != a') = true := by simpa using h1
    have er : Hid ((a == a' && b == b') = false) := by unfold Hid; simp [h1]
    clear h1
    go_enter Try.func62, Try.ntmps62
    go_wp2
    go_ret
    exact ⟨ret_bool (unhide er).symm, unhide B0⟩

set_option maxHeartbeats 1000000 in
set_option maxRecDepth 100000 in
theorem eqClockMarkS_any (A B : Option Addr) (n m c d L M : Nat) (xs ys : List (Int × Int)) (w : World) (hx : RP w L A n xs) (hy : RP w M B m ys) (hn : n ≤ 9223372036854775807) (hm : m ≤ 9223372036854775807) (hL : L ≤ w.heap.size) (hM : M ≤ w.heap.size) :
    Calls Try.prog 19 #[.slice A n c, .slice B m d] w fun e w' => e = .returned (.bool (xs == ys)) ∧ Below w.heap.size w w' := by
  have hlx := hx.len
  have hly := hy.len
  by_cases hnm : n = m
  · subst hnm
    have HX := hide (hx.more hL); have HY := hide (hy.more hM); have HLX := hide hlx; have HLY := hide hly; clear hx hy hlx hly
    go_enter Try.func19, Try.ntmps19
    go_wp2
    go_loopw [5] (fun i wr => ∃ k : Nat, k ≤ n ∧ i = .int .i64 k ∧ Hid (xs.take k = ys.take k) ∧ Hid (Below w.heap.size w wr)) (fun i _ => n - (intOf i).toNat)
    case atStart => exact ⟨0, Nat.zero_le _, rfl, rfl, Below.refl _ _⟩
    case round =>
      obtain ⟨k, hk, rfl, hE, hB⟩ := hrel
      by_cases hlt : k < n
      · obtain ⟨ad, x, y, rfl, hbx, hx, hc0, hc1⟩ := ((unhide HX).below (unhide hB)).get hlt
        obtain ⟨ae, x', y', rfl, hby, hy, hd0, hd1⟩ := ((unhide HY).below (unhide hB)).get hlt
        have p0 : ∀ s : Abv wr, s.w.cell? (ad.add (k * 2)) = some (.int .i64 x) := Abv.cell (by rw [block_of_add]; exact Nat.lt_of_lt_of_le hbx (unhide hB).size) hc0
        have p1 : ∀ s : Abv wr, s.w.cell? ⟨(ad.add (k * 2)).block, (ad.add (k * 2)).off + 1, none⟩ = some (.int .i64 y) := Abv.cell (by rw [block_of_add]; exact Nat.lt_of_lt_of_le hbx (unhide hB).size) hc1
        have q0 : ∀ s : Abv wr, s.w.cell? (ae.add (k * 2)) = some (.int .i64 x') := Abv.cell (by rw [block_of_add]; exact Nat.lt_of_lt_of_le hby (unhide hB).size) hd0
        have q1 : ∀ s : Abv wr, s.w.cell? ⟨(ae.add (k * 2)).block, (ae.add (k * 2)).off + 1, none⟩ = some (.int .i64 y') := Abv.cell (by rw [block_of_add]; exact Nat.lt_of_lt_of_le hby (unhide hB).size) hd1
        have l1 : (k : Int) < (n : Int) := by omega
        have l2 : (0 : Int) ≤ (k : Int) := by omega
        cases hv : (x == x' && y == y')
        · have HV : Hid (xs ≠ ys) := by
            intro e
            subst e
            have e2 := (unhide hx).symm.trans (unhide hy)
            injection e2 with e2
            injection e2 with e3 e4
            subst e3 e4
            simp at hv
          clear hx hy hE
          go_wp2
          refine wp_region_abv wr (by kernel_rfl) (by kernel_rfl) (Below.refl _ _) ?_
          repeat (go_big_quiet_step ((first | (go_at_call 62; exact Calls.abv ((eqClockMark_any _ _ _ _ _).mono fun _ _ ⟨a, b⟩ => ⟨by rw [a, hv], b⟩)))))
          refine wpQuiet_nil ?_
          intro _ hw'
          obtain ⟨s, hw''⟩ := hw'
          subst hw''
          go_wp2
          go_ret
          exact ⟨by simpa using unhide HV, below_next (unhide hB) s.h⟩
        · have HE2 : Hid (xs.take (k + 1) = ys.take (k + 1)) := by
            have e2 : x = x' ∧ y = y' := by simpa using hv
            obtain ⟨rfl, rfl⟩ := e2
            unfold Hid
            rw [List.take_add_one, List.take_add_one, unhide hE, unhide hx, unhide hy]
          clear hx hy hE
          go_wp2
          refine wp_region_abv wr (by kernel_rfl) (by kernel_rfl) (Below.refl _ _) ?_
          repeat (go_big_quiet_step ((first | (go_at_call 62; exact Calls.abv ((eqClockMark_any _ _ _ _ _).mono fun _ _ ⟨a, b⟩ => ⟨by rw [a, hv], b⟩)))))
          refine wpQuiet_nil ?_
          intro _ hw'
          obtain ⟨s, hw''⟩ := hw'
          subst hw''
          go_wp2
          go_roundw
          case rel => exact ⟨k + 1, by omega, by go_num, HE2, below_next (unhide hB) s.h⟩
          case measure => simp [intOf]; omega
      · have e : k = n := by omega
        subst e
        have HV : Hid (xs = ys) := by
          have := unhide hE
          rwa [List.take_of_length_le (by have := unhide HLX; omega), List.take_of_length_le (by have := unhide HLY; omega)] at this
        go_wp2
        go_ret
        exact ⟨by simpa using unhide HV, unhide hB⟩
  · have HV : Hid (xs ≠ ys) := by
      intro e
      subst e
      omega
    have ht : ((n : Int) != (m : Int)) = true := by simp; omega
    clear hx hy hlx hly
    go_enter Try.func19, Try.ntmps19
    go_wp2
    go_ret
    exact ⟨by simpa using unhide HV, Below.refl _ _⟩

set_option maxHeartbeats 1000000 in
set_option maxRecDepth 100000 in
theorem markClockMarkS_any (A : Option Addr) (n c lo : Nat) (xs : List (Int × Int)) (k0 : Int) (w : World) (h : OwnP w lo 43 A n c xs) (hn : n ≤ 2097152) (h0 : 0 ≤ k0) (h1 : k0 ≤ 1000000000000) :
    Calls Try.prog 27 #[.slice A n c, .int .i64 k0] w fun e w' => e = .returned (.int .i64 (k0 + 2 * n)) ∧ OwnP w' lo 43 A n c (marksP k0 n) ∧ w.grownBy w' (Value.slice A n c).ownBlock := by
  have HO := hide h; clear h
  go_enter Try.func27, Try.ntmps27
  go_wp2
  go_loopw [1, 5] (fun q i wr => ∃ k : Nat, k ≤ n ∧ i = .int .i64 k ∧ q = .int .i64 (k0 + 2 * k) ∧ Hid (OwnP wr lo 43 A n c (marksP k0 k ++ xs.drop k)) ∧ Hid (w.grownBy wr (Value.slice A n c).ownBlock)) (fun _ i _ => n - (intOf i).toNat)
  case atStart => exact ⟨0, Nat.zero_le _, rfl, by simp, by simpa [marksP, Hid] using unhide HO, World.grownBy.refl _ _⟩
  case round =>
    obtain ⟨k, hk, rfl, rfl, hO, hG⟩ := hrel
    by_cases hlt : k < n
    · obtain ⟨g, rfl, hlo, hgl, hc0, hc1, hf0, hf1, hO2, hgr⟩ := OwnP.store (unhide hO) hlt (k0 + 2 * k) (k0 + 2 * k + 1)
      rw [markP_step k0 xs n k (by have := (unhide HO).len; exact this) hlt] at hO2
      have HO2 := hide hO2
      have HG2 := hide (grownBy_trans (unhide hG) hgr)
      clear hO2 hgr hO hG
      go_wp2
      go_roundw
      case rel => exact ⟨k + 1, by omega, by go_num, by go_num, HO2, HG2⟩
      case measure => simp [intOf]; omega
    · have e : k = n := by omega
      subst e
      go_wp2
      go_ret
      refine ⟨rfl, ?_, unhide hG⟩
      have := unhide hO
      rwa [List.drop_of_length_le (by have := (unhide HO).len; omega), List.append_nil] at this

set_option maxHeartbeats 1000000 in
set_option maxRecDepth 100000 in
theorem heldClockMarkS_any (A : Option Addr) (n c L : Nat) (k0 : Int) (w : World) (h : RP w L A n (marksP k0 n)) (hn : n ≤ 2097152) (h0 : 0 ≤ k0) (h1 : k0 ≤ 1000000000000) :
    Calls Try.prog 35 #[.slice A n c, .int .i64 k0] w fun e w' => e = .returned (.int .i64 (k0 + 2 * n)) ∧ w = w' := by
  have HR := hide h; clear h
  go_enter Try.func35, Try.ntmps35
  go_wp2
  go_loop [1, 5] (fun q i => ∃ k : Nat, k ≤ n ∧ i = .int .i64 k ∧ q = .int .i64 (k0 + 2 * k)) (fun _ i => n - (intOf i).toNat)
  case atStart => exact ⟨0, Nat.zero_le _, rfl, by simp⟩
  case round =>
    obtain ⟨k, hk, rfl, rfl⟩ := hrel
    by_cases hlt : k < n
    · obtain ⟨ad, x, y, rfl, _, hx, hc0, hc1⟩ := (unhide HR).get hlt
      have e := unhide hx
      rw [marksP_get _ _ _ hlt] at e
      obtain ⟨rfl, rfl⟩ : k0 + 2 * (k : Int) = x ∧ k0 + 2 * (k : Int) + 1 = y := by
        have := Option.some.inj e
        exact ⟨congrArg Prod.fst this, congrArg Prod.snd this⟩
      clear hx e
      have ht : (k0 + 2 * (k : Int) != k0 + 2 * (k : Int)) = false := by simp
      have ht1 : (k0 + 2 * (k : Int) + 1 != k0 + 2 * (k : Int) + 1) = false := by simp
      go_wp2
      go_round
      case rel => exact ⟨k + 1, by omega, by go_num, by go_num⟩
      case measure => simp [intOf]; omega
    · have e : k = n := by omega
      subst e
      go_wp2
      go_ret
      exact ⟨rfl, rfl⟩

theorem info_Drift : (Try.prog.info? 64).map (fun i => (i.zero, i.size, i.bytes)) = some (some (.agg #[.int .i64 0, .int .i64 0]), 2, 16) := by kernel_rfl

theorem eqDrift_any (a b a' b' : Int) (w : World) :
    Calls Try.prog 68 #[.agg #[.int .i64 a, .int .i64 b], .agg #[.int .i64 a', .int .i64 b']] w fun e w' => e = .returned (.bool (a == a' && b == b')) ∧ Below w.heap.size w w' := by
  have B0 : Hid (Below w.heap.size w ((w.alloc (.cells #[.int .i64 a, .int .i64 b] 64)).alloc (.cells #[.int .i64 a', .int .i64 b'] 64))) := ((Below.refl _ _).alloc (Nat.le_refl _) _).alloc (by simp) _
  by_cases h1 : a = a'
  · subst h1
    have ea : (a != a) = false := by simp
    by_cases h2 : b = b'
    · subst h2
      have eb : (b != b) = false := by simp
      go_enter Try.func68, Try.ntmps68
      go_wp2
      go_ret
      exact ⟨by simp, unhide B0⟩
    · have eb : (b != b') = true := by simpa using h2
      have er : Hid ((a == a && b == b') = false) := by unfold Hid; simp [h2]
      clear h2
      go_enter Try.func68, Try.ntmps68
      go_wp2
      go_ret
      exact ⟨ret_bool (unhide er).symm, unhide B0⟩
  · have ea : (a != a') = true := by simpa using h1
    have er : Hid ((a == a' && b == b') = false) := by unfold Hid; simp [h1]
    clear h1
    go_enter Try.func68, Try.ntmps68
    go_wp2
    go_ret
    exact ⟨ret_bool (unhide er).symm, unhide B0⟩

set_option maxHeartbeats 1000000 in
set_option maxRecDepth 100000 in
theorem eqDriftS_any (A B : Option Addr) (n m c d L M : Nat) (xs ys : List (Int × Int)) (w : World) (hx : RP w L A n xs) (hy : RP w M B m ys) (hn : n ≤ 9223372036854775807) (hm : m ≤ 9223372036854775807) (hL : L ≤ w.heap.size) (hM : M ≤ w.heap.size) :
    Calls Try.prog 26 #[.slice A n c, .slice B m d] w fun e w' => e = .returned (.bool (xs == ys)) ∧ Below w.heap.size w w' := by
  have hlx := hx.len
  have hly := hy.len
  by_cases hnm : n = m
  · subst hnm
    have HX := hide (hx.more hL); have HY := hide (hy.more hM); have HLX := hide hlx; have HLY := hide hly; clear hx hy hlx hly
    go_enter Try.func26, Try.ntmps26
    go_wp2
    go_loopw [5] (fun i wr => ∃ k : Nat, k ≤ n ∧ i = .int .i64 k ∧ Hid (xs.take k = ys.take k) ∧ Hid (Below w.heap.size w wr)) (fun i _ => n - (intOf i).toNat)
    case atStart => exact ⟨0, Nat.zero_le _, rfl, rfl, Below.refl _ _⟩
    case round =>
      obtain ⟨k, hk, rfl, hE, hB⟩ := hrel
      by_cases hlt : k < n
      · obtain ⟨ad, x, y, rfl, hbx, hx, hc0, hc1⟩ := ((unhide HX).below (unhide hB)).get hlt
        obtain ⟨ae, x', y', rfl, hby, hy, hd0, hd1⟩ := ((unhide HY).below (unhide hB)).get hlt
        have p0 : ∀ s : Abv wr, s.w.cell? (ad.add (k * 2)) = some (.int .i64 x) := Abv.cell (by rw [block_of_add]; exact Nat.lt_of_lt_of_le hbx (unhide hB).size) hc0
        have p1 : ∀ s : Abv wr, s.w.cell? ⟨(ad.add (k * 2)).block, (ad.add (k * 2)).off + 1, none⟩ = some (.int .i64 y) := Abv.cell (by rw [block_of_add]; exact Nat.lt_of_lt_of_le hbx (unhide hB).size) hc1
        have q0 : ∀ s : Abv wr, s.w.cell? (ae.add (k * 2)) = some (.int .i64 x') := Abv.cell (by rw [block_of_add]; exact Nat.lt_of_lt_of_le hby (unhide hB).size) hd0
        have q1 : ∀ s : Abv wr, s.w.cell? ⟨(ae.add (k * 2)).block, (ae.add (k * 2)).off + 1, none⟩ = some (.int .i64 y') := Abv.cell (by rw [block_of_add]; exact Nat.lt_of_lt_of_le hby (unhide hB).size) hd1
        have l1 : (k : Int) < (n : Int) := by omega
        have l2 : (0 : Int) ≤ (k : Int) := by omega
        cases hv : (x == x' && y == y')
        · have HV : Hid (xs ≠ ys) := by
            intro e
            subst e
            have e2 := (unhide hx).symm.trans (unhide hy)
            injection e2 with e2
            injection e2 with e3 e4
            subst e3 e4
            simp at hv
          clear hx hy hE
          go_wp2
          refine wp_region_abv wr (by kernel_rfl) (by kernel_rfl) (Below.refl _ _) ?_
          repeat (go_big_quiet_step ((first | (go_at_call 68; exact Calls.abv ((eqDrift_any _ _ _ _ _).mono fun _ _ ⟨a, b⟩ => ⟨by rw [a, hv], b⟩)))))
          refine wpQuiet_nil ?_
          intro _ hw'
          obtain ⟨s, hw''⟩ := hw'
          subst hw''
          go_wp2
          go_ret
          exact ⟨by simpa using unhide HV, below_next (unhide hB) s.h⟩
        · have HE2 : Hid (xs.take (k + 1) = ys.take (k + 1)) := by
            have e2 : x = x' ∧ y = y' := by simpa using hv
            obtain ⟨rfl, rfl⟩ := e2
            unfold Hid
            rw [List.take_add_one, List.take_add_one, unhide hE, unhide hx, unhide hy]
          clear hx hy hE
          go_wp2
          refine wp_region_abv wr (by kernel_rfl) (by kernel_rfl) (Below.refl _ _) ?_
          repeat (go_big_quiet_step ((first | (go_at_call 68; exact Calls.abv ((eqDrift_any _ _ _ _ _).mono fun _ _ ⟨a, b⟩ => ⟨by rw [a, hv], b⟩)))))
          refine wpQuiet_nil ?_
          intro _ hw'
          obtain ⟨s, hw''⟩ := hw'
          subst hw''
          go_wp2
          go_roundw
          case rel => exact ⟨k + 1, by omega, by go_num, HE2, below_next (unhide hB) s.h⟩
          case measure => simp [intOf]; omega
      · have e : k = n := by omega
        subst e
        have HV : Hid (xs = ys) := by
          have := unhide hE
          rwa [List.take_of_length_le (by have := unhide HLX; omega), List.take_of_length_le (by have := unhide HLY; omega)] at this
        go_wp2
        go_ret
        exact ⟨by simpa using unhide HV, unhide hB⟩
  · have HV : Hid (xs ≠ ys) := by
      intro e
      subst e
      omega
    have ht : ((n : Int) != (m : Int)) = true := by simp; omega
    clear hx hy hlx hly
    go_enter Try.func26, Try.ntmps26
    go_wp2
    go_ret
    exact ⟨by simpa using unhide HV, Below.refl _ _⟩

set_option maxHeartbeats 1000000 in
set_option maxRecDepth 100000 in
theorem markDriftS_any (A : Option Addr) (n c lo : Nat) (xs : List (Int × Int)) (k0 : Int) (w : World) (h : OwnP w lo 64 A n c xs) (hn : n ≤ 2097152) (h0 : 0 ≤ k0) (h1 : k0 ≤ 1000000000000) :
    Calls Try.prog 28 #[.slice A n c, .int .i64 k0] w fun e w' => e = .returned (.int .i64 (k0 + 2 * n)) ∧ OwnP w' lo 64 A n c (marksP k0 n) ∧ w.grownBy w' (Value.slice A n c).ownBlock := by
  have HO := hide h; clear h
  go_enter Try.func28, Try.ntmps28
  go_wp2
  go_loopw [1, 5] (fun q i wr => ∃ k : Nat, k ≤ n ∧ i = .int .i64 k ∧ q = .int .i64 (k0 + 2 * k) ∧ Hid (OwnP wr lo 64 A n c (marksP k0 k ++ xs.drop k)) ∧ Hid (w.grownBy wr (Value.slice A n c).ownBlock)) (fun _ i _ => n - (intOf i).toNat)
  case atStart => exact ⟨0, Nat.zero_le _, rfl, by simp, by simpa [marksP, Hid] using unhide HO, World.grownBy.refl _ _⟩
  case round =>
    obtain ⟨k, hk, rfl, rfl, hO, hG⟩ := hrel
    by_cases hlt : k < n
    · obtain ⟨g, rfl, hlo, hgl, hc0, hc1, hf0, hf1, hO2, hgr⟩ := OwnP.store (unhide hO) hlt (k0 + 2 * k) (k0 + 2 * k + 1)
      rw [markP_step k0 xs n k (by have := (unhide HO).len; exact this) hlt] at hO2
      have HO2 := hide hO2
      have HG2 := hide (grownBy_trans (unhide hG) hgr)
      clear hO2 hgr hO hG
      go_wp2
      go_roundw
      case rel => exact ⟨k + 1, by omega, by go_num, by go_num, HO2, HG2⟩
      case measure => simp [intOf]; omega
    · have e : k = n := by omega
      subst e
      go_wp2
      go_ret
      refine ⟨rfl, ?_, unhide hG⟩
      have := unhide hO
      rwa [List.drop_of_length_le (by have := (unhide HO).len; omega), List.append_nil] at this

set_option maxHeartbeats 1000000 in
set_option maxRecDepth 100000 in
theorem heldDriftS_any (A : Option Addr) (n c L : Nat) (k0 : Int) (w : World) (h : RP w L A n (marksP k0 n)) (hn : n ≤ 2097152) (h0 : 0 ≤ k0) (h1 : k0 ≤ 1000000000000) :
    Calls Try.prog 29 #[.slice A n c, .int .i64 k0] w fun e w' => e = .returned (.int .i64 (k0 + 2 * n)) ∧ w = w' := by
  have HR := hide h; clear h
  go_enter Try.func29, Try.ntmps29
  go_wp2
  go_loop [1, 5] (fun q i => ∃ k : Nat, k ≤ n ∧ i = .int .i64 k ∧ q = .int .i64 (k0 + 2 * k)) (fun _ i => n - (intOf i).toNat)
  case atStart => exact ⟨0, Nat.zero_le _, rfl, by simp⟩
  case round =>
    obtain ⟨k, hk, rfl, rfl⟩ := hrel
    by_cases hlt : k < n
    · obtain ⟨ad, x, y, rfl, _, hx, hc0, hc1⟩ := (unhide HR).get hlt
      have e := unhide hx
      rw [marksP_get _ _ _ hlt] at e
      obtain ⟨rfl, rfl⟩ : k0 + 2 * (k : Int) = x ∧ k0 + 2 * (k : Int) + 1 = y := by
        have := Option.some.inj e
        exact ⟨congrArg Prod.fst this, congrArg Prod.snd this⟩
      clear hx e
      have ht : (k0 + 2 * (k : Int) != k0 + 2 * (k : Int)) = false := by simp
      have ht1 : (k0 + 2 * (k : Int) + 1 != k0 + 2 * (k : Int) + 1) = false := by simp
      go_wp2
      go_round
      case rel => exact ⟨k + 1, by omega, by go_num, by go_num⟩
      case measure => simp [intOf]; omega
    · have e : k = n := by omega
      subst e
      go_wp2
      go_ret
      exact ⟨rfl, rfl⟩

end Go.Proofs.Ytmpgafanlgnpeaa