/- The walks of the laws' helpers on slices of stations: a copy, the size, equality. (By gen_stS.py.) -/
import Derived.Test.YtihkocplgciifaaProg
import Derived.Test.YtihkocplgciifaaAre
import Derived.Test.YtihkocplgciifaaL3g
namespace Go.Proofs.Ytihkocplgciifaa
open Go.RowKit

/-- what is left of a size -/
def RetSz (w : World) (n : Nat) (e : Ending) (w' : World) : Prop := ∃ r : Int, e = .returned (.int .i64 r) ∧ (r = -1 ∨ (0 ≤ r ∧ n ≤ 1048576)) ∧ Below w.heap.size w w'
set_option maxHeartbeats 1000000 in
set_option maxRecDepth 100000 in
theorem szStationS_any (A : Option Addr) (n c : Nat) (xs : List St) (w : World) (hr : RS w w.heap.size A n xs) (hn : n ≤ 9223372036854775807) (hs : ∀ x ∈ xs, x.nm.size ≤ 9223372036854775807) :
    Calls Try.prog 19 #[.slice A n c, .int .i64 1048576] w (RetSz w n) := by
  have HR := hide hr
  have HS := hide hs
  clear hr hs
  by_cases hbig : (1048576 : Int) - n < 0
  · go_enter Try.func19, Try.ntmps19
    go_wp2
    go_ret
    exact ⟨-1, rfl, .inl rfl, Below.refl _ _⟩
  · have hle : n ≤ 1048576 := by omega
    go_enter Try.func19, Try.ntmps19
    go_wp2
    go_loopw [1, 5] (fun q i wr => ∃ (k : Nat) (left : Int), k ≤ n ∧ i = .int .i64 k ∧ q = .int .i64 left ∧ 0 ≤ left ∧ left ≤ 1048576 ∧ Hid (Below w.heap.size w wr)) (fun _ i _ => n - (intOf i).toNat)
    case atStart => exact ⟨0, _, Nat.zero_le _, rfl, rfl, by omega, by omega, Below.refl _ _⟩
    case round =>
      obtain ⟨k, left, hk, rfl, rfl, h0, h1, hB⟩ := hrel
      by_cases hlt : k < n
      · obtain ⟨ad, s, rfl, hbx, hx, hrow⟩ := ((unhide HR).below (unhide hB)).get hlt
        obtain ⟨c0, c1, c2, c3, c4, c5, c6, c7⟩ := hrow
        have HZ := hide (fun W => szStation_any s.id s.nm s.x s.y s.gn s.lw s.hg s.ut left W h0 h1 (mem_size (unhide HS) (unhide hx)))
        have HI : Hid (szI left s.nm.size = -1 ∨ (0 ≤ szI left s.nm.size ∧ szI left s.nm.size ≤ 1048576)) := by unfold Hid szI; split <;> omega
        have l1 : (k : Int) < (n : Int) := by omega
        have l2 : (0 : Int) ≤ (k : Int) := by omega
        generalize szI left s.nm.size = r at HZ HI
        clear hx
        rcases unhide HI with hr | ⟨hr0, hr1⟩
        · subst hr
          go_wp2_with fail
          refine (unhide HZ _).mono ?_
          rintro e w1 ⟨rfl, hb⟩
          have HB1 := hide (below_next (unhide hB) hb)
          clear hb
          go_wp2_with fail
          go_ret
          exact ⟨-1, rfl, .inl rfl, unhide HB1⟩
        · clear HI
          go_wp2_with fail
          refine (unhide HZ _).mono ?_
          rintro e w1 ⟨rfl, hb⟩
          have HB1 := hide (below_next (unhide hB) hb)
          clear hb
          go_wp2_with fail
          go_roundw
          case rel => exact ⟨k + 1, r, by omega, by go_num, rfl, hr0, hr1, unhide HB1⟩
          case measure => simp [intOf]; omega
      · go_wp2_with fail
        go_ret
        exact ⟨left, rfl, .inr ⟨h0, hle⟩, unhide hB⟩

theorem info_Station : (Try.prog.info? 26).map (fun i => (i.zero, i.size, i.bytes)) = some (some (.agg #[.int .i64 0, .string ByteArray.empty, .int .i64 0, .int .i64 0, .int .i64 0, .int .i64 0, .int .i64 0, .int .i64 0]), 8, 72) := by kernel_rfl
theorem made_sts (n : Nat) : (madeCells #[Value.int .i64 0, .string ByteArray.empty, .int .i64 0, .int .i64 0, .int .i64 0, .int .i64 0, .int .i64 0, .int .i64 0] (n * 8)).toList = cS (List.replicate n zSt) := by
  apply List.ext_getElem?
  intro j
  have ej : j = j / 8 * 8 + j % 8 := by omega
  by_cases hj : j < n * 8
  · rw [show (cS (List.replicate n zSt))[j]? = (cS (List.replicate n zSt))[j / 8 * 8 + j % 8]? by rw [← ej], cS_get _ _ _ (Nat.mod_lt _ (by omega))]
    have h8 : j / 8 < n := by omega
    simp only [madeCells, Array.getElem?_toList, Array.getElem?_map, Array.getElem?_range, hj, if_true, Option.map_some, List.getElem?_replicate, h8, Option.bind_some]
    have hm : j % 8 < 8 := Nat.mod_lt _ (by omega)
    generalize j % 8 = m at hm
    rcases (show m = 0 ∨ m = 1 ∨ m = 2 ∨ m = 3 ∨ m = 4 ∨ m = 5 ∨ m = 6 ∨ m = 7 by omega) with rfl | rfl | rfl | rfl | rfl | rfl | rfl | rfl <;> rfl
  · rw [List.getElem?_eq_none (by simp [madeCells]; omega), List.getElem?_eq_none (by rw [cS_length, List.length_replicate]; omega)]
theorem toSt_any (s : St) (w : World) : Calls Try.prog 17 #[.agg #[.int .i64 s.id, .string s.nm, .int .i64 s.x, .int .i64 s.y, .int .i64 s.gn, .int .i64 s.lw, .int .i64 s.hg, .int .i64 s.ut]] w fun e w' => e = .returned (.agg #[.int .i64 s.id, .string s.nm, .int .i64 s.x, .int .i64 s.y, .int .i64 s.gn, .int .i64 s.lw, .int .i64 s.hg, .int .i64 s.ut]) ∧ Below w.heap.size w w' := toStation_any _ _ _ _ _ _ _ _ w
/-- Fresh stations come back; what was there stays. -/
def RetS (w : World) (ys : List St) (e : Ending) (w' : World) : Prop := ∃ A n c, e = .returned (.slice A n c) ∧ OwnS w' w.heap.size A n c ys ∧ Below w.heap.size w w'
theorem copyS_step (xs : List St) (n k : Nat) (hl : xs.length = n) (hk : k < n) {s : St} (hx : xs[k]? = some s) : (xs.take k ++ (List.replicate n zSt).drop k).set k s = xs.take (k + 1) ++ (List.replicate n zSt).drop (k + 1) := by
  have l1 : (xs.take k).length = k := by rw [List.length_take]; omega
  rw [List.set_append_right _ _ (by omega), l1, Nat.sub_self, List.take_add_one, hx, List.drop_eq_getElem_cons (by simp; omega)]
  simp
theorem put8_below {w0 w : World} {B g k : Nat} (s : St) (h : Below B w0 w) (hg : B ≤ g) : Below B w0 (put8 w g k s) :=
  (((((((h.setCell (p := ⟨g, k * 8, none⟩) hg _).setCell (p := ⟨g, k * 8 + 1, none⟩) hg _).setCell (p := ⟨g, k * 8 + 2, none⟩) hg _).setCell (p := ⟨g, k * 8 + 3, none⟩) hg _).setCell (p := ⟨g, k * 8 + 4, none⟩) hg _).setCell (p := ⟨g, k * 8 + 5, none⟩) hg _).setCell (p := ⟨g, k * 8 + 6, none⟩) hg _).setCell (p := ⟨g, k * 8 + 7, none⟩) hg _

set_option maxHeartbeats 1000000 in
set_option maxRecDepth 100000 in
theorem toStationS_any (A : Option Addr) (n c : Nat) (xs : List St) (w : World) (hr : RS w w.heap.size A n xs) (hn : n ≤ 1048576) :
    Calls Try.prog 21 #[.slice A n c] w (RetS w xs) := by
  obtain ⟨i0, hi, hz0, hz1, hz2⟩ := info_parts info_Station
  have HR := hide hr; clear hr
  go_enter Try.func21, Try.ntmps21
  go_wp2_with (at_make; refine wpList_make_full _ rfl _ _ 32 rfl w.heap.size 26 i0 (.agg #[.int .i64 0, .string ByteArray.empty, .int .i64 0, .int .i64 0, .int .i64 0, .int .i64 0, .int .i64 0, .int .i64 0]) 8 Try.underlying32 hi hz0 hz1 _ _ _ _ n rfl rfl rfl rfl (by rw [hz2]; omega) (by unfold maxLen; omega) (Nat.le_refl _) ?_)
  intro w1 hown hg
  have HO := hide hown; have HG := hide hg; clear hown hg
  go_wp2
  go_loopw [4] (fun i wr => ∃ k : Nat, k ≤ n ∧ i = .int .i64 k ∧ Hid (OwnS wr w.heap.size (some ⟨w.heap.size, 0, none⟩) n n (xs.take k ++ (List.replicate n zSt).drop k)) ∧ Hid (Below w.heap.size w wr)) (fun i _ => n - (intOf i).toNat)
  case atStart =>
    refine ⟨0, Nat.zero_le _, rfl, ?_, hide ((Below.refl _ _).grown (unhide HG) (Nat.le_refl _) (by simp))⟩
    have := unhide HO
    unfold OwnS Hid
    rw [made_sts] at this
    simpa using this
  case round =>
    obtain ⟨k, hk, rfl, hO, hB⟩ := hrel
    by_cases hlt : k < n
    · obtain ⟨ad, s, rfl, hb, hx, c0, c1, c2, c3, c4, c5, c6, c7⟩ := ((unhide HR).below (unhide hB)).get hlt
      go_wp2_with fail
      refine (toSt_any s _).mono ?_
      rintro e w2 ⟨rfl, hb2⟩
      have hO2 := (unhide hO).below hb2 (Nat.le_refl _)
      have hB2 := below_next (unhide hB) hb2
      obtain ⟨g, hg, hlo, hgl, ⟨d0, d1, d2, d3, d4, d5, d6, d7⟩, hf, hO3, hgr⟩ := hO2.store hlt s
      obtain rfl : w.heap.size = g := by simpa using hg
      rw [copyS_step xs n k (unhide HR).len hlt (unhide hx)] at hO3
      have HO3 := hide hO3
      have HB3 := hide (put8_below (k := k) s hB2 (Nat.le_refl w.heap.size))
      have f0 := hf (k * 8)
      have f1 := hf (k * 8 + 1)
      have f2 := hf (k * 8 + 2)
      have f3 := hf (k * 8 + 3)
      have f4 := hf (k * 8 + 4)
      have f5 := hf (k * 8 + 5)
      have f6 := hf (k * 8 + 6)
      have f7 := hf (k * 8 + 7)
      clear hO3 hgr hg hO2 hB2 hb2 hx hO hB hf
      go_wp2
      go_roundw
      case rel => exact ⟨k + 1, by omega, by go_num, HO3, HB3⟩
      case measure => simp [intOf]; omega
    · go_wp2
      go_ret
      have e : k = n := by omega
      subst e
      have e2 : xs.take k ++ (List.replicate k zSt).drop k = xs := by
        rw [List.take_of_length_le (by rw [(unhide HR).len]; exact Nat.le_refl _)]
        simp
      rw [e2] at hO
      exact ⟨_, _, _, rfl, unhide hO, unhide hB⟩

set_option maxHeartbeats 2000000 in
set_option maxRecDepth 100000 in
theorem eqStation_any (s t : St) (w : World) :
    Calls Try.prog 74 #[.agg #[.int .i64 s.id, .string s.nm, .int .i64 s.x, .int .i64 s.y, .int .i64 s.gn, .int .i64 s.lw, .int .i64 s.hg, .int .i64 s.ut], .agg #[.int .i64 t.id, .string t.nm, .int .i64 t.x, .int .i64 t.y, .int .i64 t.gn, .int .i64 t.lw, .int .i64 t.hg, .int .i64 t.ut]] w fun e w' => e = .returned (.bool (decide (s = t))) ∧ Below w.heap.size w w' := by
  have B0 : Hid (Below w.heap.size w ((w.alloc (.cells #[.int .i64 s.id, .string s.nm, .int .i64 s.x, .int .i64 s.y, .int .i64 s.gn, .int .i64 s.lw, .int .i64 s.hg, .int .i64 s.ut] 26)).alloc (.cells #[.int .i64 t.id, .string t.nm, .int .i64 t.x, .int .i64 t.y, .int .i64 t.gn, .int .i64 t.lw, .int .i64 t.hg, .int .i64 t.ut] 26))) := ((Below.refl _ _).alloc (Nat.le_refl _) _).alloc (by simp) _
  by_cases h0 : s.id = t.id
  rotate_left
  · have er : Hid (decide (s = t) = false) := decide_eq_false (fun e => h0 (by rw [e]))
    have e0 : (s.id != t.id) = true := by simpa using h0
    clear h0
    go_enter Try.func74, Try.ntmps74
    go_wp2
    go_ret
    exact ⟨ret_bool (unhide er).symm, unhide B0⟩
  have e0 : (s.id != t.id) = false := by simp [h0]
  have H0 := hide h0
  clear h0
  by_cases h1 : s.nm = t.nm
  rotate_left
  · have er : Hid (decide (s = t) = false) := decide_eq_false (fun e => h1 (by rw [e]))
    have e1 : (s.nm.toList == t.nm.toList) = false := by rw [str_eq]; exact decide_eq_false h1
    have g1 : (s.nm.toList != t.nm.toList) = true := by unfold bne; rw [e1]; rfl
    clear h1
    go_enter Try.func74, Try.ntmps74
    go_wp2
    go_ret
    exact ⟨ret_bool (unhide er).symm, unhide B0⟩
  have e1 : (s.nm.toList == t.nm.toList) = true := by rw [str_eq]; exact decide_eq_true h1
  have g1 : (s.nm.toList != t.nm.toList) = false := by unfold bne; rw [e1]; rfl
  have H1 := hide h1
  clear h1
  by_cases h2 : s.x = t.x
  rotate_left
  · have er : Hid (decide (s = t) = false) := decide_eq_false (fun e => h2 (by rw [e]))
    have e2 : (s.x != t.x) = true := by simpa using h2
    clear h2
    go_enter Try.func74, Try.ntmps74
    go_wp2
    go_ret
    exact ⟨ret_bool (unhide er).symm, unhide B0⟩
  have e2 : (s.x != t.x) = false := by simp [h2]
  have H2 := hide h2
  clear h2
  by_cases h3 : s.y = t.y
  rotate_left
  · have er : Hid (decide (s = t) = false) := decide_eq_false (fun e => h3 (by rw [e]))
    have e3 : (s.y != t.y) = true := by simpa using h3
    clear h3
    go_enter Try.func74, Try.ntmps74
    go_wp2
    go_ret
    exact ⟨ret_bool (unhide er).symm, unhide B0⟩
  have e3 : (s.y != t.y) = false := by simp [h3]
  have H3 := hide h3
  clear h3
  by_cases h4 : s.gn = t.gn
  rotate_left
  · have er : Hid (decide (s = t) = false) := decide_eq_false (fun e => h4 (by rw [e]))
    have e4 : (s.gn != t.gn) = true := by simpa using h4
    clear h4
    go_enter Try.func74, Try.ntmps74
    go_wp2
    go_ret
    exact ⟨ret_bool (unhide er).symm, unhide B0⟩
  have e4 : (s.gn != t.gn) = false := by simp [h4]
  have H4 := hide h4
  clear h4
  by_cases h5 : s.lw = t.lw
  rotate_left
  · have er : Hid (decide (s = t) = false) := decide_eq_false (fun e => h5 (by rw [e]))
    have e5 : (s.lw != t.lw) = true := by simpa using h5
    clear h5
    go_enter Try.func74, Try.ntmps74
    go_wp2
    go_ret
    exact ⟨ret_bool (unhide er).symm, unhide B0⟩
  have e5 : (s.lw != t.lw) = false := by simp [h5]
  have H5 := hide h5
  clear h5
  by_cases h6 : s.hg = t.hg
  rotate_left
  · have er : Hid (decide (s = t) = false) := decide_eq_false (fun e => h6 (by rw [e]))
    have e6 : (s.hg != t.hg) = true := by simpa using h6
    clear h6
    go_enter Try.func74, Try.ntmps74
    go_wp2
    go_ret
    exact ⟨ret_bool (unhide er).symm, unhide B0⟩
  have e6 : (s.hg != t.hg) = false := by simp [h6]
  have H6 := hide h6
  clear h6
  by_cases h7 : s.ut = t.ut
  rotate_left
  · have er : Hid (decide (s = t) = false) := decide_eq_false (fun e => h7 (by rw [e]))
    have e7 : (s.ut != t.ut) = true := by simpa using h7
    clear h7
    go_enter Try.func74, Try.ntmps74
    go_wp2
    go_ret
    exact ⟨ret_bool (unhide er).symm, unhide B0⟩
  have e7 : (s.ut != t.ut) = false := by simp [h7]
  have H7 := hide h7
  clear h7
  have er : Hid (decide (s = t) = true) := decide_eq_true (by cases s; cases t; simp only [St.mk.injEq]; exact ⟨unhide H0, unhide H1, unhide H2, unhide H3, unhide H4, unhide H5, unhide H6, unhide H7⟩)
  go_enter Try.func74, Try.ntmps74
  go_wp2
  go_ret
  exact ⟨ret_bool (unhide er).symm, unhide B0⟩

set_option maxHeartbeats 2000000 in
set_option maxRecDepth 100000 in
theorem eqStationS_any (A B : Option Addr) (n m c d L M : Nat) (xs ys : List St) (w : World) (hx : RS w L A n xs) (hy : RS w M B m ys) (hn : n ≤ 9223372036854775807) (hm : m ≤ 9223372036854775807) (hL : L ≤ w.heap.size) (hM : M ≤ w.heap.size) :
    Calls Try.prog 23 #[.slice A n c, .slice B m d] w fun e w' => e = .returned (.bool (xs == ys)) ∧ Below w.heap.size w w' := by
  have hlx := hx.len
  have hly := hy.len
  by_cases hnm : n = m
  · subst hnm
    have HX := hide (hx.more hL); have HY := hide (hy.more hM); have HLX := hide hlx; have HLY := hide hly; clear hx hy hlx hly
    go_enter Try.func23, Try.ntmps23
    go_wp2
    go_loopw [5] (fun i wr => ∃ k : Nat, k ≤ n ∧ i = .int .i64 k ∧ Hid (xs.take k = ys.take k) ∧ Hid (Below w.heap.size w wr)) (fun i _ => n - (intOf i).toNat)
    case atStart => exact ⟨0, Nat.zero_le _, rfl, rfl, Below.refl _ _⟩
    case round =>
      obtain ⟨k, hk, rfl, hE, hB⟩ := hrel
      by_cases hlt : k < n
      · obtain ⟨ad, s, rfl, hbx, hx, hrow⟩ := ((unhide HX).below (unhide hB)).get hlt
        obtain ⟨ae, t, rfl, hby, hy, hrow2⟩ := ((unhide HY).below (unhide hB)).get hlt
        have hb1 : (ad.add (k * 8)).block < wr.heap.size := by rw [block_of_add]; exact Nat.lt_of_lt_of_le hbx (unhide hB).size
        have hb2 : (ae.add (k * 8)).block < wr.heap.size := by rw [block_of_add]; exact Nat.lt_of_lt_of_le hby (unhide hB).size
        have HP := hide (fun z : Abv wr => hrow.abv hb1 z)
        have HQ := hide (fun z : Abv wr => hrow2.abv hb2 z)
        have l1 : (k : Int) < (n : Int) := by omega
        have l2 : (0 : Int) ≤ (k : Int) := by omega
        have HC := hide (fun W => eqStation_any s t W)
        clear hrow hrow2 hb1 hb2
        rcases hv : decide (s = t) with _ | _
        · have HV : Hid (xs ≠ ys) := by
            intro e
            subst e
            have e2 := (unhide hx).symm.trans (unhide hy)
            injection e2 with e2
            exact of_decide_eq_false hv e2
          rw [hv] at HC
          clear hx hy hE hv
          go_wp2_with fail
          have pp := unhide HP
          have qq := unhide HQ
          have p0 := fun z : Abv wr => (pp z).c0
          have p1 := fun z : Abv wr => (pp z).c1
          have p2 := fun z : Abv wr => (pp z).c2
          have p3 := fun z : Abv wr => (pp z).c3
          have p4 := fun z : Abv wr => (pp z).c4
          have p5 := fun z : Abv wr => (pp z).c5
          have p6 := fun z : Abv wr => (pp z).c6
          have p7 := fun z : Abv wr => (pp z).c7
          have q0 := fun z : Abv wr => (qq z).c0
          have q1 := fun z : Abv wr => (qq z).c1
          have q2 := fun z : Abv wr => (qq z).c2
          have q3 := fun z : Abv wr => (qq z).c3
          have q4 := fun z : Abv wr => (qq z).c4
          have q5 := fun z : Abv wr => (qq z).c5
          have q6 := fun z : Abv wr => (qq z).c6
          have q7 := fun z : Abv wr => (qq z).c7
          clear pp qq
          refine wp_region_abv wr (by kernel_rfl) (by kernel_rfl) (Below.refl _ _) ?_
          repeat (go_big_quiet_step ((first | (go_at_call 74; exact Calls.abv (unhide HC _)))))
          refine wpQuiet_nil ?_
          intro _ hw'
          obtain ⟨sv, hw''⟩ := hw'
          subst hw''
          go_wp2_with fail
          go_ret
          exact ⟨ret_bool (by symm; simpa using unhide HV), below_next (unhide hB) sv.h⟩
        · have HE2 : Hid (xs.take (k + 1) = ys.take (k + 1)) := by
            have e2 := of_decide_eq_true hv
            unfold Hid
            rw [List.take_add_one, List.take_add_one, unhide hE, unhide hx, unhide hy, e2]
          rw [hv] at HC
          clear hx hy hE hv
          go_wp2_with fail
          have pp := unhide HP
          have qq := unhide HQ
          have p0 := fun z : Abv wr => (pp z).c0
          have p1 := fun z : Abv wr => (pp z).c1
          have p2 := fun z : Abv wr => (pp z).c2
          have p3 := fun z : Abv wr => (pp z).c3
          have p4 := fun z : Abv wr => (pp z).c4
          have p5 := fun z : Abv wr => (pp z).c5
          have p6 := fun z : Abv wr => (pp z).c6
          have p7 := fun z : Abv wr => (pp z).c7
          have q0 := fun z : Abv wr => (qq z).c0
          have q1 := fun z : Abv wr => (qq z).c1
          have q2 := fun z : Abv wr => (qq z).c2
          have q3 := fun z : Abv wr => (qq z).c3
          have q4 := fun z : Abv wr => (qq z).c4
          have q5 := fun z : Abv wr => (qq z).c5
          have q6 := fun z : Abv wr => (qq z).c6
          have q7 := fun z : Abv wr => (qq z).c7
          clear pp qq
          refine wp_region_abv wr (by kernel_rfl) (by kernel_rfl) (Below.refl _ _) ?_
          repeat (go_big_quiet_step ((first | (go_at_call 74; exact Calls.abv (unhide HC _)))))
          refine wpQuiet_nil ?_
          intro _ hw'
          obtain ⟨sv, hw''⟩ := hw'
          subst hw''
          go_wp2_with fail
          go_roundw
          case rel => exact ⟨k + 1, by omega, by go_num, HE2, below_next (unhide hB) sv.h⟩
          case measure => simp [intOf]; omega
      · have e : k = n := by omega
        subst e
        have HV : Hid (xs = ys) := by
          have := unhide hE
          rwa [List.take_of_length_le (by have := unhide HLX; omega), List.take_of_length_le (by have := unhide HLY; omega)] at this
        go_wp2
        go_ret
        exact ⟨ret_bool (by symm; simpa using unhide HV), unhide hB⟩
  · have HV : Hid (xs ≠ ys) := by
      intro e
      subst e
      omega
    have ht : ((n : Int) != (m : Int)) = true := by simp; omega
    clear hx hy hlx hly
    go_enter Try.func23, Try.ntmps23
    go_wp2
    go_ret
    exact ⟨ret_bool (by symm; simpa using unhide HV), Below.refl _ _⟩
end Go.Proofs.Ytihkocplgciifaa
