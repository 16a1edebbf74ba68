/- Chapter 3, the walks: no two stations of a name, no two at a place; lists of stations: the program's. (By gen_dif.py.) -/
import Derived.Test.YtihkocplgciifaaProg
import Derived.Test.YtihkocplgciifaaAre
import Derived.Carry
namespace Go.Proofs.Ytihkocplgciifaa
open Go.RowKit Go.Maps Go.ChangeMaps

theorem allB_false {g : Nat → Bool} {n : Nat} (h : allB g n = false) : ∃ k, k < n ∧ g k = false := by
  induction n with
  | zero => cases h
  | succ n ih =>
    rw [allB, Bool.and_eq_false_iff] at h
    rcases h with h | h
    · obtain ⟨k, hk, e⟩ := ih h
      exact ⟨k, by omega, e⟩
    · exact ⟨n, by omega, h⟩
/-- the keys of the first k stations -/
def keysOf (kf : St → Value) (xs : List St) (k : Nat) : List Value := (xs.take k).map kf
theorem keys_step (kf : St → Value) {xs : List St} {k : Nat} {s : St} (h : xs[k]? = some s) : keysOf kf xs (k + 1) = keysOf kf xs k ++ [kf s] := by
  unfold keysOf
  rw [List.take_add_one, h, List.map_append]; rfl
theorem keys_in (kf : St → Value) {xs : List St} {i k : Nat} (hi : i < k) (hk : k < xs.length) : kf (stAt xs i) ∈ keysOf kf xs k := by
  refine List.mem_map.2 ⟨stAt xs i, List.mem_of_getElem? (i := i) ?_, rfl⟩
  rw [List.getElem?_take, if_pos hi, List.getElem?_eq_getElem (by omega)]
  unfold stAt
  rw [List.getD_eq_getElem?_getD, List.getElem?_eq_getElem (by omega)]; rfl
theorem keys_of (kf : St → Value) {xs : List St} {k : Nat} {v : Value} (h : v ∈ keysOf kf xs k) : ∃ i, i < k ∧ v = kf (stAt xs i) := by
  obtain ⟨s, hs, rfl⟩ := List.mem_map.1 h
  obtain ⟨i, hi, e⟩ := List.getElem_of_mem hs
  have hl := hi
  rw [List.length_take] at hl
  refine ⟨i, by omega, ?_⟩
  rw [List.getElem_take] at e
  unfold stAt
  rw [List.getD_eq_getElem?_getD, List.getElem?_eq_getElem (by omega), ← e]; rfl

theorem laidOut : laidOutB Try.prog = true := by kernel_rfl
theorem zeroBool (w : World) : (zeroValue 4).run Try.prog w = .ok (.bool false) w := by kernel_rfl
theorem keyedS : Keyed Try.prog 9 := string_keyed Try.underlying9
theorem keyedP : Keyed Try.prog 81 := Keyed.of_law (deep_law_laid laidOut (m := 2) (by omega) (of_decide_eq_true (by kernel_rfl)) (by kernel_rfl) (by kernel_rfl))
theorem keyS (s : ByteArray) (h : s.size ≤ 9223372036854775807) : ∃ l, keyOf Try.prog 9 (.string s) = some l := ⟨_, WideMaps.keyOf_string_mk Try.underlying9 (by unfold maxLen; exact h)⟩
theorem keyP (x y : Int) (hx : 0 ≤ x ∧ x ≤ 999) (hy : 0 ≤ y ∧ y ≤ 999) : ∃ l, keyOf Try.prog 81 (.agg #[.int .i64 x, .int .i64 y]) = some l := by
  have k1 : Try.prog.keyType 81 = true := by kernel_rfl
  have c2 : Try.prog.cellsOf 81 = 2 := by kernel_rfl
  have c1 : Try.prog.cellsOf 3 = 1 := by kernel_rfl
  have hf : Value.formed Try.prog 81 (.agg #[.int .i64 x, .int .i64 y]) = true := by simp [Value.formed, Try.underlying81, c2]
  have wx : (Lit.int .i64 x).wf = true := WalkArith.wf_i64 (by omega)
  have wy : (Lit.int .i64 y).wf = true := WalkArith.wf_i64 (by omega)
  obtain ⟨m, hm⟩ : ∃ m, Try.prog.types.size = m + 1 := Nat.exists_eq_succ_of_ne_zero (of_decide_eq_true (by kernel_rfl))
  have hS : (keyOf Try.prog 81 (.agg #[.int .i64 x, .int .i64 y])).isSome = true := by
    unfold keyOf
    rw [Try.underlying81]
    simp only [k1, hf, Bool.and_self, if_true, hm]
    simp [Program.keyLits, Try.underlying81, Try.underlying3, c1, c2, Value.cells, List.range_succ, wx, wy]
  exact Option.isSome_iff_exists.1 hS

theorem nameOf_any (s : St) (w : World) : Calls Try.prog 71 #[.agg #[.int .i64 s.id, .string s.nm, .int .i64 s.x, .int .i64 s.y, .int .i64 s.gn, .int .i64 s.lw, .int .i64 s.hg, .int .i64 s.ut]] w fun e w' => e = .returned (.string s.nm) ∧ Below w.heap.size w w' := by
  go_enter Try.func71, Try.ntmps71
  go_wp2
  go_ret
  exact ⟨rfl, (Below.refl _ _).alloc (Nat.le_refl _) _⟩
theorem placeOf_any (s : St) (w : World) : Calls Try.prog 73 #[.agg #[.int .i64 s.id, .string s.nm, .int .i64 s.x, .int .i64 s.y, .int .i64 s.gn, .int .i64 s.lw, .int .i64 s.hg, .int .i64 s.ut]] w fun e w' => e = .returned (.agg #[.int .i64 s.x, .int .i64 s.y]) ∧ Below w.heap.size w w' := by
  go_enter Try.func73, Try.ntmps73
  go_wp2
  refine bodyPost_ret (v := .agg #[.int .i64 s.x, .int .i64 s.y]) (by simp [results, Try.results73, go_sem]) rfl ⟨rfl, ?_⟩
  repeat (first | exact Below.refl _ _ | refine Below.setCell ?_ (by simp <;> omega) _ | refine Below.alloc ?_ (by simp <;> omega) _)


def nmK (s : St) : Value := .string s.nm
set_option maxHeartbeats 4000000 in
set_option maxRecDepth 100000 in
theorem differ_nm (A : Option Addr) (n c : Nat) (xs : List St) (w : World) (hr : RS w w.heap.size A n xs) (hn : n ≤ 9223372036854775807) (hs : ∀ x ∈ xs, x.nm.size ≤ 9223372036854775807) :
    Calls Try.prog 70 #[.slice A n c, .func (.func 71) #[] #[]] w fun e w' => e = .returned (.bool (nmsB xs n)) ∧ Below w.heap.size w w' := by
  have HR := hide hr
  have HL := hide hr.len
  have HS := hide hs
  have hmm := @run_makeMap Try.prog
  clear hr hs
  go_enter Try.func70, Try.ntmps70
  go_wp2
  go_loopw [11] (fun i wr => ∃ k : Nat, k ≤ n ∧ i = .int .i64 k ∧ Hid (nmsB xs k = true) ∧ Hid (SetM Try.prog 9 wr w.heap.size (keysOf nmK xs k)) ∧ Hid (Below w.heap.size w wr)) (fun i _ => n - (intOf i).toNat)
  case atStart => exact ⟨0, Nat.zero_le _, rfl, rfl, SetM.made _ _ _, (Below.refl _ _).alloc (Nat.le_refl _) _⟩
  case round =>
    obtain ⟨k, hk, rfl, hM, hSet, hB⟩ := hrel
    by_cases hlt : k < n
    · obtain ⟨ad, s, rfl, hbx, hx, hrow⟩ := ((unhide HR).below (unhide hB)).get hlt
      have hbw : (ad.add (k * 8)).block < wr.heap.size := by rw [block_of_add]; exact Nat.lt_of_lt_of_le hbx (unhide hB).size
      have hex := (unhide HS) s (List.mem_of_getElem? (unhide hx))
      obtain ⟨c0, c1, c2, c3, c4, c5, c6, c7⟩ := hrow
      have HB2 : Hid (Below w.heap.size w (wr.alloc (.cells #[.int .i64 s.id, .string s.nm, .int .i64 s.x, .int .i64 s.y, .int .i64 s.gn, .int .i64 s.lw, .int .i64 s.hg, .int .i64 s.ut] 26))) := (unhide hB).alloc (unhide hB).size _
      have HH := hide (Row8.here wr s)
      have HSet2 : Hid (SetM Try.prog 9 (wr.alloc (.cells #[.int .i64 s.id, .string s.nm, .int .i64 s.x, .int .i64 s.y, .int .i64 s.gn, .int .i64 s.lw, .int .i64 s.hg, .int .i64 s.ut] 26)) w.heap.size (keysOf nmK xs k)) := (unhide hSet).below ((Below.refl wr.heap.size wr).alloc (Nat.le_refl _) _) (unhide hSet).lt
      have HKS := hide (keys_step nmK (unhide hx))
      obtain ⟨kl, hkl⟩ := keyS s.nm hex
      have HKL := hide hkl
      clear hkl
      have l1 : (k : Int) < (n : Int) := by omega
      have l2 : (0 : Int) ≤ (k : Int) := by omega
      rcases h1 : allB (fun i => nmB xs i k) k with _ | _
      · have HE : Hid (nmsB xs n = false) := allB_no hlt h1
        have HIn : Hid (.string s.nm ∈ keysOf nmK xs k) := by
          obtain ⟨i, hi, e⟩ := allB_false h1
          have := keys_in nmK hi (show k < xs.length by have := unhide HL; omega)
          unfold nmB at e
          rw [stAt_of (unhide hx)] at e
          simp at e
          unfold nmK at this
          rwa [e] at this
        clear hx hM h1 hSet HKS
        go_wp2_with fail
        refine (nameOf_any s _).mono ?_
        rintro e w1 ⟨rfl, hb⟩
        have HS1 := hide ((unhide HSet2).below hb (unhide HSet2).lt)
        have HRun := hide ((unhide HS1).look_yes keyedS Try.underlying108 (unhide HKL) (unhide HIn))
        have HB3 := hide ((unhide HB2).trans (hb.mono (unhide HB2).size))
        clear hb
        go_wp2_with (at_lookup; refine wpList_lookup_run _ rfl _ _ 108 rfl w.heap.size _ _ rfl rfl (unhide HRun) ?_)
        go_ret
        exact ⟨ret_bool (unhide HE).symm, unhide HB3⟩
      · have HE : Hid (nmsB xs (k + 1) = true) := allB_step (unhide hM) h1
        have HOut : Hid (¬ .string s.nm ∈ keysOf nmK xs k) := by
          intro e
          obtain ⟨i, hi, e⟩ := keys_of nmK e
          have := allB_at h1 i hi
          simp only [nmB] at this
          rw [stAt_of (unhide hx)] at this
          unfold nmK at e
          injection e with e
          simp [e] at this
        clear hx hM h1 hSet
        go_wp2_with fail
        refine (nameOf_any s _).mono ?_
        rintro e w1 ⟨rfl, hb⟩
        have HS1 := hide ((unhide HSet2).below hb (unhide HSet2).lt)
        have HRun := hide ((unhide HS1).look_no keyedS Try.underlying108 zeroBool (unhide HKL) (unhide HOut))
        have HB3 := hide ((unhide HB2).trans (hb.mono (unhide HB2).size))
        obtain ⟨d0, d1, d2, d3, d4, d5, d6, d7⟩ := (unhide HH).below hb (by simp)
        clear hb
        go_wp2_with (at_lookup; refine wpList_lookup_run _ rfl _ _ 108 rfl w.heap.size _ _ rfl rfl (unhide HRun) ?_)
        refine (nameOf_any s _).mono ?_
        rintro e w2 ⟨rfl, hb⟩
        have HS2 := hide ((unhide HS1).below hb (unhide HS1).lt)
        have HB4 := hide ((unhide HB3).trans (hb.mono (unhide HB3).size))
        clear hb
        go_wp2_with (at_mapUpdate; refine wpList_put_true _ rfl _ _ _ 108 rfl 9 4 keyedS Try.underlying108 w.heap.size _ rfl (unhide HS2) _ kl rfl rfl (unhide HKL) (unhide HOut) ?_; intro w3 hS3 hg3)
        have HS3 : Hid (SetM Try.prog 9 w3 w.heap.size (keysOf nmK xs (k + 1))) := by rw [unhide HKS]; exact hS3
        have HB5 := hide ((unhide HB4).grown hg3 (unhide HB4).size (fun g e => by injection e with e; omega))
        clear hS3 hg3
        go_wp2_with fail
        go_roundw
        case rel => exact ⟨k + 1, by omega, by go_num, HE, HS3, HB5⟩
        case measure => simp [intOf]; omega
    · obtain rfl : k = n := by omega
      go_wp2
      go_ret
      exact ⟨ret_bool (unhide hM).symm, unhide hB⟩

def plK (s : St) : Value := .agg #[.int .i64 s.x, .int .i64 s.y]
set_option maxHeartbeats 4000000 in
set_option maxRecDepth 100000 in
theorem differ_pl (A : Option Addr) (n c : Nat) (xs : List St) (w : World) (hr : RS w w.heap.size A n xs) (hn : n ≤ 9223372036854775807) (hs : ∀ x ∈ xs, (0 ≤ x.x ∧ x.x ≤ 999) ∧ (0 ≤ x.y ∧ x.y ≤ 999)) :
    Calls Try.prog 72 #[.slice A n c, .func (.func 73) #[] #[]] w fun e w' => e = .returned (.bool (plsB xs n)) ∧ Below w.heap.size w w' := by
  have HR := hide hr
  have HL := hide hr.len
  have HS := hide hs
  have hmm := @run_makeMap Try.prog
  clear hr hs
  go_enter Try.func72, Try.ntmps72
  go_wp2
  go_loopw [11] (fun i wr => ∃ k : Nat, k ≤ n ∧ i = .int .i64 k ∧ Hid (plsB xs k = true) ∧ Hid (SetM Try.prog 81 wr w.heap.size (keysOf plK xs k)) ∧ Hid (Below w.heap.size w wr)) (fun i _ => n - (intOf i).toNat)
  case atStart => exact ⟨0, Nat.zero_le _, rfl, rfl, SetM.made _ _ _, (Below.refl _ _).alloc (Nat.le_refl _) _⟩
  case round =>
    obtain ⟨k, hk, rfl, hM, hSet, hB⟩ := hrel
    by_cases hlt : k < n
    · obtain ⟨ad, s, rfl, hbx, hx, hrow⟩ := ((unhide HR).below (unhide hB)).get hlt
      have hbw : (ad.add (k * 8)).block < wr.heap.size := by rw [block_of_add]; exact Nat.lt_of_lt_of_le hbx (unhide hB).size
      have hex := (unhide HS) s (List.mem_of_getElem? (unhide hx))
      obtain ⟨c0, c1, c2, c3, c4, c5, c6, c7⟩ := hrow
      have HB2 : Hid (Below w.heap.size w (wr.alloc (.cells #[.int .i64 s.id, .string s.nm, .int .i64 s.x, .int .i64 s.y, .int .i64 s.gn, .int .i64 s.lw, .int .i64 s.hg, .int .i64 s.ut] 26))) := (unhide hB).alloc (unhide hB).size _
      have HH := hide (Row8.here wr s)
      have HSet2 : Hid (SetM Try.prog 81 (wr.alloc (.cells #[.int .i64 s.id, .string s.nm, .int .i64 s.x, .int .i64 s.y, .int .i64 s.gn, .int .i64 s.lw, .int .i64 s.hg, .int .i64 s.ut] 26)) w.heap.size (keysOf plK xs k)) := (unhide hSet).below ((Below.refl wr.heap.size wr).alloc (Nat.le_refl _) _) (unhide hSet).lt
      have HKS := hide (keys_step plK (unhide hx))
      obtain ⟨kl, hkl⟩ := keyP s.x s.y hex.1 hex.2
      have HKL := hide hkl
      clear hkl
      have l1 : (k : Int) < (n : Int) := by omega
      have l2 : (0 : Int) ≤ (k : Int) := by omega
      rcases h1 : allB (fun i => plB xs i k) k with _ | _
      · have HE : Hid (plsB xs n = false) := allB_no hlt h1
        have HIn : Hid (.agg #[.int .i64 s.x, .int .i64 s.y] ∈ keysOf plK xs k) := by
          obtain ⟨i, hi, e⟩ := allB_false h1
          have := keys_in plK hi (show k < xs.length by have := unhide HL; omega)
          unfold plB at e
          rw [stAt_of (unhide hx)] at e
          simp at e
          unfold plK at this
          rwa [e.1, e.2] at this
        clear hx hM h1 hSet HKS
        go_wp2_with fail
        refine (placeOf_any s _).mono ?_
        rintro e w1 ⟨rfl, hb⟩
        have HS1 := hide ((unhide HSet2).below hb (unhide HSet2).lt)
        have HRun := hide ((unhide HS1).look_yes keyedP Try.underlying109 (unhide HKL) (unhide HIn))
        have HB3 := hide ((unhide HB2).trans (hb.mono (unhide HB2).size))
        clear hb
        go_wp2_with (at_lookup; refine wpList_lookup_run _ rfl _ _ 109 rfl w.heap.size _ _ rfl rfl (unhide HRun) ?_)
        go_ret
        exact ⟨ret_bool (unhide HE).symm, unhide HB3⟩
      · have HE : Hid (plsB xs (k + 1) = true) := allB_step (unhide hM) h1
        have HOut : Hid (¬ .agg #[.int .i64 s.x, .int .i64 s.y] ∈ keysOf plK xs k) := by
          intro e
          obtain ⟨i, hi, e⟩ := keys_of plK e
          have := allB_at h1 i hi
          simp only [plB] at this
          rw [stAt_of (unhide hx)] at this
          unfold plK at e
          injection e with e
          simp at e
          simp [e.1, e.2] at this
        clear hx hM h1 hSet
        go_wp2_with fail
        refine (placeOf_any s _).mono ?_
        rintro e w1 ⟨rfl, hb⟩
        have HS1 := hide ((unhide HSet2).below hb (unhide HSet2).lt)
        have HRun := hide ((unhide HS1).look_no keyedP Try.underlying109 zeroBool (unhide HKL) (unhide HOut))
        have HB3 := hide ((unhide HB2).trans (hb.mono (unhide HB2).size))
        obtain ⟨d0, d1, d2, d3, d4, d5, d6, d7⟩ := (unhide HH).below hb (by simp)
        clear hb
        go_wp2_with (at_lookup; refine wpList_lookup_run _ rfl _ _ 109 rfl w.heap.size _ _ rfl rfl (unhide HRun) ?_)
        refine (placeOf_any s _).mono ?_
        rintro e w2 ⟨rfl, hb⟩
        have HS2 := hide ((unhide HS1).below hb (unhide HS1).lt)
        have HB4 := hide ((unhide HB3).trans (hb.mono (unhide HB3).size))
        clear hb
        go_wp2_with (at_mapUpdate; refine wpList_put_true _ rfl _ _ _ 109 rfl 81 4 keyedP Try.underlying109 w.heap.size _ rfl (unhide HS2) _ kl rfl rfl (unhide HKL) (unhide HOut) ?_; intro w3 hS3 hg3)
        have HS3 : Hid (SetM Try.prog 81 w3 w.heap.size (keysOf plK xs (k + 1))) := by rw [unhide HKS]; exact hS3
        have HB5 := hide ((unhide HB4).grown hg3 (unhide HB4).size (fun g e => by injection e with e; omega))
        clear hS3 hg3
        go_wp2_with fail
        go_roundw
        case rel => exact ⟨k + 1, by omega, by go_num, HE, HS3, HB5⟩
        case measure => simp [intOf]; omega
    · obtain rfl : k = n := by omega
      go_wp2
      go_ret
      exact ⟨ret_bool (unhide hM).symm, unhide hB⟩

theorem sts_places {xs : List St} (h : lstB xs = true) : ∀ s ∈ xs, (0 ≤ s.x ∧ s.x ≤ 999) ∧ (0 ≤ s.y ∧ s.y ≤ 999) := by
  intro s hs
  obtain ⟨k, hk, e⟩ := List.getElem_of_mem hs
  unfold lstB at h
  rw [Bool.and_eq_true] at h
  have h1 := allB_at h.1 k hk
  unfold nxB at h1
  rw [Bool.and_eq_true, stAt_of (by rw [List.getElem?_eq_getElem hk, e])] at h1
  obtain ⟨_, _, hx, hy, _⟩ := stB_parts h1.1
  exact ⟨hx, hy⟩
set_option maxHeartbeats 1000000 in
set_option maxRecDepth 100000 in
theorem implAre_any (A : Option Addr) (n c : Nat) (xs : List St) (w : World) (hr : RS w w.heap.size A n xs) (hn : n ≤ 9223372036854775807) (hs : ∀ x ∈ xs, x.nm.size ≤ 9223372036854775807) :
    Calls Try.prog 22 #[.slice A n c] w fun e w' => e = .returned (.bool (stsB xs)) ∧ Below w.heap.size w w' := by
  have H1 := hide (areListed_any A n c xs w hr hn hs)
  have HL := hide hr.len
  have HR := hide hr
  have HS := hide hs
  clear hr hs
  rcases h1 : lstB xs with _ | _
  · have HE : Hid (stsB xs = false) := by unfold Hid stsB; rw [h1]; rfl
    rw [h1] at H1
    go_enter Try.func22, Try.ntmps22
    go_wp2_with fail
    refine (unhide H1).mono ?_
    rintro e w1 ⟨rfl, hb⟩
    have HB1 := hide hb
    clear hb
    go_wp2_with fail
    go_ret
    exact ⟨ret_bool (unhide HE).symm, unhide HB1⟩
  · rw [h1] at H1
    have HPl := hide (sts_places h1)
    rcases h2 : nmsB xs n with _ | _
    · have HE : Hid (stsB xs = false) := by unfold Hid stsB; rw [h1, unhide HL, h2]; rfl
      have H2 := hide (fun (W : World) (hb : Below w.heap.size w W) => differ_nm A n c xs W (((unhide HR).below hb).more hb.size) hn (unhide HS))
      rw [h2] at H2
      go_enter Try.func22, Try.ntmps22
      go_wp2_with fail
      refine (unhide H1).mono ?_
      rintro e w1 ⟨rfl, hb⟩
      have HB1 := hide hb
      clear hb
      go_wp2_with fail
      refine (unhide H2 _ (unhide HB1)).mono ?_
      rintro e w2 ⟨rfl, hb⟩
      have HB2 := hide (below_next (unhide HB1) hb)
      clear hb
      go_wp2_with fail
      go_ret
      exact ⟨ret_bool (unhide HE).symm, unhide HB2⟩
    · have HE : Hid (stsB xs = plsB xs n) := by unfold Hid stsB; rw [h1, unhide HL, h2]; rfl
      have H2 := hide (fun (W : World) (hb : Below w.heap.size w W) => differ_nm A n c xs W (((unhide HR).below hb).more hb.size) hn (unhide HS))
      have H3 := hide (fun (W : World) (hb : Below w.heap.size w W) => differ_pl A n c xs W (((unhide HR).below hb).more hb.size) hn (unhide HPl))
      rw [h2] at H2
      generalize plsB xs n = r at *
      go_enter Try.func22, Try.ntmps22
      go_wp2_with fail
      refine (unhide H1).mono ?_
      rintro e w1 ⟨rfl, hb⟩
      have HB1 := hide hb
      clear hb
      go_wp2_with fail
      refine (unhide H2 _ (unhide HB1)).mono ?_
      rintro e w2 ⟨rfl, hb⟩
      have HB2 := hide (below_next (unhide HB1) hb)
      clear hb
      go_wp2_with fail
      refine (unhide H3 _ (unhide HB2)).mono ?_
      rintro e w3 ⟨rfl, hb⟩
      have HB3 := hide (below_next (unhide HB2) hb)
      clear hb
      go_wp2_with fail
      go_ret
      exact ⟨ret_bool (unhide HE).symm, unhide HB3⟩

end Go.Proofs.Ytihkocplgciifaa
