/- Chapter 2, the walks: a trace read from its text: the program's. -/
import Derived.Test.YtdpmpdhhjmbbcaaGreatDoorProg
import Derived.Test.YtdpmpdhhjmbbcaaGreatDoorNumIn
import Derived.Test.YtdpmpdhhjmbbcaaGreatDoorRetTr
import Derived.Test.YtdpmpdhhjmbbcaaGreatDoorWhole
import Derived.Deep.DeepCutAuto
import Derived.Deep.RegionHeld3
import Derived.Deep.RegionLaw
namespace Go.Proofs.YtdpmpdhhjmbbcaaGreatDoor
open Go.RowKit

theorem RT.two (w : World) (x y : ByteArray) : RT (w.alloc (.cells #[.string x, .string y] 9)) (w.alloc (.cells #[.string x, .string y] 9)).heap.size (some ⟨w.heap.size, 0, none⟩) 2 [x, y] := by
  refine ⟨rfl, fun _ => ⟨_, rfl, by simp, fun j u hu => ?_⟩⟩
  have e : (⟨w.heap.size, 0, none⟩ : Addr).add j = ⟨w.heap.size, j, none⟩ := by simp [Addr.add]; omega
  rw [e, (Whl.here w 9 _).cell j]
  simpa [cT] using hu
theorem trace_no_int : 26 ≠ 3 := by decide

/-- the two orders in which a trace of no samples is made -/
theorem box_a (w : World) (n0 n1 : Int) : Whl ((w.alloc (.cells #[] 3)).alloc (.cells #[.int .i64 n0, .int .i64 n1, .slice (some ⟨w.heap.size, 0, none⟩) 0 0] 26)).drew (w.heap.size + 1) 26 #[.int .i64 n0, .int .i64 n1, .slice (some ⟨w.heap.size, 0, none⟩) 0 0] ∧
    OwnI ((w.alloc (.cells #[] 3)).alloc (.cells #[.int .i64 n0, .int .i64 n1, .slice (some ⟨w.heap.size, 0, none⟩) 0 0] 26)).drew w.heap.size (some ⟨w.heap.size, 0, none⟩) 0 0 [] ∧
    Below w.heap.size w ((w.alloc (.cells #[] 3)).alloc (.cells #[.int .i64 n0, .int .i64 n1, .slice (some ⟨w.heap.size, 0, none⟩) 0 0] 26)).drew :=
  ⟨Whl.drew (Whl.here' (w.alloc (.cells #[] 3)) _ _ (by simp)), (OwnI.empty w (Nat.le_refl _)).alloc _, (((Below.refl _ w).alloc (Nat.le_refl _) _).alloc (by simp) _).drew⟩
theorem box_b (w : World) (n0 n1 : Int) : Whl ((w.alloc (.cells #[.int .i64 n0, .int .i64 n1, .slice (some ⟨w.heap.size + 1, 0, none⟩) 0 0] 26)).alloc (.cells #[] 3)).drew w.heap.size 26 #[.int .i64 n0, .int .i64 n1, .slice (some ⟨w.heap.size + 1, 0, none⟩) 0 0] ∧
    OwnI ((w.alloc (.cells #[.int .i64 n0, .int .i64 n1, .slice (some ⟨w.heap.size + 1, 0, none⟩) 0 0] 26)).alloc (.cells #[] 3)).drew w.heap.size (some ⟨w.heap.size + 1, 0, none⟩) 0 0 [] ∧
    Below w.heap.size w ((w.alloc (.cells #[.int .i64 n0, .int .i64 n1, .slice (some ⟨w.heap.size + 1, 0, none⟩) 0 0] 26)).alloc (.cells #[] 3)).drew := by
  have e : w.heap.size + 1 = (w.alloc (.cells #[.int .i64 n0, .int .i64 n1, .slice (some ⟨w.heap.size + 1, 0, none⟩) 0 0] 26)).heap.size := by simp
  refine ⟨Whl.drew ((Whl.here w _ _).alloc _), ?_, (((Below.refl _ w).alloc (Nat.le_refl _) _).alloc (by simp) _).drew⟩
  have h := OwnI.empty (lo := w.heap.size) (w.alloc (.cells #[.int .i64 n0, .int .i64 n1, .slice (some ⟨w.heap.size + 1, 0, none⟩) 0 0] 26)) (by simp)
  rw [← e] at h
  exact h
theorem RT.tail1 {w : World} {B g m : Nat} {ys : List ByteArray} (h : RT w B (some ⟨g, 0, none⟩) m ys) (h1 : 1 ≤ m) : RT w B (some ⟨g, 1, none⟩) (m - 1) ys.tail := by
  refine ⟨?_, fun _ => ?_⟩
  · have := h.len
    rw [cT_length, List.length_tail]
    omega
  · obtain ⟨ad, e, hb, hc⟩ := h.2 (by omega)
    injection e with e
    subst e
    refine ⟨_, rfl, hb, fun j u hu => ?_⟩
    have e2 : (⟨g, 1, none⟩ : Addr).add j = (⟨g, 0, none⟩ : Addr).add (j + 1) := by
      unfold Addr.add
      by_cases hj : j = 0
      · subst hj; simp
      · simp [hj]; omega
    rw [e2]
    refine hc (j + 1) u ?_
    rw [cT_get] at hu ⊢
    rw [← hu, List.getElem?_tail]
theorem prR_case {s : ByteArray} {n0 n1 : Int} {ys : List Int} (h : ipR s = (n0, n1, ys)) : prR s = if (goodB n0 n1 ys && decide (txtN n0 n1 ys ys.length = s)) = true then (n0, n1, ys, true) else (0, 0, [], false) := by
  unfold prR
  rw [h]
theorem undrw {w w1 : World} (h : Below w.drew.heap.size w.drew w1) : Below w.heap.size w w1 := ⟨h.os, h.tape, h.output, h.size, h.block⟩

set_option maxHeartbeats 4000000 in
set_option maxRecDepth 100000 in
theorem implParse_any (s : ByteArray) (w : World) (hs : s.size ≤ 1048576) (he : EnvP w) :
    Calls Tryz.prog 7 #[.string s] w (RetTB w (prR s).1 (prR s).2.1 (prR s).2.2.1 (prR s).2.2.2) := by
  have HE := hide (fun (W : World) (hb : Below w.heap.size w W) => he.stays hb)
  have Z0 := hide (Whl.here w 26 #[.int .i64 0, .int .i64 0, .slice none 0 0])
  have HB0 := hide ((Below.refl w.heap.size w).alloc (Nat.le_refl _) (.cells #[.int .i64 0, .int .i64 0, .slice none 0 0] 26))
  have HIP : Hid (ipR s = (atZ (cutF 64 (cutF 58 s)), atZ (cutG 64 (cutF 58 s)), if s.size ≤ 400 then ((splitA 32 (cutG 58 s)).tail).map atZ else [])) := rfl
  have z1 := cutF_size 58 s
  have z2 := cutG_size 58 s
  have z3 := cutF_size 64 (cutF 58 s)
  have z4 := cutG_size 64 (cutF 58 s)
  have HC1 := hide (Cut_any 58 s (w.alloc (.cells #[.int .i64 0, .int .i64 0, .slice none 0 0] 26)) hs (unhide HE _ (unhide HB0)).ml)
  have HC2 := hide (fun (W : World) (hb : Below w.heap.size w W) => Cut_any 64 (cutF 58 s) W (by omega) (unhide HE W hb).ml)
  have HC3 := hide (fun (W : World) (hb : Below w.heap.size w W) => Split_any (cutG 58 s) 32 W (by omega) (unhide HE W hb).ml)
  have HW1 := hide (splitA_sizes 32 (cutG 58 s))
  have HW2 := hide (splitA_len 32 (cutG 58 s))
  have HW3 := hide (splitA_pos 32 (cutG 58 s))
  clear he
  generalize splitA 32 (cutG 58 s) = ws at *
  generalize cutG 58 s = rest at *
  generalize cutH 58 s = ok1 at *
  generalize cutF 58 s = head at *
  generalize cutF 64 head = sx at *
  generalize cutG 64 head = sy at *
  generalize cutH 64 head = ok2 at *
  have HSZ : Hid (∀ x ∈ [sx, sy], x.size ≤ 1048576) := by
    intro x hx
    rcases List.mem_cons.1 hx with rfl | hx
    · omega
    · rw [List.mem_singleton.1 hx]
      omega
  go_enter Tryz.func7, Tryz.ntmps7
  go_wp2_with fail
  refine (unhide HC1).mono ?_
  rintro e w1 ⟨rfl, hb⟩
  have HB1 := hide (below_next (unhide HB0) hb)
  have Z1 := hide ((unhide Z0).below hb)
  clear hb Z0 HC1 HB0
  go_wp2_with fail
  refine (unhide HC2 _ (unhide HB1)).mono ?_
  rintro e w2 ⟨rfl, hb⟩
  have HB2 := hide (below_next (unhide HB1) hb)
  have Z2 := hide ((unhide Z1).below hb)
  clear hb Z1 HB1 HC2
  go_wp2_with fail
  have HBA := hide ((unhide HB2).alloc (unhide HB2).size (.cells #[.string sx, .string sy] 9))
  have ZA := hide ((unhide Z2).alloc (.cells #[.string sx, .string sy] 9))
  refine (numbersIn_any (some ⟨w2.heap.size, 0, none⟩) 2 2 [sx, sy] _ (RT.two w2 sx sy) (by omega) (unhide HSZ) (unhide HE _ (unhide HBA))).mono ?_
  rintro e w3 ⟨A, n, c, rfl, hO, hb⟩
  have HB3 := hide (below_next (unhide HBA) hb)
  have Z3 := hide ((unhide ZA).below hb)
  obtain rfl : n = 2 := by have := hO.len; simpa using this.symm
  obtain ⟨g1, rfl, hlo, hlt, hcap⟩ := hO.form (by omega)
  have hk0 : w3.cell? ⟨g1, 0, none⟩ = some (.int .i64 (atZ sx)) := by have := World.ownsRow.cellAt hO 0 (by omega); simpa [cI] using this
  have hk1 : w3.cell? ⟨g1, 1, none⟩ = some (.int .i64 (atZ sy)) := by have := World.ownsRow.cellAt hO 1 (by omega); simpa [cI] using this
  clear hb hO HBA ZA Z2 HB2
  generalize atZ sx = n0 at *
  generalize atZ sy = n1 at *
  go_wp2_with fail
  go_cut [11] (fun v wx => ∃ (g c' : Nat) (A' : Option Addr), v = .pointer (some ⟨g, 0, none⟩) ∧ Hid (w3.heap.size ≤ g) ∧ Hid (Whl wx g 26 #[.int .i64 n0, .int .i64 n1, .slice A' 0 c']) ∧ Hid (OwnI wx w3.heap.size A' 0 c' []) ∧ Hid (Below w3.heap.size w3 wx))
  case first =>
    go_region_held3 (fun w' => w'.cell? ⟨g1, 0, none⟩ = some (.int .i64 n0) ∧ w'.cell? ⟨g1, 1, none⟩ = some (.int .i64 n1))
      (go_keep) (fail)
    all_goals
      go_wp2_with fail
      go_meet
    all_goals
      first
        | exact ⟨_, 0, _, rfl, Nat.le_succ _, (box_a w3 n0 n1).1, (box_a w3 n0 n1).2.1, (box_a w3 n0 n1).2.2⟩
        | exact ⟨_, 0, _, rfl, Nat.le_refl _, (box_b w3 n0 n1).1, (box_b w3 n0 n1).2.1, (box_b w3 n0 n1).2.2⟩
  case rest =>
    obtain ⟨g, c', A', rfl, hg, hU, hO, hB⟩ := hcut
    have HB4 := hide (below_next (unhide HB3) (unhide hB))
    have Z4 := hide ((unhide Z3).below (unhide hB))
    have hz3 := (unhide Z3).lt
    clear Z3 hk0 hk1
    go_wp2_with fail
    refine (unhide HC3 _ (unhide HB4)).mono ?_
    rintro e w5 ⟨B, m, d, rfl, hOT, hb⟩
    have HB5 := hide (below_next (unhide HB4) hb)
    have Z5 := hide ((unhide Z4).below hb)
    have HU5 := hide ((unhide hU).below hb)
    have HO5 := hide (OwnI.below (unhide hO) hb (Nat.le_refl _))
    have HG5 : Hid (w3.heap.size ≤ w5.heap.size) := Nat.le_trans hB.size hb.size
    have hgl : w.heap.size < g := by have h8 := (unhide Z4).lt; have h9 := (unhide hg); have h7 := hz3; omega
    have HG0 : Hid (w.heap.size ≤ w3.heap.size) := (unhide HB3).size
    have HT5 := hide hOT
    have HL5 : Hid (ws.length = m) := hOT.len
    clear hb hOT Z4 HB4 hU hO HC3 hB HB3
    go_upto_if 43 with (fail)
    go_cut [] (fun wx => ∃ (A2 : Option Addr) (k c2 : Nat) (ys : List Int), Hid (Whl wx g 26 #[.int .i64 n0, .int .i64 n1, .slice A2 k c2]) ∧ Hid (OwnI wx w3.heap.size A2 k c2 ys) ∧ Hid (ipR s = (n0, n1, ys)) ∧ k ≤ 1000 ∧ Hid (Below w.heap.size w wx) ∧ Hid (Whl wx w.heap.size 26 #[.int .i64 0, .int .i64 0, .slice none 0 0]))
    case first =>
      by_cases h4 : s.size ≤ 400
      · have l1 : (s.size : Int) ≤ 400 := by omega
        have HIP2 : Hid (ipR s = (n0, n1, ws.tail.map atZ)) := by unfold Hid; rw [unhide HIP, if_pos h4]
        have hm1 : 1 ≤ m := by have := unhide HW3; have := unhide HL5; omega
        have hm2 : m ≤ 401 := by have := unhide HW2; have := unhide HL5; omega
        obtain ⟨gB, rfl, hBlo, hBlt, hBcap⟩ := (unhide HT5).form (by omega)
        have l2 : (1 : Int) ≤ (m : Int) := by omega
        have HSW : Hid (∀ x ∈ ws.tail, x.size ≤ 1048576) := fun x hx => by have := unhide HW1 x (List.mem_of_mem_tail hx); omega
        have HLT : Hid ((ws.tail.map atZ).length ≤ 400) := by unfold Hid; rw [List.length_map, List.length_tail]; have := unhide HL5; omega
        have HTN : Hid (m = 1 → ws.tail = []) := fun h => List.eq_nil_of_length_eq_zero (by rw [List.length_tail, unhide HL5]; omega)
        by_cases hd : d = 1
        · subst hd
          obtain rfl : m = 1 := by omega
          have HN := hide (numbersIn_any (some ⟨gB, 0, none⟩) 0 0 ws.tail w5.drew (by rw [unhide HTN rfl]; exact ⟨rfl, fun h => absurd h (by omega)⟩) (by omega) (unhide HSW) (unhide HE _ (unhide HB5).drew))
          have k2 : w5.cell? ⟨g, 2, none⟩ = some (.slice A' 0 c') := (unhide HU5).cell 2
          have f2 : w5.frozen? ⟨g, 2, none⟩ = false := (unhide HU5).frozen 2
          go_wp2_with fail
          go_region_law (first
            | (go_simp; go_at_call 22; refine (unhide HN).mono ?_; rintro e w6 ⟨A6, n6, c6, rfl, hO6, hb6⟩; have HO6 := hide (OwnI.below (unhide HO5) (undrw hb6) (Nat.le_refl _)); have HU6 := hide ((unhide HU5).below (undrw hb6)); have Z6 := hide ((unhide Z5).below (undrw hb6)); have HB6 := hide (below_next (unhide HB5) (undrw hb6)); have HG6 : Hid (w3.heap.size ≤ w6.heap.size) := hide (Nat.le_trans (unhide HG5) hb6.size); have HR6 := hide hO6.ri; have HL6 := hide hO6.len; have k6 : w6.cell? ⟨g, 2, none⟩ = some (.slice A' 0 c') := (unhide HU6).cell 2; clear hO6 hb6)
            | (refine step_append_ints2 w6 (by rfl) _ _ (by rfl) w3.heap.size A' 0 c' [] (by rfl) (unhide HO6) (unhide HG6) _ A6 n6 c6 _ (by rfl) (unhide HR6) (by have := unhide HL6; have := unhide HLT; omega) ?_; intro A9 c9 w7 hO7 hg7; have HU7 := hide ((unhide HU6).kept hg7 (unhide HO6) trace_no_int); have Z7 := hide ((unhide Z6).kept hg7 (unhide HO6) trace_no_int); have HB7 := hide (OwnI.grow (unhide HO6) (unhide HB6) (unhide HG0) (unhide HB6).size hg7); have HO7 := hide hO7; have k7 : w7.cell? ⟨g, 2, none⟩ = some (.slice A' 0 c') := (unhide HU7).cell 2; have f7 : w7.frozen? ⟨g, 2, none⟩ = false := (unhide HU7).frozen 2; clear hO7 hg7))
          all_goals
            go_wp2_with fail
            go_meet
            exact ⟨A9, n6, c9, ws.tail.map atZ, (unhide HU7).store 2 _, by have h9 := OwnI.apart (unhide HO7) (unhide HU7) trace_no_int 2 (.slice A9 n6 c9); rw [Nat.zero_add, List.nil_append] at h9; exact h9, HIP2, by have := unhide HL6; have := unhide HLT; omega, (unhide HB7).setCell (p := ⟨g, 2, none⟩) (Nat.le_of_lt hgl) _, (unhide Z7).far (p := ⟨g, 2, none⟩) (Nat.ne_of_lt hgl) _⟩
        · have l3 : (m : Int) ≤ (d : Int) := by omega
          have l4 : (1 : Int) ≤ (d : Int) := by omega
          have k2 : w5.cell? ⟨g, 2, none⟩ = some (.slice A' 0 c') := (unhide HU5).cell 2
          have f2 : w5.frozen? ⟨g, 2, none⟩ = false := (unhide HU5).frozen 2
          go_wp2_with fail
          have HN := hide (numbersIn_any (some ⟨gB, 1, none⟩) (m - 1) (d - 1) ws.tail w5.drew (RT.tail1 ((unhide HT5).rt) hm1) (by omega) (unhide HSW) (unhide HE _ (unhide HB5).drew))
          go_region_law (first
            | (go_simp; go_at_call 22; refine (unhide HN).mono ?_; rintro e w6 ⟨A6, n6, c6, rfl, hO6, hb6⟩; have HO6 := hide (OwnI.below (unhide HO5) (undrw hb6) (Nat.le_refl _)); have HU6 := hide ((unhide HU5).below (undrw hb6)); have Z6 := hide ((unhide Z5).below (undrw hb6)); have HB6 := hide (below_next (unhide HB5) (undrw hb6)); have HG6 : Hid (w3.heap.size ≤ w6.heap.size) := hide (Nat.le_trans (unhide HG5) hb6.size); have HR6 := hide hO6.ri; have HL6 := hide hO6.len; have k6 : w6.cell? ⟨g, 2, none⟩ = some (.slice A' 0 c') := (unhide HU6).cell 2; clear hO6 hb6)
            | (refine step_append_ints2 w6 (by rfl) _ _ (by rfl) w3.heap.size A' 0 c' [] (by rfl) (unhide HO6) (unhide HG6) _ A6 n6 c6 _ (by rfl) (unhide HR6) (by have := unhide HL6; have := unhide HLT; omega) ?_; intro A9 c9 w7 hO7 hg7; have HU7 := hide ((unhide HU6).kept hg7 (unhide HO6) trace_no_int); have Z7 := hide ((unhide Z6).kept hg7 (unhide HO6) trace_no_int); have HB7 := hide (OwnI.grow (unhide HO6) (unhide HB6) (unhide HG0) (unhide HB6).size hg7); have HO7 := hide hO7; have k7 : w7.cell? ⟨g, 2, none⟩ = some (.slice A' 0 c') := (unhide HU7).cell 2; have f7 : w7.frozen? ⟨g, 2, none⟩ = false := (unhide HU7).frozen 2; clear hO7 hg7))
          all_goals
            go_wp2_with fail
            go_meet
            exact ⟨A9, n6, c9, ws.tail.map atZ, (unhide HU7).store 2 _, by have h9 := OwnI.apart (unhide HO7) (unhide HU7) trace_no_int 2 (.slice A9 n6 c9); rw [Nat.zero_add, List.nil_append] at h9; exact h9, HIP2, by have := unhide HL6; have := unhide HLT; omega, (unhide HB7).setCell (p := ⟨g, 2, none⟩) (Nat.le_of_lt hgl) _, (unhide Z7).far (p := ⟨g, 2, none⟩) (Nat.ne_of_lt hgl) _⟩
      · have l1 : ¬ (s.size : Int) ≤ 400 := by omega
        have HIP2 : Hid (ipR s = (n0, n1, [])) := by unfold Hid; rw [unhide HIP, if_neg h4]
        go_wp2_with fail
        go_meet
        exact ⟨A', 0, c', [], HU5, HO5, HIP2, by omega, HB5, Z5⟩
    case rest =>
      obtain ⟨A2, k, c2, ys, hU, hO, hI, hk, hB, hZ⟩ := hcut
      have HPR := hide (prR_case (unhide hI))
      have HX := hide (implTraceText_any n0 n1 A2 k c2 ys wc (unhide hO).ri (by omega) (unhide HE _ (unhide hB)).tab)
      have m0 : wc.cell? ⟨g, 0, none⟩ = some (.int .i64 n0) := (unhide hU).cell 0
      have m1 : wc.cell? ⟨g, 1, none⟩ = some (.int .i64 n1) := (unhide hU).cell 1
      have m2 : wc.cell? ⟨g, 2, none⟩ = some (.slice A2 k c2) := (unhide hU).cell 2
      rcases hg2 : goodB n0 n1 ys with _ | _
      · have HRR : Hid (prR s = (0, 0, [], false)) := by unfold Hid; rw [unhide HPR, hg2]; rfl
        have HTX : Hid (trxR n0 n1 ys = (ByteArray.empty, false)) := by unfold Hid trxR; rw [hg2]; rfl
        rw [unhide HTX] at HX
        clear hg2
        go_wp2_with fail
        refine (unhide HX).mono ?_
        rintro e w9 ⟨rfl, hb⟩
        have Z9 := hide ((unhide hZ).below hb)
        have HU9 := hide ((unhide hU).below hb)
        have HB9 := hide (below_next (unhide hB) hb)
        have HO9 := hide (OwnI.below (unhide hO) hb (Nat.le_refl _))
        clear hb m0 m1 m2
        have d0 : w9.cell? ⟨w.heap.size, 0, none⟩ = some (.int .i64 0) := (unhide Z9).cell 0
        have d1 : w9.cell? ⟨w.heap.size, 1, none⟩ = some (.int .i64 0) := (unhide Z9).cell 1
        have d2 : w9.cell? ⟨w.heap.size, 2, none⟩ = some (.slice none 0 0) := (unhide Z9).cell 2
        have df0 : w9.frozen? ⟨w.heap.size, 0, none⟩ = false := (unhide Z9).frozen 0
        have df1 : w9.frozen? ⟨w.heap.size, 1, none⟩ = false := (unhide Z9).frozen 1
        have df2 : w9.frozen? ⟨w.heap.size, 2, none⟩ = false := (unhide Z9).frozen 2
        have o0 : w9.cell? ⟨g, 0, none⟩ = some (.int .i64 n0) := (unhide HU9).cell 0
        have o1 : w9.cell? ⟨g, 1, none⟩ = some (.int .i64 n1) := (unhide HU9).cell 1
        have o2 : w9.cell? ⟨g, 2, none⟩ = some (.slice A2 k c2) := (unhide HU9).cell 2
        have su : g < w9.heap.size := (unhide HU9).lt
        have sz : w.heap.size < w9.heap.size := (unhide Z9).lt
        go_wp2_with fail
        refine bodyPost_ret (v := .tuple #[.agg #[.int .i64 0, .int .i64 0, .slice none 0 0], .bool false]) (by simp [results, Tryz.results7, go_sem, *]) rfl ?_
        rw [unhide HRR]
        exact ⟨none, 0, 0, rfl, OwnI.nil _ _, below_set3 (unhide HB9) (Nat.le_refl _) _ _ _⟩
      · have HTX : Hid (trxR n0 n1 ys = (txtN n0 n1 ys ys.length, true)) := by unfold Hid trxR; rw [hg2]; rfl
        rw [unhide HTX] at HX
        by_cases ht : txtN n0 n1 ys ys.length = s
        · have HRR : Hid (prR s = (n0, n1, ys, true)) := by unfold Hid; rw [unhide HPR, hg2, decide_eq_true ht]; rfl
          rw [ht] at HX
          have hne : (s.toList != s.toList) = false := by simp
          clear hg2 ht HTX
          go_wp2_with fail
          refine (unhide HX).mono ?_
          rintro e w9 ⟨rfl, hb⟩
          have Z9 := hide ((unhide hZ).below hb)
          have HU9 := hide ((unhide hU).below hb)
          have HB9 := hide (below_next (unhide hB) hb)
          have HO9 := hide (OwnI.below (unhide hO) hb (Nat.le_refl _))
          clear hb m0 m1 m2
          have d0 : w9.cell? ⟨w.heap.size, 0, none⟩ = some (.int .i64 0) := (unhide Z9).cell 0
          have d1 : w9.cell? ⟨w.heap.size, 1, none⟩ = some (.int .i64 0) := (unhide Z9).cell 1
          have d2 : w9.cell? ⟨w.heap.size, 2, none⟩ = some (.slice none 0 0) := (unhide Z9).cell 2
          have df0 : w9.frozen? ⟨w.heap.size, 0, none⟩ = false := (unhide Z9).frozen 0
          have df1 : w9.frozen? ⟨w.heap.size, 1, none⟩ = false := (unhide Z9).frozen 1
          have df2 : w9.frozen? ⟨w.heap.size, 2, none⟩ = false := (unhide Z9).frozen 2
          have o0 : w9.cell? ⟨g, 0, none⟩ = some (.int .i64 n0) := (unhide HU9).cell 0
          have o1 : w9.cell? ⟨g, 1, none⟩ = some (.int .i64 n1) := (unhide HU9).cell 1
          have o2 : w9.cell? ⟨g, 2, none⟩ = some (.slice A2 k c2) := (unhide HU9).cell 2
          have su : g < w9.heap.size := (unhide HU9).lt
          have sz : w.heap.size < w9.heap.size := (unhide Z9).lt
          go_wp2_with fail
          refine bodyPost_ret (v := .tuple #[.agg #[.int .i64 n0, .int .i64 n1, .slice A2 k c2], .bool true]) (by simp [results, Tryz.results7, go_sem, *]) rfl ?_
          rw [unhide HRR]
          exact ⟨A2, k, c2, rfl, ((((unhide HO9).setB hz3 _).setB hz3 _).setB hz3 _).less (unhide HG0), below_set3 (unhide HB9) (Nat.le_refl _) _ _ _⟩
        · have HRR : Hid (prR s = (0, 0, [], false)) := by unfold Hid; rw [unhide HPR, hg2, decide_eq_false ht]; rfl
          have hne : ((txtN n0 n1 ys ys.length).toList == s.toList) = false := by rw [str_eq]; exact decide_eq_false ht
          generalize txtN n0 n1 ys ys.length = tx at *
          clear hg2 ht HTX
          go_wp2_with fail
          refine (unhide HX).mono ?_
          rintro e w9 ⟨rfl, hb⟩
          have Z9 := hide ((unhide hZ).below hb)
          have HU9 := hide ((unhide hU).below hb)
          have HB9 := hide (below_next (unhide hB) hb)
          have HO9 := hide (OwnI.below (unhide hO) hb (Nat.le_refl _))
          clear hb m0 m1 m2
          have d0 : w9.cell? ⟨w.heap.size, 0, none⟩ = some (.int .i64 0) := (unhide Z9).cell 0
          have d1 : w9.cell? ⟨w.heap.size, 1, none⟩ = some (.int .i64 0) := (unhide Z9).cell 1
          have d2 : w9.cell? ⟨w.heap.size, 2, none⟩ = some (.slice none 0 0) := (unhide Z9).cell 2
          have df0 : w9.frozen? ⟨w.heap.size, 0, none⟩ = false := (unhide Z9).frozen 0
          have df1 : w9.frozen? ⟨w.heap.size, 1, none⟩ = false := (unhide Z9).frozen 1
          have df2 : w9.frozen? ⟨w.heap.size, 2, none⟩ = false := (unhide Z9).frozen 2
          have o0 : w9.cell? ⟨g, 0, none⟩ = some (.int .i64 n0) := (unhide HU9).cell 0
          have o1 : w9.cell? ⟨g, 1, none⟩ = some (.int .i64 n1) := (unhide HU9).cell 1
          have o2 : w9.cell? ⟨g, 2, none⟩ = some (.slice A2 k c2) := (unhide HU9).cell 2
          have su : g < w9.heap.size := (unhide HU9).lt
          have sz : w.heap.size < w9.heap.size := (unhide Z9).lt
          go_wp2_with fail
          refine bodyPost_ret (v := .tuple #[.agg #[.int .i64 0, .int .i64 0, .slice none 0 0], .bool false]) (by simp [results, Tryz.results7, go_sem, *]) rfl ?_
          rw [unhide HRR]
          exact ⟨none, 0, 0, rfl, OwnI.nil _ _, below_set3 (unhide HB9) (Nat.le_refl _) _ _ _⟩
end Go.Proofs.YtdpmpdhhjmbbcaaGreatDoor
