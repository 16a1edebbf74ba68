/- Chapter 2, the walks: a trace read from its text: the reference's. -/
import Derived.Test.YtdpmpdhhjmbbcaaGreatDoorProg
import Derived.Test.YtdpmpdhhjmbbcaaGreatDoorParA
import Derived.Test.YtdpmpdhhjmbbcaaGreatDoorRd2
namespace Go.Proofs.YtdpmpdhhjmbbcaaGreatDoor
open Go.RowKit

/-- the number of a text, zero where it has none -/
def rdN (s : ByteArray) : Int := (rdR s).1
theorem spec_miss {s a b : ByteArray} {ws : List ByteArray} (hw : splitA 32 s = ws) (hh : splitA 64 (ws.headD ByteArray.empty) = [a, b])
    (hno : ¬ (goodB (rdN a) (rd2 (b.extract 0 (b.size - 1))) (ws.tail.map rdN) = true ∧ txtN (rdN a) (rd2 (b.extract 0 (b.size - 1))) (ws.tail.map rdN) (ws.tail.map rdN).length = s)) : prR s = (0, 0, [], false) :=
  prR_miss fun st sa xs hg e => by
    obtain ⟨_, h2, h3, h4, h5⟩ := spec_text (h0 := a) (h1 := b) hg e hw
    rw [hh] at h2
    injection h2 with e1 e2
    injection e2 with e2 _
    subst e1 e2
    refine hno ?_
    have h5' : ws.tail.map rdN = xs := h5
    have h3' : rdN (numB st) = st := h3
    rw [h5', h3', h4]
    exact ⟨hg, e⟩
theorem spec_miss2 {s : ByteArray} {ws : List ByteArray} (hw : splitA 32 s = ws) (h : ∀ a b, splitA 64 (ws.headD ByteArray.empty) = [a, b] → 1 ≤ b.size → False) : prR s = (0, 0, [], false) :=
  prR_miss fun st sa xs hg e => by
    obtain ⟨_, h2, _⟩ := spec_text (h0 := s) (h1 := s) hg e hw
    refine h _ _ h2 ?_
    rw [size_app]
    have : (⟨#[58]⟩ : ByteArray).size = 1 := rfl
    omega
theorem mapR_step {ws : List ByteArray} {k : Nat} {x : ByteArray} (h : ws[k]? = some x) : (ws.take (k + 1)).map rdN = (ws.take k).map rdN ++ [rdN x] := by
  rw [List.take_add_one, h]
  simp

theorem add0 (g J : Nat) : (⟨g, 0, none⟩ : Addr).add J = ⟨g, J, none⟩ := by unfold Addr.add; by_cases h : J = 0 <;> simp [h]
theorem prR_len (s : ByteArray) : (prR s).2.2.1.length ≤ 24 := by
  unfold prR
  split
  · rename_i h9
    rw [Bool.and_eq_true] at h9
    exact smpB_len (goodB_parts h9.1).2.2.1
  · simp
theorem size_al (w : World) (o : Obj) : (w.alloc o).heap.size = w.heap.size + 1 := by simp
theorem size_set (w : World) (p : Addr) (u : Value) : (w.setCell p u).heap.size = w.heap.size := by simp [World.setCell]

set_option maxHeartbeats 8000000 in
set_option maxRecDepth 100000 in
theorem specParse_any (s : ByteArray) (w : World) (hs : s.size ≤ 1048576) :
    Calls Tryz.prog 14 #[.string s] w (RetTB w (prR s).1 (prR s).2.1 (prR s).2.2.1 (prR s).2.2.2) := by
  have Z0 := hide (Whl.here w 26 #[.int .i64 0, .int .i64 0, .slice none 0 0])
  have HB0 := hide ((Below.refl w.heap.size w).alloc (Nat.le_refl _) (.cells #[.int .i64 0, .int .i64 0, .slice none 0 0] 26))
  by_cases h220 : 220 < s.size
  · have HRR : Hid (prR s = (0, 0, [], false)) := prR_big h220
    have l1 : (220 : Int) < (s.size : Int) := by omega
    go_enter Tryz.func14, Tryz.ntmps14
    go_wp2_with fail
    refine bodyPost_ret (v := .tuple #[.agg #[.int .i64 0, .int .i64 0, .slice none 0 0], .bool false]) (by simp [results, Tryz.results14, go_sem, *]) rfl ?_
    rw [unhide HRR]
    exact ⟨none, 0, 0, rfl, OwnI.nil _ _, unhide HB0⟩
  · have l1 : (s.size : Int) ≤ 220 := by omega
    have HC1 := hide (l1Split_any s 32 (w.alloc (.cells #[.int .i64 0, .int .i64 0, .slice none 0 0] 26)) hs)
    have HWS : Hid (splitA 32 s = splitA 32 s) := rfl
    have HW1 := hide (splitA_sizes 32 s)
    have HW2 := hide (splitA_len 32 s)
    have HW3 := hide (splitA_pos 32 s)
    have hs2 : s.size ≤ 220 := by omega
    generalize hws : splitA 32 s = ws at HC1 HW1 HW2 HW3
    have HSP := hide hws
    clear hws HWS
    go_enter Tryz.func14, Tryz.ntmps14
    go_wp2_with fail
    refine (unhide HC1).mono ?_
    rintro e w1 ⟨A, m, d, rfl, hOT, hb⟩
    have HB1 := hide (below_next (unhide HB0) hb)
    have Z1 := hide ((unhide Z0).below hb)
    have HT1 := hide hOT
    have HL1 : Hid (ws.length = m) := hOT.len
    have hm1 : 1 ≤ m := by have := unhide HW3; have := unhide HL1; omega
    have hm2 : m ≤ 221 := by have := unhide HW2; have := unhide HL1; omega
    clear hb hOT Z0 HB0 HC1
    obtain ⟨gw, rfl, hwlo, hwlt, hwcap⟩ := (unhide HT1).form (by omega)
    obtain ⟨ad, x0, hA, _, hx0, c0⟩ := (unhide HT1).rt.get (k := 0) (by omega)
    obtain rfl := (Option.some.inj hA).symm
    have c0' : w1.cell? ⟨gw, 0, none⟩ = some (.string x0) := by simpa [Addr.add] using c0
    have hxm := unhide HW1 x0 (List.mem_of_getElem? (unhide hx0))
    have HH0 : Hid (ws.headD ByteArray.empty = x0) := by
      unfold Hid
      have := unhide hx0
      cases ws with
      | nil => simp at this
      | cons y l => simpa using this
    have HC2 := hide (l1Split_any x0 64 w1 (by omega))
    have HD1 := hide (splitA_sizes 64 x0)
    have HD2 := hide (splitA_len 64 x0)
    generalize hds : splitA 64 x0 = hd at HC2 HD1 HD2
    have HSD : Hid (splitA 64 (ws.headD ByteArray.empty) = hd) := by unfold Hid; rw [unhide HH0]; exact hds
    clear hds hA c0 hx0
    have l2 : (0 : Int) < (m : Int) := by omega
    go_wp2_with fail
    refine (unhide HC2).mono ?_
    rintro e w2 ⟨H, k, d2, rfl, hOT, hb⟩
    have HB2 := hide (below_next (unhide HB1) hb)
    have Z2 := hide ((unhide Z1).below hb)
    have HT2 := hide ((unhide HT1).below hb (Nat.le_refl _))
    have HK2 := hide hOT
    have HL2 : Hid (hd.length = k) := hOT.len
    clear hb hOT Z1 HB1 HC2 HT1 c0'
    by_cases hk2 : k = 2
    · subst hk2
      obtain ⟨a, b, rfl⟩ : ∃ a b, hd = [a, b] := by
        match hd, unhide HL2 with
        | [a, b], _ => exact ⟨a, b, rfl⟩
      obtain ⟨gh, rfl, hhlo, hhlt, hhcap⟩ := (unhide HK2).form (by omega)
      have k0 : w2.cell? ⟨gh, 0, none⟩ = some (.string a) := by have := World.ownsRow.cellAt (unhide HK2) 0 (by omega); simpa [cT] using this
      have k1 : w2.cell? ⟨gh, 1, none⟩ = some (.string b) := by have := World.ownsRow.cellAt (unhide HK2) 1 (by omega); simpa [cT] using this
      by_cases hb0 : b.size = 0
      · have HRR : Hid (prR s = (0, 0, [], false)) := spec_miss2 (unhide HSP) fun a' b' e h1 => by
          have h9 := (unhide HSD).symm.trans e
          injection h9 with _ h9
          injection h9 with h9 _
          subst h9
          omega
        have l4 : ((b.size : Int) == 0) = true := beq_iff_eq.2 (by omega)
        have d0 : w2.cell? ⟨w.heap.size, 0, none⟩ = some (.int .i64 0) := (unhide Z2).cell 0
        have d1 : w2.cell? ⟨w.heap.size, 1, none⟩ = some (.int .i64 0) := (unhide Z2).cell 1
        have d2 : w2.cell? ⟨w.heap.size, 2, none⟩ = some (.slice none 0 0) := (unhide Z2).cell 2
        have df0 : w2.frozen? ⟨w.heap.size, 0, none⟩ = false := (unhide Z2).frozen 0
        have df1 : w2.frozen? ⟨w.heap.size, 1, none⟩ = false := (unhide Z2).frozen 1
        have df2 : w2.frozen? ⟨w.heap.size, 2, none⟩ = false := (unhide Z2).frozen 2
        have sz : w.heap.size < w2.heap.size := (unhide Z2).lt
        go_wp2_with fail
        refine bodyPost_ret (v := .tuple #[.agg #[.int .i64 0, .int .i64 0, .slice none 0 0], .bool false]) (by simp [results, Tryz.results14, go_sem, *]) rfl ?_
        rw [unhide HRR]
        exact ⟨none, 0, 0, rfl, OwnI.nil _ _, below_set3 (unhide HB2) (Nat.le_refl _) _ _ _⟩
      · have l4 : ((b.size : Int) == 0) = false := beq_eq_false_iff_ne.2 (by omega)
        have HA := hide (fun W : World => l1Read_any a W (by have := unhide HD1 a (List.mem_cons_self ..); omega))
        obtain ⟨ra, ba, hra⟩ : ∃ p q, rdR a = (p, q) := ⟨_, _, rfl⟩
        have HRA : Hid (rdN a = ra) := by unfold Hid rdN; rw [hra]
        rw [hra] at HA
        clear hra
        obtain ⟨q, hq⟩ : ∃ q : Nat, b.size = q + 1 := ⟨b.size - 1, by omega⟩
        have hbs := unhide HD1 b (List.mem_cons_of_mem _ (List.mem_cons_self ..))
        have HB := hide (fun W : World => l2Read_any (b.extract 0 q) W (by rw [ByteArray.size_extract]; omega))
        have HRB : Hid (rd2 (b.extract 0 (b.size - 1)) = rd2 (b.extract 0 q)) := by unfold Hid; rw [hq]; rfl
        generalize hrb : rd2 (b.extract 0 q) = rb at HB HRB
        have s1 : IntKind.i64.wrap ((b.size : Int) - 1) = (q : Int) := by rw [IntWalk.i64_in _ (by omega)]; omega
        have s2 : q ≤ b.size := by omega
        have s3 : (q : Int) ≤ (b.size : Int) := by omega
        clear hq hrb
        go_wp2_with fail
        have HX := hide (box_a w2 0 0)
        have HU3 := hide (unhide HX).1
        have HO3 := hide (unhide HX).2.1
        have HY3 : Hid (Below w2.heap.size w2 ((w2.alloc (.cells #[] 3)).alloc (.cells #[.int .i64 0, .int .i64 0, .slice (some ⟨w2.heap.size, 0, none⟩) 0 0] 26))) := (((Below.refl _ w2).alloc (Nat.le_refl _) _).alloc (by simp) _)
        have HB3 := hide (below_next (unhide HB2) (unhide HY3))
        have HT3 : Hid (RT ((w2.alloc (.cells #[] 3)).alloc (.cells #[.int .i64 0, .int .i64 0, .slice (some ⟨w2.heap.size, 0, none⟩) 0 0] 26)) w2.heap.size (some ⟨gw, 0, none⟩) m ws) := (unhide HT2).rt.below (unhide HY3)
        have Z3 := hide ((unhide Z2).below (unhide HY3))
        have k1' := ((unhide HY3).cell (p := ⟨gh, 1, none⟩) hhlt).trans k1
        have hzb : w.heap.size < w2.heap.size := (unhide Z2).lt
        have hgU : w2.heap.size < w2.heap.size + 1 := by omega
        have HS3 : Hid (w2.heap.size ≤ ((w2.alloc (.cells #[] 3)).alloc (.cells #[.int .i64 0, .int .i64 0, .slice (some ⟨w2.heap.size, 0, none⟩) 0 0] 26)).heap.size) := (unhide HY3).size
        change Hid (Whl ((w2.alloc (.cells #[] 3)).alloc (.cells #[.int .i64 0, .int .i64 0, .slice (some ⟨w2.heap.size, 0, none⟩) 0 0] 26)) (w2.heap.size + 1) 26 #[.int .i64 0, .int .i64 0, .slice (some ⟨w2.heap.size, 0, none⟩) 0 0]) at HU3
        change Hid (OwnI ((w2.alloc (.cells #[] 3)).alloc (.cells #[.int .i64 0, .int .i64 0, .slice (some ⟨w2.heap.size, 0, none⟩) 0 0] 26)) w2.heap.size (some ⟨w2.heap.size, 0, none⟩) 0 0 []) at HO3
        clear HX HY3 HB2 HT2 Z2 k0 k1 HK2
        generalize ((w2.alloc (.cells #[] 3)).alloc (.cells #[.int .i64 0, .int .i64 0, .slice (some ⟨w2.heap.size, 0, none⟩) 0 0] 26)) = w3 at *
        generalize w2.heap.size + 1 = gU at *
        generalize w2.heap.size = lo at *
        refine (unhide HA _).mono ?_
        rintro e w4 ⟨rfl, hb⟩
        have HB4 := hide (below_next (unhide HB3) hb)
        have HU4 := hide ((unhide HU3).below hb)
        have HO4 := hide (OwnI.below (unhide HO3) hb (Nat.le_refl _))
        have HT4 := hide ((unhide HT3).below (hb.mono (unhide HS3)))
        have Z4 := hide ((unhide Z3).below hb)
        have HS4 : Hid (lo ≤ w4.heap.size) := Nat.le_trans (unhide HS3) hb.size
        have k1 := (hb.cell (p := ⟨gh, 1, none⟩) (Nat.lt_of_lt_of_le hhlt (unhide HS3))).trans k1'
        clear hb k1' HB3 HU3 HO3 HT3 Z3 HS3
        have u0 : w4.cell? ⟨gU, 0, none⟩ = some (.int .i64 0) := (unhide HU4).cell 0
        have uf0 : w4.frozen? ⟨gU, 0, none⟩ = false := (unhide HU4).frozen 0
        go_wp2_with fail
        have HU5 : Hid (Whl (w4.setCell ⟨gU, 0, none⟩ (.int .i64 ra)) gU 26 #[.int .i64 ra, .int .i64 0, .slice (some ⟨lo, 0, none⟩) 0 0]) := (unhide HU4).store 0 _
        have HO5 := hide (OwnI.apart (unhide HO4) (unhide HU4) trace_no_int 0 (.int .i64 ra))
        have HB5 := hide ((unhide HB4).setCell (p := ⟨gU, 0, none⟩) (Nat.le_of_lt (Nat.lt_trans hzb hgU)) (.int .i64 ra))
        have HT5 := hide (Reads.setCell (unhide HT4) (p := ⟨gU, 0, none⟩) (Nat.le_of_lt hgU) (.int .i64 ra))
        have Z5 := hide ((unhide Z4).far (p := ⟨gU, 0, none⟩) (Nat.ne_of_lt (Nat.lt_trans hzb hgU)) (.int .i64 ra))
        have HS5 : Hid (lo ≤ (w4.setCell ⟨gU, 0, none⟩ (.int .i64 ra)).heap.size) := by unfold Hid; rw [size_set]; exact unhide HS4
        have k2 := (World.cell?_setCell_other w4 ⟨gU, 0, none⟩ ⟨gh, 1, none⟩ (.int .i64 ra) (by intro e; injection e with e _; omega)).trans k1
        clear u0 uf0 HU4 HO4 HB4 HT4 Z4 HS4 k1
        generalize w4.setCell ⟨gU, 0, none⟩ (.int .i64 ra) = w5 at *
        go_cut [] (fun wx => Hid (Whl wx gU 26 #[.int .i64 ra, .int .i64 rb, .slice (some ⟨lo, 0, none⟩) 0 0]) ∧ Hid (OwnI wx lo (some ⟨lo, 0, none⟩) 0 0 []) ∧ Hid (RT wx lo (some ⟨gw, 0, none⟩) m ws) ∧ Hid (Whl wx w.heap.size 26 #[.int .i64 0, .int .i64 0, .slice none 0 0]) ∧ Hid (Below w.heap.size w wx))
        case first =>
          have v1 : w5.cell? ⟨gU, 1, none⟩ = some (.int .i64 0) := (unhide HU5).cell 1
          have vf1 : w5.frozen? ⟨gU, 1, none⟩ = false := (unhide HU5).frozen 1
          go_region_law (first
            | (go_simp; go_at_call 38; refine (unhide HB _).mono ?_; rintro e w6 ⟨rfl, hb⟩; have HB6 := hide (below_next (unhide HB5) (undrw hb)); have HU6 := hide ((unhide HU5).below (undrw hb)); have HO6 := hide (OwnI.below (unhide HO5) (undrw hb) (Nat.le_refl _)); have HT6 := hide (Reads.below (unhide HT5) ((undrw hb).mono (unhide HS5))); have Z6 := hide ((unhide Z5).below (undrw hb)); have HS6 : Hid (lo ≤ w6.heap.size) := hide (Nat.le_trans (unhide HS5) hb.size); have x1 : w6.cell? ⟨gU, 1, none⟩ = some (.int .i64 0) := (unhide HU6).cell 1; have xf1 : w6.frozen? ⟨gU, 1, none⟩ = false := (unhide HU6).frozen 1; clear hb))
          all_goals
            go_wp2_with fail
            go_meet
            exact ⟨(unhide HU6).store 1 _, OwnI.apart (unhide HO6) (unhide HU6) trace_no_int 1 (.int .i64 rb), Reads.setCell (unhide HT6) (p := ⟨gU, 1, none⟩) (Nat.le_of_lt hgU) (.int .i64 rb), (unhide Z6).far (p := ⟨gU, 1, none⟩) (Nat.ne_of_lt (Nat.lt_trans hzb hgU)) (.int .i64 rb), (unhide HB6).setCell (p := ⟨gU, 1, none⟩) (Nat.le_of_lt (Nat.lt_trans hzb hgU)) (.int .i64 rb)⟩
        case rest =>
          obtain ⟨HU7, HO7, HT7, Z7, HB7⟩ := hcut
          clear HU5 HO5 HB5 HT5 Z5 HS5 k2
          go_wp2_with fail
          go_loopw [7] (fun i wr => ∃ (J n' : Nat) (A' : Option Addr) (c' : Nat), 1 ≤ J ∧ J ≤ m ∧ i = .int .i64 (J : Int) ∧ n' ≤ 300 ∧ Hid (J = n' + 1) ∧ Hid (Whl wr gU 26 #[.int .i64 ra, .int .i64 rb, .slice A' n' c']) ∧ Hid (OwnI wr lo A' n' c' ((ws.tail.take n').map rdN)) ∧ Hid (RT wr lo (some ⟨gw, 0, none⟩) m ws) ∧ Hid (Whl wr w.heap.size 26 #[.int .i64 0, .int .i64 0, .slice none 0 0]) ∧ Hid (Below w.heap.size w wr)) (fun i _ => m - (intOf i).toNat)
          case atStart => exact ⟨1, 0, _, 0, Nat.le_refl _, hm1, rfl, by omega, rfl, HU7, HO7, HT7, Z7, HB7⟩
          case round =>
            clear HU7 HO7 HB7 HT7 Z7
            obtain ⟨J, n', A', c', hJ1, hJm, rfl, hn', hJ, hU, hO, hT, hZ, hB⟩ := hrel
            by_cases hlt : J < m
            · obtain ⟨ad, x, hA, hbx, hx, c0⟩ := RT.get (unhide hT) hlt
              obtain rfl := (Option.some.inj hA).symm
              have c9 : wr.cell? ⟨gw, J, none⟩ = some (.string x) := by rw [← c0, add0]
              clear c0
              have l8 : (J : Int) < (m : Int) := by omega
              have l9 : (0 : Int) ≤ (J : Int) := by omega
              have HC := hide (l1Read_any x wr (by have := unhide HW1 x (List.mem_of_getElem? (unhide hx)); omega))
              have HM : Hid ((ws.tail.take (n' + 1)).map rdN = (ws.tail.take n').map rdN ++ [rdN x]) := hide (mapR_step (by rw [List.getElem?_tail, ← unhide hJ]; exact unhide hx))
              obtain ⟨rx, bx, hrx⟩ : ∃ p q, rdR x = (p, q) := ⟨_, _, rfl⟩
              rw [show rdN x = rx by unfold rdN; rw [hrx]] at HM
              rw [hrx] at HC
              clear hrx hx hA hbx
              go_wp2_with fail
              refine (unhide HC).mono ?_
              rintro e w8 ⟨rfl, hb⟩
              have hlr : lo < wr.heap.size := Nat.lt_trans hgU (unhide hU).lt
              have HB8 := hide (below_next (unhide hB) hb)
              have HU8 := hide ((unhide hU).below hb)
              have HO8 := hide (OwnI.below (unhide hO) hb (Nat.le_refl _))
              have HT8 := hide (Reads.below (unhide hT) (hb.mono (Nat.le_of_lt hlr)))
              have Z8 := hide ((unhide hZ).below hb)
              have hl8 : lo < w8.heap.size := Nat.lt_of_lt_of_le hlr hb.size
              have y2 : w8.cell? ⟨gU, 2, none⟩ = some (.slice A' n' c') := (unhide HU8).cell 2
              have sU : gU < w8.heap.size := (unhide HU8).lt
              have q1 : ∀ o : Obj, lo ≤ (w8.alloc o).heap.size := fun o => by rw [size_al]; omega
              have q2 : ∀ o : Obj, w.heap.size ≤ (w8.alloc o).heap.size := fun o => by rw [size_al]; omega
              have q3 : n' ≤ 1000000000 := by omega
              clear hb c9 HC hU hO hT hZ hB hlr
              go_wp2_with (at_builtin; refine append_int2 _ rfl _ _ rfl lo A' n' c' _ rfl ((unhide HO8).alloc _) (q1 _) _ rx rfl (cellNew _ _ _) q3 ?_; intro A9 e9 w9 hO9 hg9; have HU9 := hide (((unhide HU8).alloc _).kept hg9 ((unhide HO8).alloc _) trace_no_int); have Z9 := hide (((unhide Z8).alloc _).kept hg9 ((unhide HO8).alloc _) trace_no_int); have HT9 := hide (Reads.grown (Reads.alloc (unhide HT8) (Nat.le_of_lt hl8) _) hg9 (q1 _) (fun g hg => (OwnI.lt (unhide HO8) hg).1)); have HB9 := hide (OwnI.grow ((unhide HO8).alloc _) ((unhide HB8).alloc (unhide HB8).size _) (Nat.le_of_lt hzb) (q2 _) hg9); have HO9 := hide hO9; have z2 : w9.cell? ⟨gU, 2, none⟩ = some (.slice A' n' c') := (unhide HU9).cell 2; have zf2 : w9.frozen? ⟨gU, 2, none⟩ = false := (unhide HU9).frozen 2; clear hO9 hg9)
              go_roundw
              case rel => exact ⟨J + 1, n' + 1, A9, e9, by omega, by omega, by go_num, by have := unhide hJ; omega, by unfold Hid; rw [← unhide hJ], (unhide HU9).store 2 _, by rw [unhide HM]; exact OwnI.apart (unhide HO9) (unhide HU9) trace_no_int 2 _, Reads.setCell (unhide HT9) (p := ⟨gU, 2, none⟩) (Nat.le_of_lt hgU) _, (unhide Z9).far (p := ⟨gU, 2, none⟩) (Nat.ne_of_lt (Nat.lt_trans hzb hgU)) _, (unhide HB9).setCell (p := ⟨gU, 2, none⟩) (Nat.le_of_lt (Nat.lt_trans hzb hgU)) _⟩
              case measure => simp [intOf]; omega
            · have l8 : ¬ (J : Int) < (m : Int) := by omega
              have HM : Hid ((ws.tail.take n').map rdN = ws.tail.map rdN) := by unfold Hid; rw [List.take_of_length_le]; rw [List.length_tail]; have := unhide HL1; have := unhide hJ; omega
              rw [unhide HM] at hO
              generalize hys : ws.tail.map rdN = ys at hO
              have HYS := hide hys
              have hG := hide (l2Good_any ra rb A' n' c' ys wr (unhide hO).ri (by omega))
              have y0 : wr.cell? ⟨gU, 0, none⟩ = some (.int .i64 ra) := (unhide hU).cell 0
              have y1 : wr.cell? ⟨gU, 1, none⟩ = some (.int .i64 rb) := (unhide hU).cell 1
              have y2 : wr.cell? ⟨gU, 2, none⟩ = some (.slice A' n' c') := (unhide hU).cell 2
              clear hys HM
              rcases hgo : goodB ra rb ys with _ | _
              · have HRR : Hid (prR s = (0, 0, [], false)) := spec_miss (unhide HSP) (unhide HSD) (fun h => by have h1 := h.1; rw [unhide HRA, unhide HRB, unhide HYS, hgo] at h1; cases h1)
                rw [hgo] at hG
                clear hgo
                go_wp2_with fail
                refine (unhide hG).mono ?_
                rintro e w9 ⟨rfl, hb⟩
                have HB9 := hide (below_next (unhide hB) hb)
                have HU9 := hide ((unhide hU).below hb)
                have HO9 := hide (OwnI.below (unhide hO) hb (Nat.le_refl _))
                have HZ9 := hide ((unhide hZ).below hb)
                clear hb y0 y1 y2
                have d0 : w9.cell? ⟨w.heap.size, 0, none⟩ = some (.int .i64 0) := (unhide HZ9).cell 0
                have d1 : w9.cell? ⟨w.heap.size, 1, none⟩ = some (.int .i64 0) := (unhide HZ9).cell 1
                have d2 : w9.cell? ⟨w.heap.size, 2, none⟩ = some (.slice none 0 0) := (unhide HZ9).cell 2
                have df0 : w9.frozen? ⟨w.heap.size, 0, none⟩ = false := (unhide HZ9).frozen 0
                have df1 : w9.frozen? ⟨w.heap.size, 1, none⟩ = false := (unhide HZ9).frozen 1
                have df2 : w9.frozen? ⟨w.heap.size, 2, none⟩ = false := (unhide HZ9).frozen 2
                have sz : w.heap.size < w9.heap.size := (unhide HZ9).lt
                go_wp2_with fail
                refine bodyPost_ret (v := .tuple #[.agg #[.int .i64 0, .int .i64 0, .slice none 0 0], .bool false]) (by simp [results, Tryz.results14, go_sem, *]) rfl ?_
                rw [unhide HRR]
                exact ⟨none, 0, 0, rfl, OwnI.nil _ _, below_set3 (unhide HB9) (Nat.le_refl _) _ _ _⟩
              · have HTT := hide (fun (W : World) (h : RI W W.heap.size A' n' ys) => l2Text_any ra rb A' n' c' ys W h hgo)
                have HNL : Hid (ys.length = n') := (unhide hO).len
                rw [hgo] at hG
                by_cases ht : txtN ra rb ys n' = s
                · have HRR : Hid (prR s = (ra, rb, ys, true)) := prR_hit hgo (by rw [unhide HNL]; exact ht)
                  rw [ht] at HTT
                  have hne : (s.toList != s.toList) = false := by simp
                  clear hgo ht
                  go_wp2_with fail
                  refine (unhide hG).mono ?_
                  rintro e w9 ⟨rfl, hb⟩
                  have HB9 := hide (below_next (unhide hB) hb)
                  have HU9 := hide ((unhide hU).below hb)
                  have HO9 := hide (OwnI.below (unhide hO) hb (Nat.le_refl _))
                  have HZ9 := hide ((unhide hZ).below hb)
                  clear hb y0 y1 y2
                  have x0 : w9.cell? ⟨gU, 0, none⟩ = some (.int .i64 ra) := (unhide HU9).cell 0
                  have x1 : w9.cell? ⟨gU, 1, none⟩ = some (.int .i64 rb) := (unhide HU9).cell 1
                  have x2 : w9.cell? ⟨gU, 2, none⟩ = some (.slice A' n' c') := (unhide HU9).cell 2
                  go_wp2_with fail
                  refine (unhide HTT _ (unhide HO9).ri).mono ?_
                  rintro e wt ⟨rfl, hb⟩
                  have HBT := hide (below_next (unhide HB9) hb)
                  have HUT := hide ((unhide HU9).below hb)
                  have HOT := hide (OwnI.below (unhide HO9) hb (Nat.le_refl _))
                  have HZT := hide ((unhide HZ9).below hb)
                  clear hb x0 x1 x2
                  have d0 : wt.cell? ⟨w.heap.size, 0, none⟩ = some (.int .i64 0) := (unhide HZT).cell 0
                  have d1 : wt.cell? ⟨w.heap.size, 1, none⟩ = some (.int .i64 0) := (unhide HZT).cell 1
                  have d2 : wt.cell? ⟨w.heap.size, 2, none⟩ = some (.slice none 0 0) := (unhide HZT).cell 2
                  have df0 : wt.frozen? ⟨w.heap.size, 0, none⟩ = false := (unhide HZT).frozen 0
                  have df1 : wt.frozen? ⟨w.heap.size, 1, none⟩ = false := (unhide HZT).frozen 1
                  have df2 : wt.frozen? ⟨w.heap.size, 2, none⟩ = false := (unhide HZT).frozen 2
                  have sz : w.heap.size < wt.heap.size := (unhide HZT).lt
                  have v0 : wt.cell? ⟨gU, 0, none⟩ = some (.int .i64 ra) := (unhide HUT).cell 0
                  have v1 : wt.cell? ⟨gU, 1, none⟩ = some (.int .i64 rb) := (unhide HUT).cell 1
                  have v2 : wt.cell? ⟨gU, 2, none⟩ = some (.slice A' n' c') := (unhide HUT).cell 2
                  have sv : gU < wt.heap.size := (unhide HUT).lt
                  go_wp2_with fail
                  refine bodyPost_ret (v := .tuple #[.agg #[.int .i64 ra, .int .i64 rb, .slice A' n' c'], .bool true]) (by simp [results, Tryz.results14, go_sem, *]) rfl ?_
                  rw [unhide HRR]
                  exact ⟨A', n', c', rfl, ((((unhide HOT).setB hzb _).setB hzb _).setB hzb _).less (Nat.le_of_lt hzb), below_set3 (unhide HBT) (Nat.le_refl _) _ _ _⟩
                · have HRR : Hid (prR s = (0, 0, [], false)) := spec_miss (unhide HSP) (unhide HSD) (fun h => by have h1 := h.2; rw [unhide HRA, unhide HRB, unhide HYS, unhide HNL] at h1; exact ht h1)
                  have hne : ((txtN ra rb ys n').toList == s.toList) = false := by rw [str_eq]; exact decide_eq_false ht
                  generalize txtN ra rb ys n' = tx at *
                  clear hgo ht
                  go_wp2_with fail
                  refine (unhide hG).mono ?_
                  rintro e w9 ⟨rfl, hb⟩
                  have HB9 := hide (below_next (unhide hB) hb)
                  have HU9 := hide ((unhide hU).below hb)
                  have HO9 := hide (OwnI.below (unhide hO) hb (Nat.le_refl _))
                  have HZ9 := hide ((unhide hZ).below hb)
                  clear hb y0 y1 y2
                  have x0 : w9.cell? ⟨gU, 0, none⟩ = some (.int .i64 ra) := (unhide HU9).cell 0
                  have x1 : w9.cell? ⟨gU, 1, none⟩ = some (.int .i64 rb) := (unhide HU9).cell 1
                  have x2 : w9.cell? ⟨gU, 2, none⟩ = some (.slice A' n' c') := (unhide HU9).cell 2
                  go_wp2_with fail
                  refine (unhide HTT _ (unhide HO9).ri).mono ?_
                  rintro e wt ⟨rfl, hb⟩
                  have HBT := hide (below_next (unhide HB9) hb)
                  have HUT := hide ((unhide HU9).below hb)
                  have HOT := hide (OwnI.below (unhide HO9) hb (Nat.le_refl _))
                  have HZT := hide ((unhide HZ9).below hb)
                  clear hb x0 x1 x2
                  have d0 : wt.cell? ⟨w.heap.size, 0, none⟩ = some (.int .i64 0) := (unhide HZT).cell 0
                  have d1 : wt.cell? ⟨w.heap.size, 1, none⟩ = some (.int .i64 0) := (unhide HZT).cell 1
                  have d2 : wt.cell? ⟨w.heap.size, 2, none⟩ = some (.slice none 0 0) := (unhide HZT).cell 2
                  have df0 : wt.frozen? ⟨w.heap.size, 0, none⟩ = false := (unhide HZT).frozen 0
                  have df1 : wt.frozen? ⟨w.heap.size, 1, none⟩ = false := (unhide HZT).frozen 1
                  have df2 : wt.frozen? ⟨w.heap.size, 2, none⟩ = false := (unhide HZT).frozen 2
                  have sz : w.heap.size < wt.heap.size := (unhide HZT).lt
                  have v0 : wt.cell? ⟨gU, 0, none⟩ = some (.int .i64 ra) := (unhide HUT).cell 0
                  have v1 : wt.cell? ⟨gU, 1, none⟩ = some (.int .i64 rb) := (unhide HUT).cell 1
                  have v2 : wt.cell? ⟨gU, 2, none⟩ = some (.slice A' n' c') := (unhide HUT).cell 2
                  have sv : gU < wt.heap.size := (unhide HUT).lt
                  go_wp2_with fail
                  refine bodyPost_ret (v := .tuple #[.agg #[.int .i64 0, .int .i64 0, .slice none 0 0], .bool false]) (by simp [results, Tryz.results14, go_sem, *]) rfl ?_
                  rw [unhide HRR]
                  exact ⟨none, 0, 0, rfl, OwnI.nil _ _, below_set3 (unhide HBT) (Nat.le_refl _) _ _ _⟩
    · have HRR : Hid (prR s = (0, 0, [], false)) := spec_miss2 (unhide HSP) fun a' b' e h1 => by
        have h9 := (unhide HSD).symm.trans e
        have h8 := unhide HL2
        rw [h9] at h8
        simp at h8
        omega
      have l4 : ((k : Int) != 2) = true := by rw [bne_iff_ne]; omega
      have d0 : w2.cell? ⟨w.heap.size, 0, none⟩ = some (.int .i64 0) := (unhide Z2).cell 0
      have d1 : w2.cell? ⟨w.heap.size, 1, none⟩ = some (.int .i64 0) := (unhide Z2).cell 1
      have d2 : w2.cell? ⟨w.heap.size, 2, none⟩ = some (.slice none 0 0) := (unhide Z2).cell 2
      have df0 : w2.frozen? ⟨w.heap.size, 0, none⟩ = false := (unhide Z2).frozen 0
      have df1 : w2.frozen? ⟨w.heap.size, 1, none⟩ = false := (unhide Z2).frozen 1
      have df2 : w2.frozen? ⟨w.heap.size, 2, none⟩ = false := (unhide Z2).frozen 2
      have sz : w.heap.size < w2.heap.size := (unhide Z2).lt
      go_wp2_with fail
      refine bodyPost_ret (v := .tuple #[.agg #[.int .i64 0, .int .i64 0, .slice none 0 0], .bool false]) (by simp [results, Tryz.results14, go_sem, *]) rfl ?_
      rw [unhide HRR]
      exact ⟨none, 0, 0, rfl, OwnI.nil _ _, below_set3 (unhide HB2) (Nat.le_refl _) _ _ _⟩
end Go.Proofs.YtdpmpdhhjmbbcaaGreatDoor
