/- Chapter 1: the number with a decimal representation: the program's and the reference's. -/
import Derived.Test.YtajngpnpcefhdaaDoorProg
import Derived.Test.YtajngpnpcefhdaaDoorRead
import Derived.Lib.AtoiBound
import Derived.Lib.ConvBytes
namespace Go.Proofs.YtajngpnpcefhdaaDoor
open Go.RowKit

/-- the variable holds an error, or none -/
def ErrV (g : Nat) (w : World) : Prop := ∃ ev, w.cell? ⟨g, 0, none⟩ = some ev ∧ (ev = .nilIface ∨ ∃ te pe, ev = .iface te pe)
theorem ErrV.stays {g : Nat} {w w' : World} (h : ErrV g w) (hb : Below w.heap.size w w') : ErrV g w' := by
  obtain ⟨ev, hm, h2⟩ := h
  exact ⟨ev, (hb.cell (p := ⟨_, 0, none⟩) (World.block_lt_of_cell? w _ hm)).trans hm, h2⟩
structure EnvE (w : World) : Prop where
  tab : Tab w
  syn : ErrV 1 w
  rng : ErrV 2 w
theorem EnvE.stays {w w' : World} (h : EnvE w) (hb : Below w.heap.size w w') : EnvE w' := ⟨h.tab.stays hb, h.syn.stays hb, h.rng.stays hb⟩

theorem specParse_any (s : ByteArray) (w : World) (hs : s.size ≤ 1048576) : Calls Tryd.prog 14 #[.string s] w (RetNB w (rdR s).1 (rdR s).2) := by
  have HR := hide (l1Read_any s w hs)
  generalize (rdR s).1 = n at *
  generalize (rdR s).2 = b at *
  go_enter Tryd.func14, Tryd.ntmps14
  go_wp2_with fail
  refine (unhide HR).mono ?_
  rintro e w1 ⟨rfl, hb⟩
  have HB := hide hb
  clear hb
  go_wp2_with fail
  go_ret2
  exact ⟨rfl, unhide HB⟩

theorem below_bytes (w : World) (e : TypeId) (s : ByteArray) : Below w.heap.size w (Lib.bytesWorld w e s) :=
  ⟨rfl, rfl, rfl, by simp [Lib.bytesWorld, World.freeze, World.alloc, World.drew, -World.alloc_eq, -World.drew_eq], fun j hj => Lib.bytesWorld_at_old w e s j hj⟩
/-- what strconv.Atoi says of a short text -/
theorem Atoi_short (s : ByteArray) (w : World) (hs : s.size ≤ 18) (he : EnvE w) :
    (∃ n, Lib.atoi s.data.toList = some n ∧ -1000000000000000000 < n ∧ n < 1000000000000000000 ∧ Calls Tryd.prog 32 #[.string s] w fun e w' => e = .returned (.tuple #[.int .i64 n, .nilIface]) ∧ Below w.heap.size w w') ∨
    (Lib.atoi s.data.toList = none ∧ Calls Tryd.prog 32 #[.string s] w fun e w' => ∃ t p, e = .returned (.tuple #[.int .i64 0, .iface t p]) ∧ Below w.heap.size w w') := by
  have ha := Lib.atoiAll_short s.data.toList (by rw [← Lib.size_eq]; exact hs)
  rcases h : Lib.atoi s.data.toList with _ | n
  · rw [h] at ha
    obtain ⟨ev, h1, h2⟩ := he.syn
    refine .inr ⟨rfl, (Any.strconv_Atoi_syntax Tryd.laysC172 s (by omega) ha ev w h1 h2).mono ?_⟩
    rintro e w' ⟨N, rfl, _, _, hb⟩
    exact ⟨_, _, rfl, hb⟩
  · rw [h] at ha
    have hb := Lib.atoi_bound h (by rw [← Lib.size_eq]; exact hs)
    refine .inl ⟨n, rfl, hb.1, hb.2, (Tryd.strconv_Atoi_ok s (by omega) n ha w).mono ?_⟩
    rintro e w' ⟨rfl, h⟩
    refine ⟨rfl, ?_⟩
    rcases h with rfl | ⟨t, rfl⟩
    · exact Below.refl _ _
    · exact below_bytes _ _ _

set_option maxHeartbeats 1000000 in
theorem implParse_any (s : ByteArray) (w : World) (hs : s.size ≤ 1048576) (he : EnvE w) : Calls Tryd.prog 15 #[.string s] w (RetNB w (rdR s).1 (rdR s).2) := by
  by_cases h7 : 7 < s.size
  · have HRR : Hid (rdR s = (0, false)) := rdR_no fun n h0 h1 e => by have := numB_seven h0 h1; rw [e] at this; omega
    clear he
    go_enter Tryd.func15, Tryd.ntmps15
    go_wp2_with fail
    go_ret2
    rw [unhide HRR]
    exact ⟨rfl, Below.refl _ _⟩
  · rcases Atoi_short s w (by omega) he with ⟨n, ha, n0, n1, hc⟩ | ⟨ha, hc⟩
    · have HC := hide hc
      have HF := hide (fun (W : World) (hb : Below w.heap.size w W) => implFormat_any n W (he.tab.stays hb))
      clear hc he
      by_cases hn : -999999 ≤ n ∧ n ≤ 999999
      · have hf : fmtR n = (numB n, true) := by unfold fmtR; rw [inB_iff.2 hn]; rfl
        rw [hf] at HF
        by_cases hq : numB n = s
        · have HRR : Hid (rdR s = (n, true)) := rdR_ok hn.1 hn.2 hq
          have ht : ((numB n).toList == s.toList) = true := by rw [hq]; simp
          clear hf hn hq ha
          generalize numB n = z at *
          go_enter Tryd.func15, Tryd.ntmps15
          go_wp2_with fail
          refine (unhide HC).mono ?_
          rintro e w1 ⟨rfl, hb⟩
          have HB1 := hide hb
          clear hb
          go_wp2_with fail
          refine (unhide HF _ (unhide HB1)).mono ?_
          rintro e w2 ⟨rfl, hb⟩
          have HB2 := hide ((unhide HB1).trans (hb.mono (unhide HB1).size))
          clear hb
          go_wp2_with fail
          go_ret2
          rw [unhide HRR]
          exact ⟨rfl, unhide HB2⟩
        · have HRR : Hid (rdR s = (0, false)) := rdR_no fun n' h0 h1 e => hq (by rw [← e, numB_data, atoi_itoa] at ha; rw [← Option.some.inj ha]; exact e)
          have ht : ((numB n).toList == s.toList) = false := by rw [str_eq']; exact decide_eq_false hq
          clear hf hn hq ha
          generalize numB n = z at *
          go_enter Tryd.func15, Tryd.ntmps15
          go_wp2_with fail
          refine (unhide HC).mono ?_
          rintro e w1 ⟨rfl, hb⟩
          have HB1 := hide hb
          clear hb
          go_wp2_with fail
          refine (unhide HF _ (unhide HB1)).mono ?_
          rintro e w2 ⟨rfl, hb⟩
          have HB2 := hide ((unhide HB1).trans (hb.mono (unhide HB1).size))
          clear hb
          go_wp2_with fail
          go_ret2
          rw [unhide HRR]
          exact ⟨rfl, unhide HB2⟩
      · have hf : fmtR n = (ByteArray.empty, false) := by unfold fmtR; rw [inB_no.2 hn]; rfl
        rw [hf] at HF
        have HRR : Hid (rdR s = (0, false)) := rdR_no fun n' h0 h1 e => hn (by rw [← e, numB_data, atoi_itoa] at ha; rw [← Option.some.inj ha]; exact ⟨h0, h1⟩)
        clear hf hn ha
        go_enter Tryd.func15, Tryd.ntmps15
        go_wp2_with fail
        refine (unhide HC).mono ?_
        rintro e w1 ⟨rfl, hb⟩
        have HB1 := hide hb
        clear hb
        go_wp2_with fail
        refine (unhide HF _ (unhide HB1)).mono ?_
        rintro e w2 ⟨rfl, hb⟩
        have HB2 := hide ((unhide HB1).trans (hb.mono (unhide HB1).size))
        clear hb
        go_wp2_with fail
        go_ret2
        rw [unhide HRR]
        exact ⟨rfl, unhide HB2⟩
    · have HC := hide hc
      have HF := hide (fun (W : World) (hb : Below w.heap.size w W) => implFormat_any 0 W (he.tab.stays hb))
      have hf : fmtR 0 = (numB 0, true) := by unfold fmtR; rw [inB_iff.2 ⟨by omega, by omega⟩]; rfl
      rw [hf] at HF
      have HRR : Hid (rdR s = (0, false)) := rdR_no fun n' h0 h1 e => by rw [← e, numB_data, atoi_itoa] at ha; cases ha
      clear hc he hf ha
      generalize numB 0 = z at *
      go_enter Tryd.func15, Tryd.ntmps15
      go_wp2_with fail
      refine (unhide HC).mono ?_
      rintro e w1 ⟨t, p, rfl, hb⟩
      have HB1 := hide hb
      clear hb
      go_wp2_with fail
      refine (unhide HF _ (unhide HB1)).mono ?_
      rintro e w2 ⟨rfl, hb⟩
      have HB2 := hide ((unhide HB1).trans (hb.mono (unhide HB1).size))
      clear hb
      go_wp2_with fail
      go_ret2
      rw [unhide HRR]
      exact ⟨rfl, unhide HB2⟩
end Go.Proofs.YtajngpnpcefhdaaDoor
