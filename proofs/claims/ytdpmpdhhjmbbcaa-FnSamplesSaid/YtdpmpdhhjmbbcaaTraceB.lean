/- Chapter 2, the walks: the sample at a tick: the program's and the reference's. -/
import Derived.Test.YtdpmpdhhjmbbcaaProg
import Derived.Test.YtdpmpdhhjmbbcaaTraceA
import Derived.Test.YtdpmpdhhjmbbcaaAbove
import Derived.Deep.RegionHeld3
import Derived.Deep.RegionWith
namespace Go.Proofs.Ytdpmpdhhjmbbcaa
open Go.RowKit

/-- a block of three cells, as it stands behind calls -/
theorem box3_new {w w1 : World} {x y z : Value} {T : TypeId} (hb : Below (w.alloc (.cells #[x, y, z] T)).heap.size (w.alloc (.cells #[x, y, z] T)) w1) :
    w.heap.size < w1.heap.size ∧ w1.cell? ⟨w.heap.size, 0, none⟩ = some x ∧ w1.cell? ⟨w.heap.size, 1, none⟩ = some y ∧ w1.cell? ⟨w.heap.size, 2, none⟩ = some z :=
  ⟨by have := hb.size; simp at this; omega, (hb.cell (p := ⟨w.heap.size, 0, none⟩) (by simp)).trans (by simp), (hb.cell (p := ⟨w.heap.size, 1, none⟩) (by simp)).trans (by simp), (hb.cell (p := ⟨w.heap.size, 2, none⟩) (by simp)).trans (by simp)⟩
theorem box3_next {g : Nat} {w1 w2 : World} {x y z : Value} (h : g < w1.heap.size ∧ w1.cell? ⟨g, 0, none⟩ = some x ∧ w1.cell? ⟨g, 1, none⟩ = some y ∧ w1.cell? ⟨g, 2, none⟩ = some z) (hb : Below w1.heap.size w1 w2) :
    g < w2.heap.size ∧ w2.cell? ⟨g, 0, none⟩ = some x ∧ w2.cell? ⟨g, 1, none⟩ = some y ∧ w2.cell? ⟨g, 2, none⟩ = some z :=
  ⟨Nat.lt_of_lt_of_le h.1 hb.size, (hb.cell (p := ⟨g, 0, none⟩) h.1).trans h.2.1, (hb.cell (p := ⟨g, 1, none⟩) h.1).trans h.2.2.1, (hb.cell (p := ⟨g, 2, none⟩) h.1).trans h.2.2.2⟩
theorem undrew {w w1 : World} (h : Below w.drew.heap.size w.drew w1) : Below w.heap.size w w1 := ⟨h.os, h.tape, h.output, h.size, h.block⟩
/-- an int and a bool come back -/
def RetNB (w : World) (r : Int) (b : Bool) (e : Ending) (w' : World) : Prop := e = .returned (.tuple #[.int .i64 r, .bool b]) ∧ Below w.heap.size w w'
theorem getD_of {xs : List Int} {k : Nat} {x : Int} (hx : xs[k]? = some x) : xs.getD k 0 = x := by rw [List.getD_eq_getElem?_getD, hx]; rfl

theorem l2Has_any (st sa : Int) (A : Option Addr) (n c : Nat) (t : Int) (w : World) (h0 : 0 ≤ sa) (h1 : sa ≤ 1000000) (hn : n ≤ 1048576) :
    Calls Try.prog 52 #[.agg #[.int .i64 st, .int .i64 sa, .slice A n c], .int .i64 t] w fun e w' => e = .returned (.bool (inB t sa (sa + n - 1))) ∧ Below w.heap.size w w' := by
  go_enter Try.func52, Try.ntmps52
  go_wp2_with (go_at_call 61; refine (l1In_any _ _ _ _).mono ?_; rintro e w' ⟨rfl, rfl⟩)
  go_ret
  exact ⟨rfl, (Below.refl _ _).alloc (Nat.le_refl _) _⟩

/-- the trace is valid and has a sample at the tick -/
def atB (st sa : Int) (xs : List Int) (t : Int) : Bool := goodB st sa xs && inB t sa (sa + xs.length - 1)

set_option maxHeartbeats 2000000 in
theorem specSampleAt_any (st sa : Int) (A : Option Addr) (n c : Nat) (xs : List Int) (t : Int) (w : World) (hr : RI w w.heap.size A n xs) (hn : n ≤ 1048576) :
    Calls Try.prog 17 #[.agg #[.int .i64 st, .int .i64 sa, .slice A n c], .int .i64 t] w (RetNB w (if atB st sa xs t then xs.getD (t - sa).toNat 0 else 0) (atB st sa xs t)) := by
  have HG := hide (l2Good_any st sa A n c xs _ ((hr.alloc (Nat.le_refl _) (.cells #[.int .i64 st, .int .i64 sa, .slice A n c] 27)).more (by simp)) hn)
  have HL := hide hr.len
  have B0 : Hid (Below w.heap.size w (w.alloc (.cells #[.int .i64 st, .int .i64 sa, .slice A n c] 27))) := (Below.refl _ _).alloc (Nat.le_refl _) _
  have HR := hide hr
  clear hr
  unfold atB
  rw [unhide HL]
  cases h1 : goodB st sa xs
  · go_enter Try.func17, Try.ntmps17
    go_wp2_with (go_at_call 46; refine (unhide HG).mono ?_; rintro e w1 ⟨rfl, hb⟩; have HB := hide hb; clear hb)
    go_ret2
    exact ⟨rfl, (unhide B0).trans ((unhide HB).mono (by simp))⟩
  · obtain ⟨_, ⟨g0, g1⟩, _, _⟩ := goodB_parts h1
    cases h2 : inB t sa (sa + n - 1)
    · go_enter Try.func17, Try.ntmps17
      go_wp2_with (first
        | (go_at_call 46; refine (unhide HG).mono ?_; rintro e w1 ⟨rfl, hb⟩; obtain ⟨hcc, _⟩ := bcell hb; have HB := hide hb; clear hb)
        | (go_at_call 52; refine (l2Has_any _ _ _ _ _ _ _ g0 g1 hn).mono ?_; rintro e w2 ⟨rfl, hb2⟩; have HB2 := hide hb2; clear hb2))
      go_ret2
      exact ⟨rfl, ((unhide B0).trans ((unhide HB).mono (by simp))).trans ((unhide HB2).mono (Nat.le_trans (unhide B0).size (unhide HB).size))⟩
    · obtain ⟨g2, g3⟩ := inB_iff.1 h2
      have hkn : (t - sa).toNat < n := by omega
      obtain ⟨ad, x, rfl, hbl, hx, hc⟩ := (unhide HR).get hkn
      rw [getD_of (unhide hx)]
      clear hx hkn
      have hbk : (ad.add (t - sa).toNat).block < w.heap.size := by rw [block_of_add]; exact hbl
      have l1 : t - sa < (n : Int) := by omega
      have l2 : 0 ≤ t - sa := by omega
      go_enter Try.func17, Try.ntmps17
      go_wp2_with (first
        | (go_at_call 46; refine (unhide HG).mono ?_; rintro e w1 ⟨rfl, hb⟩; have hc1 : w1.cell? (ad.add (t - sa).toNat) = some (.int .i64 x) := ((unhide B0).trans (hb.mono (by simp))).cell hbk |>.trans hc; have HX := hide (box3_new hb); obtain ⟨hl1, p0, p1, p2⟩ := unhide HX; have HB := hide hb; clear hb)
        | (go_at_call 52; refine (l2Has_any _ _ _ _ _ _ _ g0 g1 hn).mono ?_; rintro e w2 ⟨rfl, hb2⟩; have hc2 : w2.cell? (ad.add (t - sa).toNat) = some (.int .i64 x) := (hb2.cell (Nat.lt_of_lt_of_le hbk (Nat.le_trans (unhide B0).size (unhide HB).size))).trans hc1; obtain ⟨hl2, r0, r1, r2⟩ := box3_next (unhide HX) hb2; have HB2 := hide hb2; clear hb2))
      go_ret2
      exact ⟨rfl, ((unhide B0).trans ((unhide HB).mono (by simp))).trans ((unhide HB2).mono (Nat.le_trans (unhide B0).size (unhide HB).size))⟩

set_option maxHeartbeats 2000000 in
theorem implSampleAt_any (st sa : Int) (A : Option Addr) (n c : Nat) (xs : List Int) (t : Int) (w : World) (hr : RI w w.heap.size A n xs) (hn : n ≤ 1048576) :
    Calls Try.prog 18 #[.agg #[.int .i64 st, .int .i64 sa, .slice A n c], .int .i64 t] w (RetNB w (if atB st sa xs t then xs.getD (t - sa).toNat 0 else 0) (atB st sa xs t)) := by
  have HR0 := (hr.alloc (Nat.le_refl _) (.cells #[.int .i64 st, .int .i64 sa, .slice A n c] 27)).more (B' := (w.alloc (.cells #[.int .i64 st, .int .i64 sa, .slice A n c] 27)).heap.size) (by simp)
  have HG := hide (fun s : Abv (w.alloc (.cells #[.int .i64 st, .int .i64 sa, .slice A n c] 27)) => implIsTrace_any st sa A n c xs s.w (HR0.abv s) hn)
  have HL := hide hr.len
  have B0 : Hid (∀ s : Abv (w.alloc (.cells #[.int .i64 st, .int .i64 sa, .slice A n c] 27)), Below w.heap.size w s.w) := fun s => ((Below.refl _ _).alloc (Nat.le_refl _) _).trans (s.h.mono (by simp))
  have p0 : ∀ s : Abv (w.alloc (.cells #[.int .i64 st, .int .i64 sa, .slice A n c] 27)), s.w.cell? ⟨w.heap.size, 0, none⟩ = some (.int .i64 st) := Abv.cell (by simp) (by simp)
  have p1 : ∀ s : Abv (w.alloc (.cells #[.int .i64 st, .int .i64 sa, .slice A n c] 27)), s.w.cell? ⟨w.heap.size, 1, none⟩ = some (.int .i64 sa) := Abv.cell (by simp) (by simp)
  have p2 : ∀ s : Abv (w.alloc (.cells #[.int .i64 st, .int .i64 sa, .slice A n c] 27)), s.w.cell? ⟨w.heap.size, 2, none⟩ = some (.slice A n c) := Abv.cell (by simp) (by simp)
  have HR := hide HR0
  clear hr HR0
  unfold atB
  rw [unhide HL]
  cases h1 : goodB st sa xs
  · go_enter Try.func18, Try.ntmps18
    go_wp2
    refine wp_region_abv (w.alloc (.cells #[.int .i64 st, .int .i64 sa, .slice A n c] 27)) (by kernel_rfl) (by kernel_rfl) (Below.refl _ _) ?_
    repeat (go_big_quiet_step ((first | (go_at_call 15; exact Calls.abv ((unhide HG _).mono fun _ _ ⟨a, b⟩ => ⟨by rw [a, h1], b⟩)))))
    refine wpQuiet_nil ?_
    intro _ hw'
    obtain ⟨s, hw''⟩ := hw'
    subst hw''
    go_wp2
    go_ret2
    exact ⟨rfl, unhide B0 _⟩
  · obtain ⟨_, ⟨g0, g1⟩, _, _⟩ := goodB_parts h1
    cases h2 : inB t sa (sa + n - 1)
    · go_enter Try.func18, Try.ntmps18
      go_wp2
      refine wp_region_abv (w.alloc (.cells #[.int .i64 st, .int .i64 sa, .slice A n c] 27)) (by kernel_rfl) (by kernel_rfl) (Below.refl _ _) ?_
      repeat (go_big_quiet_step ((first | (go_at_call 15; exact Calls.abv ((unhide HG _).mono fun _ _ ⟨a, b⟩ => ⟨by rw [a, h1], b⟩)) | (go_at_call 51; exact Calls.abv (last_any _ _ _ _ _ _ g0 g1 hn)) | (go_at_call 48; exact Calls.abv_same ((in_any _ _ _ _).mono fun _ _ ⟨a, b⟩ => ⟨by rw [a, h2], b⟩)))))
      refine wpQuiet_nil ?_
      intro _ hw'
      obtain ⟨s, hw''⟩ := hw'
      subst hw''
      go_wp2
      go_ret2
      exact ⟨rfl, unhide B0 _⟩
    · obtain ⟨g2, g3⟩ := inB_iff.1 h2
      have hkn : (t - sa).toNat < n := by omega
      obtain ⟨ad, x, rfl, hbl, hx, hc⟩ := (unhide HR).get hkn
      rw [getD_of (unhide hx)]
      clear hx hkn
      have hc1 := fun s => Abv.cell (by rw [block_of_add]; exact hbl) hc s
      have l1 : t - sa < (n : Int) := by omega
      have l2 : 0 ≤ t - sa := by omega
      go_enter Try.func18, Try.ntmps18
      go_wp2
      refine wp_region_abv (w.alloc (.cells #[.int .i64 st, .int .i64 sa, .slice (some ad) n c] 27)) (by kernel_rfl) (by kernel_rfl) (Below.refl _ _) ?_
      repeat (go_big_quiet_step ((first | (go_at_call 15; exact Calls.abv ((unhide HG _).mono fun _ _ ⟨a, b⟩ => ⟨by rw [a, h1], b⟩)) | (go_at_call 51; exact Calls.abv (last_any _ _ _ _ _ _ g0 g1 hn)) | (go_at_call 48; exact Calls.abv_same ((in_any _ _ _ _).mono fun _ _ ⟨a, b⟩ => ⟨by rw [a, h2], b⟩)))))
      refine wpQuiet_nil ?_
      intro _ hw'
      obtain ⟨s, hw''⟩ := hw'
      subst hw''
      go_wp2
      go_ret2
      exact ⟨rfl, unhide B0 _⟩
end Go.Proofs.Ytdpmpdhhjmbbcaa
