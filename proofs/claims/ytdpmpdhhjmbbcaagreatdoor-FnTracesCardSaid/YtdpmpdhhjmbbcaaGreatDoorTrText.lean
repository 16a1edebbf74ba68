/- Chapter 2, the walks: a trace as text: the program's and the reference's. -/
import Derived.Test.YtdpmpdhhjmbbcaaGreatDoorProg
import Derived.Test.YtdpmpdhhjmbbcaaGreatDoorTraceA
import Derived.Test.YtdpmpdhhjmbbcaaGreatDoorNum
import Derived.Test.YtdpmpdhhjmbbcaaGreatDoorAbove
import Derived.BigRegion
namespace Go.Proofs.YtdpmpdhhjmbbcaaGreatDoor
open Go.RowKit

/-- a trace's text as far as k samples -/
def txtN (st sa : Int) (xs : List Int) : Nat → ByteArray
  | 0 => ((numB st ++ ⟨#[64]⟩) ++ numB sa) ++ ⟨#[58]⟩
  | k + 1 => txtN st sa xs k ++ (⟨#[32]⟩ ++ numB (xs.getD k 0))
/-- a trace as text, whether it is one -/
def trxR (st sa : Int) (xs : List Int) : ByteArray × Bool := if goodB st sa xs = true then (txtN st sa xs xs.length, true) else (ByteArray.empty, false)
theorem bytes_assoc (a b c : ByteArray) : (a ++ b) ++ c = a ++ (b ++ c) := by
  apply bytes_ext
  simp only [ByteArray.data_append, Array.toList_append, List.append_assoc]
theorem size_app (a b : ByteArray) : (a ++ b).size = a.size + b.size := by
  rw [Lib.size_eq, Lib.size_eq, Lib.size_eq, ByteArray.data_append, Array.toList_append, List.length_append]
theorem txtN_size {st sa : Int} {xs : List Int} (h : goodB st sa xs = true) : ∀ k, k ≤ xs.length → (txtN st sa xs k).size ≤ 60 + 30 * k
  | 0, _ => by
    obtain ⟨h1, h2, _⟩ := goodB_parts h
    have a1 := numB_size st (by omega) (by omega)
    have a2 := numB_size sa (by omega) (by omega)
    rw [txtN, size_app, size_app, size_app]
    have e1 : (⟨#[64]⟩ : ByteArray).size = 1 := rfl
    have e2 : (⟨#[58]⟩ : ByteArray).size = 1 := rfl
    omega
  | k + 1, hk => by
    have ih := txtN_size h k (by omega)
    obtain ⟨_, _, h3, _⟩ := goodB_parts h
    have hx := smpB_all h3 (xs.getD k 0) (by rw [List.getD_eq_getElem?_getD, List.getElem?_eq_getElem (by omega)]; exact List.getElem_mem _)
    have a1 := numB_size (xs.getD k 0) (by omega) (by omega)
    rw [txtN, size_app, size_app]
    have e1 : (⟨#[32]⟩ : ByteArray).size = 1 := rfl
    omega
theorem itoa_any (n : Int) (w : World) (h0 : -9223372036854775808 ≤ n) (h1 : n ≤ 9223372036854775807) (ht : Tab w) : Calls Tryz.prog 20 #[.int .i64 n] w fun e w' => e = .returned (.string (numB n)) ∧ Below w.heap.size w w' := by
  have HC := hide (Itoa_any n w h0 h1 ht)
  go_enter Tryz.func20, Tryz.ntmps20
  go_wp2_with fail
  refine (unhide HC).mono ?_
  rintro e w1 ⟨rfl, hb⟩
  have HB := hide hb
  clear hb
  go_wp2_with fail
  go_ret
  exact ⟨rfl, unhide HB⟩
theorem numBel_any (n : Int) (w : World) (h0 : -1000000000000 ≤ n) (h1 : n ≤ 1000000000000) : Calls Tryz.prog 53 #[.int .i64 n] w fun e w' => e = .returned (.string (numB n)) ∧ Below w.heap.size w w' :=
  (l1Num_any n w h0 h1).mono fun e w' ⟨a, m, b⟩ => ⟨a, by subst b; exact below_drewN (Below.refl _ _) _⟩
theorem below_nt {w w1 w2 : World} (h : Below w.heap.size w w1) (hb : Below w1.heap.size w1 w2) : Below w.heap.size w w2 := h.trans (hb.mono h.size)

set_option maxHeartbeats 4000000 in
set_option maxRecDepth 100000 in
theorem implTraceText_any (st sa : Int) (A : Option Addr) (n c : Nat) (xs : List Int) (w : World) (hr : RI w w.heap.size A n xs) (hn : n ≤ 1048576) (ht : Tab w) :
    Calls Tryz.prog 6 #[.agg #[.int .i64 st, .int .i64 sa, .slice A n c]] w (RetSB w (trxR st sa xs).1 (trxR st sa xs).2) := by
  have HB0 := hide ((Below.refl w.heap.size w).alloc (Nat.le_refl _) (.cells #[.int .i64 st, .int .i64 sa, .slice A n c] 26))
  have HR := hide (fun (W : World) (hb : Below w.heap.size w W) => (hr.below hb).more hb.size)
  have HL := hide hr.len
  have HT := hide ht
  have HG := hide (implIsTrace_any st sa A n c xs (w.alloc (.cells #[.int .i64 st, .int .i64 sa, .slice A n c] 26)) (unhide HR _ (unhide HB0)) hn)
  have hkk : w.heap.size < (w.alloc (.cells #[.int .i64 st, .int .i64 sa, .slice A n c] 26)).heap.size := by simp
  have HK0 : Hid ((w.alloc (.cells #[.int .i64 st, .int .i64 sa, .slice A n c] 26)).cell? ⟨w.heap.size, 0, none⟩ = some (.int .i64 st) ∧ (w.alloc (.cells #[.int .i64 st, .int .i64 sa, .slice A n c] 26)).cell? ⟨w.heap.size, 1, none⟩ = some (.int .i64 sa) ∧ (w.alloc (.cells #[.int .i64 st, .int .i64 sa, .slice A n c] 26)).cell? ⟨w.heap.size, 2, none⟩ = some (.slice A n c)) := by unfold Hid; simp
  clear hr ht
  rcases hg : goodB st sa xs with _ | _
  · have HRR : Hid (trxR st sa xs = (ByteArray.empty, false)) := by unfold Hid trxR; rw [hg]; rfl
    rw [hg] at HG
    go_enter Tryz.func6, Tryz.ntmps6
    go_wp2_with fail
    refine (unhide HG).mono ?_
    rintro e w1 ⟨rfl, hb⟩
    have HB1 := hide (below_nt (unhide HB0) hb)
    clear hb
    go_wp2_with fail
    go_ret2
    exact ⟨by rw [unhide HRR]; rfl, unhide HB1⟩
  · have HRR : Hid (trxR st sa xs = (txtN st sa xs xs.length, true)) := by unfold Hid trxR; rw [hg]; rfl
    rw [hg] at HG
    obtain ⟨hp1, hp2, hp3, _⟩ := goodB_parts hg
    have hlen := smpB_len hp3
    have HS := hide (smpB_all hp3)
    have HZ := hide (txtN_size hg)
    have hz1 := numB_size st (by omega) (by omega)
    have hz2 := numB_size sa (by omega) (by omega)
    clear hg hp3
    go_enter Tryz.func6, Tryz.ntmps6
    go_wp2_with fail
    refine (unhide HG).mono ?_
    rintro e w1 ⟨rfl, hb⟩
    have HB1 := hide (below_nt (unhide HB0) hb)
    have hk1 : w.heap.size < w1.heap.size := Nat.lt_of_lt_of_le hkk hb.size
    have HK1 := hide (show w1.cell? ⟨w.heap.size, 0, none⟩ = some (.int .i64 st) ∧ w1.cell? ⟨w.heap.size, 1, none⟩ = some (.int .i64 sa) ∧ w1.cell? ⟨w.heap.size, 2, none⟩ = some (.slice A n c) from ⟨(hb.cell (p := ⟨w.heap.size, 0, none⟩) hkk).trans (unhide HK0).1, (hb.cell (p := ⟨w.heap.size, 1, none⟩) hkk).trans (unhide HK0).2.1, (hb.cell (p := ⟨w.heap.size, 2, none⟩) hkk).trans (unhide HK0).2.2⟩)
    clear hb HG HK0
    have p0 : ∀ z : Abv w1, z.w.cell? ⟨w.heap.size, 0, none⟩ = some (.int .i64 st) := Abv.cell hk1 (unhide HK1).1
    have p1 : ∀ z : Abv w1, z.w.cell? ⟨w.heap.size, 1, none⟩ = some (.int .i64 sa) := Abv.cell hk1 (unhide HK1).2.1
    have c1 := hide (fun z : Abv w1 => Calls.abv (itoa_any st z.w (by omega) (by omega) (((unhide HT).stays (unhide HB1)).stays z.h)))
    have c2 := hide (fun z : Abv w1 => Calls.abv (itoa_any sa z.w (by omega) (by omega) (((unhide HT).stays (unhide HB1)).stays z.h)))
    have HX0 : Hid (txtN st sa xs 0 = ((numB st ++ ⟨#[64]⟩) ++ numB sa) ++ ⟨#[58]⟩) := rfl
    generalize numB st = b1 at c1 HX0 hz1
    generalize numB sa = b2 at c2 HX0 hz2
    go_wp2_with fail
    refine wp_region_abv w1 (by kernel_rfl) (by kernel_rfl) (Below.refl _ _) ?_
    repeat (go_big_quiet_step ((first | (go_at_call 20; first | with_reducible exact unhide c1 _ | with_reducible exact unhide c2 _))))
    refine wpQuiet_nil ?_
    intro _ hw'
    obtain ⟨sv, hw''⟩ := hw'
    subst hw''
    have k2 : sv.w.cell? ⟨w.heap.size, 2, none⟩ = some (.slice A n c) := Abv.cell hk1 (unhide HK1).2.2 sv
    have HB2 := hide (below_nt (unhide HB1) sv.h)
    go_wp2_with fail
    rw [← unhide HX0]
    clear p0 p1 c1 c2 HX0
    go_loopw [4, 22] (fun v i wr => ∃ k : Nat, k ≤ n ∧ i = .int .i64 (k : Int) ∧ v = .string (txtN st sa xs k) ∧ Hid (Below w.heap.size w wr)) (fun _ i _ => n - (intOf i).toNat)
    case atStart => exact ⟨0, Nat.zero_le _, rfl, rfl, HB2⟩
    case round =>
      clear HB2 k2
      obtain ⟨k, hk, rfl, rfl, hB⟩ := hrel
      by_cases hlt : k < n
      · obtain ⟨ad, x, rfl, hbx, hx, c0⟩ := (unhide HR wr (unhide hB)).get hlt
        have hxb := unhide HS x (List.mem_of_getElem? (unhide hx))
        have HE : Hid (txtN st sa xs (k + 1) = txtN st sa xs k ++ (⟨#[32]⟩ ++ numB x)) := by unfold Hid; rw [txtN, List.getD_eq_getElem?_getD, unhide hx]; rfl
        have HC := hide (itoa_any x wr (by omega) (by omega) ((unhide HT).stays (unhide hB)))
        have hz3 := numB_size x (by omega) (by omega)
        have hz4 := unhide HZ k (by have := unhide HL; omega)
        have hn24 : n ≤ 24 := by have := unhide HL; omega
        have l1 : (k : Int) < (n : Int) := by omega
        have l2 : (0 : Int) ≤ (k : Int) := by omega
        generalize numB x = bx at HE HC hz3
        generalize hT : txtN st sa xs k = tk at HE hz4
        clear hT hx hbx hxb
        go_wp2_with fail
        refine (unhide HC).mono ?_
        rintro e w2 ⟨rfl, hb⟩
        have HB3 := hide (below_nt (unhide hB) hb)
        clear hb HC c0
        go_wp2_with fail
        go_roundw
        case rel => exact ⟨k + 1, by omega, by go_num, by rw [unhide HE], HB3⟩
        case measure => simp [intOf] <;> omega
      · obtain rfl : k = n := by omega
        have l1 : ¬ (k : Int) < (k : Int) := by omega
        go_wp2_with fail
        go_ret2
        exact ⟨by rw [unhide HRR, unhide HL]; rfl, unhide hB⟩
set_option maxHeartbeats 4000000 in
set_option maxRecDepth 100000 in
theorem l2Text_any (st sa : Int) (A : Option Addr) (n c : Nat) (xs : List Int) (w : World) (hr : RI w w.heap.size A n xs) (hg : goodB st sa xs = true) :
    Calls Tryz.prog 25 #[.agg #[.int .i64 st, .int .i64 sa, .slice A n c]] w fun e w' => e = .returned (.string (txtN st sa xs n)) ∧ Below w.heap.size w w' := by
  have HB1 := hide ((Below.refl w.heap.size w).alloc (Nat.le_refl _) (.cells #[.int .i64 st, .int .i64 sa, .slice A n c] 26))
  have HR := hide (fun (W : World) (hb : Below w.heap.size w W) => (hr.below hb).more hb.size)
  have HL := hide hr.len
  have hk1 : w.heap.size < (w.alloc (.cells #[.int .i64 st, .int .i64 sa, .slice A n c] 26)).heap.size := by simp
  have HK1 : Hid ((w.alloc (.cells #[.int .i64 st, .int .i64 sa, .slice A n c] 26)).cell? ⟨w.heap.size, 0, none⟩ = some (.int .i64 st) ∧ (w.alloc (.cells #[.int .i64 st, .int .i64 sa, .slice A n c] 26)).cell? ⟨w.heap.size, 1, none⟩ = some (.int .i64 sa) ∧ (w.alloc (.cells #[.int .i64 st, .int .i64 sa, .slice A n c] 26)).cell? ⟨w.heap.size, 2, none⟩ = some (.slice A n c)) := by unfold Hid; simp
  clear hr
  obtain ⟨hp1, hp2, hp3, _⟩ := goodB_parts hg
  have hlen := smpB_len hp3
  have HS := hide (smpB_all hp3)
  have HZ := hide (txtN_size hg)
  have hz1 := numB_size st (by omega) (by omega)
  have hz2 := numB_size sa (by omega) (by omega)
  clear hg hp3
  go_enter Tryz.func25, Tryz.ntmps25
  go_wp2_with fail
  generalize w.alloc (.cells #[.int .i64 st, .int .i64 sa, .slice A n c] 26) = w1 at *
  have p0 : ∀ z : Abv w1, z.w.cell? ⟨w.heap.size, 0, none⟩ = some (.int .i64 st) := Abv.cell hk1 (unhide HK1).1
  have p1 : ∀ z : Abv w1, z.w.cell? ⟨w.heap.size, 1, none⟩ = some (.int .i64 sa) := Abv.cell hk1 (unhide HK1).2.1
  have c1 := hide (fun z : Abv w1 => Calls.abv (numBel_any st z.w (by omega) (by omega)))
  have c2 := hide (fun z : Abv w1 => Calls.abv (numBel_any sa z.w (by omega) (by omega)))
  have HX0 : Hid (txtN st sa xs 0 = ((numB st ++ ⟨#[64]⟩) ++ numB sa) ++ ⟨#[58]⟩) := rfl
  generalize numB st = b1 at c1 HX0 hz1
  generalize numB sa = b2 at c2 HX0 hz2
  refine wp_region_abv w1 (by kernel_rfl) (by kernel_rfl) (Below.refl _ _) ?_
  repeat (go_big_quiet_step ((first | (go_at_call 53; first | with_reducible exact unhide c1 _ | with_reducible exact unhide c2 _))))
  refine wpQuiet_nil ?_
  intro _ hw'
  obtain ⟨sv, hw''⟩ := hw'
  subst hw''
  have HB2 := hide (below_nt (unhide HB1) sv.h)
  have HK2 := hide (show sv.w.cell? ⟨w.heap.size, 2, none⟩ = some (.slice A n c) from Abv.cell hk1 (unhide HK1).2.2 sv)
  have hk2 : w.heap.size < sv.w.heap.size := Nat.lt_of_lt_of_le hk1 sv.h.size
  go_wp2_with fail
  rw [← unhide HX0]
  clear p0 p1 c1 c2 HX0
  generalize sv.w = w2 at *
  go_loopw [3, 4] (fun v i wr => ∃ k : Nat, k ≤ n ∧ i = .int .i64 (k : Int) ∧ v = .string (txtN st sa xs k) ∧ Hid (Below w.heap.size w wr) ∧ Hid (Below w2.heap.size w2 wr)) (fun _ i _ => n - (intOf i).toNat)
  case atStart => exact ⟨0, Nat.zero_le _, rfl, rfl, HB2, Below.refl _ _⟩
  case round =>
    clear HB2
    obtain ⟨k, hk, rfl, rfl, hB, hB2⟩ := hrel
    have k2 : wr.cell? ⟨w.heap.size, 2, none⟩ = some (.slice A n c) := ((unhide hB2).cell (p := ⟨w.heap.size, 2, none⟩) hk2).trans (unhide HK2)
    by_cases hlt : k < n
    · obtain ⟨ad, x, rfl, hbx, hx, c0⟩ := (unhide HR wr (unhide hB)).get hlt
      have hxb := unhide HS x (List.mem_of_getElem? (unhide hx))
      have HE : Hid (txtN st sa xs (k + 1) = (txtN st sa xs k ++ ⟨#[32]⟩) ++ numB x) := by unfold Hid; rw [txtN, List.getD_eq_getElem?_getD, unhide hx, bytes_assoc]; rfl
      have HC := hide (numBel_any x wr (by omega) (by omega))
      have hz3 := numB_size x (by omega) (by omega)
      have hz4 := unhide HZ k (by have := unhide HL; omega)
      have hn24 : n ≤ 24 := by have := unhide HL; omega
      have l1 : (k : Int) < (n : Int) := by omega
      have l2 : (0 : Int) ≤ (k : Int) := by omega
      generalize numB x = bx at HE HC hz3
      generalize hT : txtN st sa xs k = tk at HE hz4
      clear hT hx hbx hxb
      go_wp2_with fail
      refine (unhide HC).mono ?_
      rintro e w3 ⟨rfl, hb⟩
      have HB3 := hide (below_nt (unhide hB) hb)
      have HB4 := hide (below_nt (unhide hB2) hb)
      clear hb HC c0 k2
      go_wp2_with fail
      go_roundw
      case rel => exact ⟨k + 1, by omega, by go_num, by rw [unhide HE], HB3, HB4⟩
      case measure => simp [intOf] <;> omega
    · obtain rfl : k = n := by omega
      have l1 : ¬ (k : Int) < (k : Int) := by omega
      go_wp2_with fail
      go_ret
      exact ⟨rfl, unhide hB⟩
set_option maxHeartbeats 2000000 in
set_option maxRecDepth 100000 in
theorem specTraceText_any (st sa : Int) (A : Option Addr) (n c : Nat) (xs : List Int) (w : World) (hr : RI w w.heap.size A n xs) (hn : n ≤ 1048576) :
    Calls Tryz.prog 8 #[.agg #[.int .i64 st, .int .i64 sa, .slice A n c]] w (RetSB w (trxR st sa xs).1 (trxR st sa xs).2) := by
  have HB0 := hide ((Below.refl w.heap.size w).alloc (Nat.le_refl _) (.cells #[.int .i64 st, .int .i64 sa, .slice A n c] 26))
  have HR := hide (fun (W : World) (hb : Below w.heap.size w W) => (hr.below hb).more hb.size)
  have HL := hide hr.len
  have HG := hide (l2Good_any st sa A n c xs (w.alloc (.cells #[.int .i64 st, .int .i64 sa, .slice A n c] 26)) (unhide HR _ (unhide HB0)) hn)
  have hkk : w.heap.size < (w.alloc (.cells #[.int .i64 st, .int .i64 sa, .slice A n c] 26)).heap.size := by simp
  have HK0 : Hid ((w.alloc (.cells #[.int .i64 st, .int .i64 sa, .slice A n c] 26)).cell? ⟨w.heap.size, 0, none⟩ = some (.int .i64 st) ∧ (w.alloc (.cells #[.int .i64 st, .int .i64 sa, .slice A n c] 26)).cell? ⟨w.heap.size, 1, none⟩ = some (.int .i64 sa) ∧ (w.alloc (.cells #[.int .i64 st, .int .i64 sa, .slice A n c] 26)).cell? ⟨w.heap.size, 2, none⟩ = some (.slice A n c)) := by unfold Hid; simp
  clear hr
  rcases hg : goodB st sa xs with _ | _
  · have HRR : Hid (trxR st sa xs = (ByteArray.empty, false)) := by unfold Hid trxR; rw [hg]; rfl
    rw [hg] at HG
    go_enter Tryz.func8, Tryz.ntmps8
    go_wp2_with fail
    refine (unhide HG).mono ?_
    rintro e w1 ⟨rfl, hb⟩
    have HB1 := hide (below_nt (unhide HB0) hb)
    clear hb
    go_wp2_with fail
    go_ret2
    exact ⟨by rw [unhide HRR]; rfl, unhide HB1⟩
  · have HRR : Hid (trxR st sa xs = (txtN st sa xs xs.length, true)) := by unfold Hid trxR; rw [hg]; rfl
    rw [hg] at HG
    have HT := hide (fun (W : World) (hb : Below w.heap.size w W) => l2Text_any st sa A n c xs W (unhide HR W hb) hg)
    clear hg
    go_enter Tryz.func8, Tryz.ntmps8
    go_wp2_with fail
    refine (unhide HG).mono ?_
    rintro e w1 ⟨rfl, hb⟩
    have HB1 := hide (below_nt (unhide HB0) hb)
    have k0 : w1.cell? ⟨w.heap.size, 0, none⟩ = some (.int .i64 st) := (hb.cell (p := ⟨w.heap.size, 0, none⟩) hkk).trans (unhide HK0).1
    have k1 : w1.cell? ⟨w.heap.size, 1, none⟩ = some (.int .i64 sa) := (hb.cell (p := ⟨w.heap.size, 1, none⟩) hkk).trans (unhide HK0).2.1
    have k2 : w1.cell? ⟨w.heap.size, 2, none⟩ = some (.slice A n c) := (hb.cell (p := ⟨w.heap.size, 2, none⟩) hkk).trans (unhide HK0).2.2
    clear hb HG HK0
    go_wp2_with fail
    refine (unhide HT _ (unhide HB1)).mono ?_
    rintro e w2 ⟨rfl, hb⟩
    have HB2 := hide (below_nt (unhide HB1) hb)
    clear hb k0 k1 k2
    go_wp2_with fail
    go_ret2
    exact ⟨by rw [unhide HRR, unhide HL]; rfl, unhide HB2⟩
end Go.Proofs.YtdpmpdhhjmbbcaaGreatDoor
