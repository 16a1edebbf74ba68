/- The laws' helpers on slices of strings: marks written, marks held. -/
import Derived.Test.YtibnindjdbkmcaaDoorProg
import Derived.Test.YtibnindjdbkmcaaDoorTxt
import Derived.Test.YtibnindjdbkmcaaDoorMarkT
import Derived.Test.YtibnindjdbkmcaaDoorAbove
namespace Go.Proofs.YtibnindjdbkmcaaDoor
open Go.RowKit

theorem markText_at (k : Int) (w : World) (h0 : 0 ≤ k) (hk : k ≤ 1000000000) :
    Calls Tryd.prog 20 #[.int .i64 k] w fun e w' => e = .returned (.string (mtxt k.toNat)) ∧ Below w.heap.size w w' := by
  obtain ⟨n, rfl⟩ : ∃ n : Nat, k = (n : Int) := ⟨k.toNat, by omega⟩
  exact markText_any n w (by omega)
/-- the n marks from k on -/
def marksT (k : Int) (n : Nat) : List ByteArray := (List.range n).map fun (i : Nat) => mtxt (k + (i : Int)).toNat
theorem marksT_get (k : Int) (n i : Nat) (h : i < n) : (marksT k n)[i]? = some (mtxt (k + (i : Int)).toNat) := by simp [marksT, h]
theorem marksT_len (k : Int) (n : Nat) : (marksT k n).length = n := by simp [marksT]
theorem markT_step (k : Int) (xs : List ByteArray) (n i : Nat) (hl : xs.length = n) (hi : i < n) : (marksT k i ++ xs.drop i).set i (mtxt (k + (i : Int)).toNat) = marksT k (i + 1) ++ xs.drop (i + 1) := by
  rw [List.set_append_right _ _ (by rw [marksT_len]; omega), marksT_len, Nat.sub_self, List.drop_eq_getElem_cons (by omega), List.set_cons_zero]
  simp [marksT, List.range_succ]
theorem grown_of_below {w w' : World} (h : Below w.heap.size w w') (row : Option Nat) : w.grownBy w' row := ⟨h.os, h.tape, h.output, h.size, fun k hk _ => h.block k hk⟩

set_option maxHeartbeats 1000000 in
theorem markStringS_any (A : Option Addr) (n c lo : Nat) (xs : List ByteArray) (k0 : Int) (w : World) (h : OwnT w lo A n c xs) (hn : n ≤ 2097152) (h0 : 0 ≤ k0) (h1 : k0 ≤ 100000000) :
    Calls Tryd.prog 8 #[.slice A n c, .int .i64 k0] w fun e w' => e = .returned (.int .i64 (k0 + n)) ∧ OwnT w' lo A n c (marksT k0 n) ∧ w.grownBy w' (Value.slice A n c).ownBlock := by
  have HO := hide h; clear h
  go_enter Tryd.func8, Tryd.ntmps8
  go_wp2
  go_loopw [1, 5] (fun q i wr => ∃ k : Nat, k ≤ n ∧ i = .int .i64 k ∧ q = .int .i64 (k0 + k) ∧ Hid (OwnT wr lo A n c (marksT k0 k ++ xs.drop k)) ∧ Hid (w.grownBy wr (Value.slice A n c).ownBlock)) (fun _ i _ => n - (intOf i).toNat)
  case atStart => exact ⟨0, Nat.zero_le _, rfl, by simp, by simpa [marksT, Hid] using unhide HO, World.grownBy.refl _ _⟩
  case round =>
    obtain ⟨k, hk, rfl, rfl, hO, hG⟩ := hrel
    by_cases hlt : k < n
    · go_wp2_with fail
      refine (markText_at (k0 + k) _ (by omega) (by omega)).mono ?_
      rintro e w1 ⟨rfl, hb⟩
      have hO1 := (unhide hO).below hb (Nat.le_refl _)
      have hG1 := grownBy_trans (unhide hG) (grown_of_below hb _)
      obtain ⟨g, y, rfl, hlo, hgl, hc2, hfz, hO2, hgr⟩ := OwnT.store hO1 hlt (mtxt (k0 + (k : Int)).toNat)
      rw [markT_step k0 xs n k (by have := (unhide HO).len; exact this) hlt] at hO2
      have HO2 := hide hO2
      have HG2 := hide (grownBy_trans hG1 hgr)
      clear hO2 hgr hO hG hO1 hG1 hb
      go_wp2_with fail
      go_roundw
      case rel => exact ⟨k + 1, by omega, by go_num, by go_num, HO2, HG2⟩
      case measure => simp [intOf]; omega
    · have e : k = n := by omega
      subst e
      go_wp2
      go_ret
      refine ⟨rfl, ?_, unhide hG⟩
      have := unhide hO
      rwa [List.drop_of_length_le (by have := (unhide HO).len; omega), List.append_nil] at this

set_option maxHeartbeats 1000000 in
theorem heldStringS_any (A : Option Addr) (n c : Nat) (k0 : Int) (w : World) (h : RT w w.heap.size A n (marksT k0 n)) (hn : n ≤ 2097152) (h0 : 0 ≤ k0) (h1 : k0 ≤ 100000000) :
    Calls Tryd.prog 9 #[.slice A n c, .int .i64 k0] w fun e w' => e = .returned (.int .i64 (k0 + n)) ∧ Below w.heap.size w w' := by
  have HR := hide h; clear h
  go_enter Tryd.func9, Tryd.ntmps9
  go_wp2
  go_loopw [1, 5] (fun q i wr => ∃ k : Nat, k ≤ n ∧ i = .int .i64 k ∧ q = .int .i64 (k0 + k) ∧ Hid (Below w.heap.size w wr)) (fun _ i _ => n - (intOf i).toNat)
  case atStart => exact ⟨0, Nat.zero_le _, rfl, by simp, Below.refl _ _⟩
  case round =>
    obtain ⟨k, hk, rfl, rfl, hB⟩ := hrel
    by_cases hlt : k < n
    · obtain ⟨ad, x, rfl, hbk, hx, hc0⟩ := ((unhide HR).below (unhide hB)).get hlt
      have e := unhide hx
      rw [marksT_get _ _ _ hlt] at e
      obtain rfl : mtxt (k0 + (k : Int)).toNat = x := Option.some.inj e
      clear hx e
      have p0 : ∀ s : Abv wr, s.w.cell? (ad.add k) = some (.string (mtxt (k0 + (k : Int)).toNat)) := Abv.cell (by rw [block_of_add]; exact Nat.lt_of_lt_of_le hbk (unhide hB).size) hc0
      have HM := hide (fun W => markText_at (k0 + k) W (by omega) (by omega))
      have ht : ((mtxt (k0 + (k : Int)).toNat).toList == (mtxt (k0 + (k : Int)).toNat).toList) = true := by simp
      generalize mtxt (k0 + (k : Int)).toNat = z at *
      have l1 : (k : Int) < (n : Int) := by omega
      have l2 : (0 : Int) ≤ (k : Int) := by omega
      clear hc0
      go_wp2
      refine wp_region_abv wr (by kernel_rfl) (by kernel_rfl) (Below.refl _ _) ?_
      repeat (go_big_quiet_step ((first | (go_at_call 20; exact Calls.abv (unhide HM _)))))
      refine wpQuiet_nil ?_
      intro _ hw'
      obtain ⟨s, hw''⟩ := hw'
      subst hw''
      go_wp2
      go_roundw
      case rel => exact ⟨k + 1, by omega, by go_num, by go_num, below_next (unhide hB) s.h⟩
      case measure => simp [intOf]; omega
    · have e : k = n := by omega
      subst e
      go_wp2
      go_ret
      exact ⟨rfl, unhide hB⟩
end Go.Proofs.YtibnindjdbkmcaaDoor
