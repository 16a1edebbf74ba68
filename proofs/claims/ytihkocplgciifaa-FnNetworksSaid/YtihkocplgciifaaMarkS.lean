/- The walks of the laws' helpers on slices of stations: marks written, marks held. (By gen_markS.py.) -/
import Derived.Test.YtihkocplgciifaaProg
import Derived.Test.YtihkocplgciifaaStS
import Derived.Test.YtihkocplgciifaaMarkT
namespace Go.Proofs.Ytihkocplgciifaa
open Go.RowKit

theorem markText_int (k : Int) (w : World) (h0 : 0 ≤ k) (hk : k ≤ 1000000000) :
    Calls Try.prog 87 #[.int .i64 k] w fun e w' => e = .returned (.string (mtxt k.toNat)) ∧ Below w.heap.size w w' := by
  obtain ⟨m, rfl⟩ := Int.eq_ofNat_of_zero_le h0
  have := markText_any m w (by omega)
  simpa using this
/-- the station of marks from k on -/
def mkSt (k : Int) : St := ⟨k, mtxt (k + 1).toNat, k + 1 + 1, k + 1 + 1 + 1, k + 1 + 1 + 1 + 1, k + 1 + 1 + 1 + 1 + 1, k + 1 + 1 + 1 + 1 + 1 + 1, k + 1 + 1 + 1 + 1 + 1 + 1 + 1⟩
def marksS (k : Int) (n : Nat) : List St := (List.range n).map fun (i : Nat) => mkSt (k + 8 * (i : Int))
theorem marksS_get (k : Int) (n i : Nat) (h : i < n) : (marksS k n)[i]? = some (mkSt (k + 8 * (i : Int))) := by simp [marksS, h]
theorem marksS_len (k : Int) (n : Nat) : (marksS k n).length = n := by simp [marksS]
theorem markS_step (k : Int) (xs : List St) (n i : Nat) (hl : xs.length = n) (hi : i < n) : (marksS k i ++ xs.drop i).set i (mkSt (k + 8 * (i : Int))) = marksS k (i + 1) ++ xs.drop (i + 1) := by
  have l1 := marksS_len k i
  rw [List.set_append_right _ _ (by omega), l1, Nat.sub_self, List.drop_eq_getElem_cons (show i < xs.length by omega)]
  show marksS k i ++ (mkSt (k + 8 * (i : Int)) :: xs.drop (i + 1)) = _
  unfold marksS
  rw [List.range_succ, List.map_append, List.append_assoc]
  rfl
theorem ownsRow_below {w w' : World} {lo : Nat} {e : TypeId} {s : Nat} {v : Value} {n : Nat} {xs : List Value} (h : w.ownsRow lo e s v n xs) (hb : Below w.heap.size w w') : w'.ownsRow lo e s v n xs := by
  refine ⟨h.1, ?_⟩
  rcases h.2 with hn | ⟨g, cap, cur, hv, hg, hh, rest⟩
  · exact .inl hn
  · have hlt : g < w.heap.size := (Array.getElem?_eq_some_iff.1 hh).1
    exact .inr ⟨g, cap, cur, hv, hg, (hb.block g hlt).trans hh, rest⟩
theorem grownBy_below {w w1 w' : World} {row : Option Nat} (h : w.grownBy w1 row) (hb : Below w1.heap.size w1 w') : w.grownBy w' row :=
  ⟨hb.os.trans h.os, hb.tape.trans h.tape, hb.output.trans h.output, Nat.le_trans h.size hb.size, fun i hi hn => (hb.block i (Nat.lt_of_lt_of_le hi h.size)).trans (h.block i hi hn)⟩
/-- the world behind the seven later stores at place k of block g -/
def put7 (w : World) (g k : Nat) (s : St) : World :=
  ((((((w.setCell ⟨g, k * 8 + 1, none⟩ (.string s.nm)).setCell ⟨g, k * 8 + 2, none⟩ (.int .i64 s.x)).setCell ⟨g, k * 8 + 3, none⟩ (.int .i64 s.y)).setCell ⟨g, k * 8 + 4, none⟩ (.int .i64 s.gn)).setCell ⟨g, k * 8 + 5, none⟩ (.int .i64 s.lw)).setCell ⟨g, k * 8 + 6, none⟩ (.int .i64 s.hg)).setCell ⟨g, k * 8 + 7, none⟩ (.int .i64 s.ut)
theorem OwnS.late {w w1 : World} {lo g n c k : Nat} {xs : List St} (h : OwnS w lo (some ⟨g, 0, none⟩) n c xs) (hk : k < n) (s : St) (hb : Below w.heap.size (w.setCell ⟨g, k * 8, none⟩ (.int .i64 s.id)) w1) :
    (∀ j, 1 ≤ j → j < 8 → ∃ u, w1.cell? ⟨g, k * 8 + j, none⟩ = some u) ∧ (∀ j, w1.frozen? ⟨g, j, none⟩ = false) ∧ OwnS (put7 w1 g k s) lo (some ⟨g, 0, none⟩) n c (xs.set k s) ∧ w.grownBy (put7 w1 g k s) (some g) := by
  obtain ⟨h0, g0⟩ := World.ownsRow.stored h (k * 8) (.int .i64 s.id)
  have ez : (w.setCell ⟨g, k * 8, none⟩ (.int .i64 s.id)).heap.size = w.heap.size := by simp [World.setCell]
  have hb' : Below (w.setCell ⟨g, k * 8, none⟩ (.int .i64 s.id)).heap.size (w.setCell ⟨g, k * 8, none⟩ (.int .i64 s.id)) w1 := by rw [ez]; exact hb
  have k0 := ownsRow_below h0 hb'
  have gg := grownBy_below g0 hb'
  obtain ⟨h1, g1⟩ := World.ownsRow.stored k0 (k * 8 + 1) (.string s.nm)
  obtain ⟨h2, g2⟩ := World.ownsRow.stored h1 (k * 8 + 2) (.int .i64 s.x)
  obtain ⟨h3, g3⟩ := World.ownsRow.stored h2 (k * 8 + 3) (.int .i64 s.y)
  obtain ⟨h4, g4⟩ := World.ownsRow.stored h3 (k * 8 + 4) (.int .i64 s.gn)
  obtain ⟨h5, g5⟩ := World.ownsRow.stored h4 (k * 8 + 5) (.int .i64 s.lw)
  obtain ⟨h6, g6⟩ := World.ownsRow.stored h5 (k * 8 + 6) (.int .i64 s.hg)
  obtain ⟨h7, g7⟩ := World.ownsRow.stored h6 (k * 8 + 7) (.int .i64 s.ut)
  have hl : (cS xs).length = n * 8 := h.1
  refine ⟨fun j hj1 hj => ?_, fun j => World.ownsRow.frozenAt k0 _, ?_, grownBy_trans (grownBy_trans (grownBy_trans (grownBy_trans (grownBy_trans (grownBy_trans (grownBy_trans gg g1) g2) g3) g4) g5) g6) g7⟩
  · rw [World.ownsRow.cellAt k0 (k * 8 + j) (by omega), List.getElem?_set_ne (by omega)]
    exact ⟨_, List.getElem?_eq_getElem (by omega)⟩
  · unfold OwnS
    rw [← cS_set]
    exact h7

set_option maxHeartbeats 2000000 in
set_option maxRecDepth 100000 in
theorem markStationS_any (A : Option Addr) (n c lo : Nat) (xs : List St) (k0 : Int) (w : World) (h : OwnS w lo A n c xs) (hn : n ≤ 2097152) (h0 : 0 ≤ k0) (h1 : k0 ≤ 100000000) :
    Calls Try.prog 29 #[.slice A n c, .int .i64 k0] w fun e w' => e = .returned (.int .i64 (k0 + 8 * n)) ∧ OwnS w' lo A n c (marksS k0 n) ∧ w.grownBy w' (Value.slice A n c).ownBlock := by
  have HO := hide h; clear h
  go_enter Try.func29, Try.ntmps29
  go_wp2
  go_loopw [1, 5] (fun q i wr => ∃ k : Nat, k ≤ n ∧ i = .int .i64 k ∧ q = .int .i64 (k0 + 8 * k) ∧ Hid (OwnS wr lo A n c (marksS k0 k ++ xs.drop k)) ∧ Hid (w.grownBy wr (Value.slice A n c).ownBlock)) (fun _ i _ => n - (intOf i).toNat)
  case atStart => exact ⟨0, Nat.zero_le _, rfl, by simp, by simpa [marksS, Hid] using unhide HO, World.grownBy.refl _ _⟩
  case round =>
    obtain ⟨k, hk, rfl, rfl, hO, hG⟩ := hrel
    by_cases hlt : k < n
    · obtain ⟨g, rfl, hlo, hgl, _⟩ := (unhide hO).form (show 0 < n by omega)
      obtain ⟨g', hg', _, _, ⟨d0, _⟩, hf, _, _⟩ := (unhide hO).store hlt zSt
      obtain rfl : g = g' := by simpa using hg'
      have f0 := hf (k * 8)
      have hlx := (unhide HO).len
      have HL := hide (fun (w1 : World) hb => OwnS.late (w1 := w1) (unhide hO) hlt (mkSt (k0 + 8 * k)) hb)
      have HT := hide (fun W => markText_int (k0 + 8 * k + 1) W (by omega) (by omega))
      have HSt := hide (markS_step k0 xs n k hlx hlt)
      clear hg' hf hlx
      go_wp2_with fail
      refine (unhide HT _).mono ?_
      rintro e w1 ⟨rfl, hb⟩
      have hb' : Below wr.heap.size (wr.setCell ⟨g, k * 8, none⟩ (.int .i64 (k0 + 8 * (k : Int)))) w1 := by
        have e : (wr.setCell ⟨g, k * 8, none⟩ (.int .i64 (k0 + 8 * (k : Int)))).heap.size = wr.heap.size := by simp [World.setCell]
        rwa [e] at hb
      obtain ⟨hcell, hfr, hO2, hG2⟩ := unhide HL w1 hb'
      obtain ⟨u1, e1⟩ := hcell 1 (by omega) (by omega)
      obtain ⟨u2, e2⟩ := hcell 2 (by omega) (by omega)
      obtain ⟨u3, e3⟩ := hcell 3 (by omega) (by omega)
      obtain ⟨u4, e4⟩ := hcell 4 (by omega) (by omega)
      obtain ⟨u5, e5⟩ := hcell 5 (by omega) (by omega)
      obtain ⟨u6, e6⟩ := hcell 6 (by omega) (by omega)
      obtain ⟨u7, e7⟩ := hcell 7 (by omega) (by omega)
      have q1 := hfr (k * 8 + 1)
      have q2 := hfr (k * 8 + 2)
      have q3 := hfr (k * 8 + 3)
      have q4 := hfr (k * 8 + 4)
      have q5 := hfr (k * 8 + 5)
      have q6 := hfr (k * 8 + 6)
      have q7 := hfr (k * 8 + 7)
      rw [unhide HSt] at hO2
      have HO2 := hide hO2
      have HG2 := hide (grownBy_trans (unhide hG) hG2)
      clear hO2 hG2 hO hG hcell hfr hb hb' HL HT HSt d0 f0
      go_wp2_with fail
      go_roundw
      case rel => exact ⟨k + 1, by omega, by go_num, by go_num, HO2, HG2⟩
      case measure => simp [intOf]; omega
    · have e : k = n := by omega
      subst e
      go_wp2
      go_ret
      refine ⟨rfl, ?_, unhide hG⟩
      have := unhide hO
      rwa [List.drop_of_length_le (by have := (unhide HO).len; omega), List.append_nil] at this

end Go.Proofs.Ytihkocplgciifaa
