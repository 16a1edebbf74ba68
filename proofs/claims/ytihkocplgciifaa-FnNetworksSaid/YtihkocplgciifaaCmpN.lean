/- The comparison of two stations by their distances. (By gen_sortS.py.) -/
import Derived.Test.YtihkocplgciifaaProg
import Derived.Test.YtihkocplgciifaaRec
import Derived.Test.YtihkocplgciifaaAbove
namespace Go.Proofs.Ytihkocplgciifaa
open Go.RowKit

/-- the square of a station's distance, as the program counts it -/
def sqI (a b : Int) : Int := IntKind.i64.wrap (IntKind.i64.wrap (a * a) + IntKind.i64.wrap (b * b))
def sqK (X Y : Int) (s : St) : Int := sqI (IntKind.i64.wrap (s.x - X)) (IntKind.i64.wrap (s.y - Y))
/-- the order of two numbers, as cmp.Compare says it -/
def cmpI (a b : Int) : Int := if a < b then -1 else if b < a then 1 else 0
theorem isNaN_any (a : Int) (w : World) : Calls Try.prog 113 #[.int .i64 a] w fun e w' => e = .returned (.bool false) ∧ w = w' := by
  have h : (a != a) = false := by simp
  go_enter Try.func113, Try.ntmps113
  go_wp2
  go_ret
  exact ⟨rfl, rfl⟩
theorem Compare_any (a b : Int) (w : World) : Calls Try.prog 84 #[.int .i64 a, .int .i64 b] w fun e w' => e = .returned (.int .i64 (cmpI a b)) ∧ w = w' := by
  rcases h1 : decide (a < b) with _ | _
  · rcases h2 : decide (b < a) with _ | _
    · have e : Hid (cmpI a b = 0) := by unfold Hid cmpI; rw [if_neg (of_decide_eq_false h1), if_neg (of_decide_eq_false h2)]
      go_enter Try.func84, Try.ntmps84
      go_wp2_with (go_at_call 113; refine (isNaN_any _ _).mono ?_; rintro e w' ⟨rfl, rfl⟩)
      go_ret
      exact ⟨ret_int (unhide e).symm, rfl⟩
    · have e : Hid (cmpI a b = 1) := by unfold Hid cmpI; rw [if_neg (of_decide_eq_false h1), if_pos (of_decide_eq_true h2)]
      go_enter Try.func84, Try.ntmps84
      go_wp2_with (go_at_call 113; refine (isNaN_any _ _).mono ?_; rintro e w' ⟨rfl, rfl⟩)
      go_ret
      exact ⟨ret_int (unhide e).symm, rfl⟩
  · have e : Hid (cmpI a b = -1) := by unfold Hid cmpI; rw [if_pos (of_decide_eq_true h1)]
    go_enter Try.func84, Try.ntmps84
    go_wp2_with (go_at_call 113; refine (isNaN_any _ _).mono ?_; rintro e w' ⟨rfl, rfl⟩)
    go_ret
    exact ⟨ret_int (unhide e).symm, rfl⟩
theorem square_any (a b : Int) (w : World) : Calls Try.prog 85 #[.int .i64 a, .int .i64 b] w fun e w' => e = .returned (.int .i64 (sqI a b)) ∧ w = w' := by
  go_enter Try.func85, Try.ntmps85
  have hq : sqI a b = RowKit.wrap64 (RowKit.wrap64 (a * a) + RowKit.wrap64 (b * b)) := by unfold sqI; rw [IntWalk.i64_left, IntWalk.i64_left, IntWalk.i64_left]
  rw [hq]
  clear hq
  go_wp2_with fail
  go_ret
  exact ⟨rfl, rfl⟩

set_option maxHeartbeats 2000000 in
set_option maxRecDepth 100000 in
theorem cmp_near (X Y : Int) (p1 p2 : Addr) (s t : St) (w : World) (h1 : w.cell? p1 = some (.int .i64 X)) (h2 : w.cell? p2 = some (.int .i64 Y)) : Calls Try.prog 83 #[.agg #[.int .i64 s.id, .string s.nm, .int .i64 s.x, .int .i64 s.y, .int .i64 s.gn, .int .i64 s.lw, .int .i64 s.hg, .int .i64 s.ut], .agg #[.int .i64 t.id, .string t.nm, .int .i64 t.x, .int .i64 t.y, .int .i64 t.gn, .int .i64 t.lw, .int .i64 t.hg, .int .i64 t.ut], .pointer (some p1), .pointer (some p2)] w fun e w' => e = .returned (.int .i64 (cmpI (sqK X Y s) (sqK X Y t))) ∧ Below w.heap.size w w' := by
  have hl1 := World.block_lt_of_cell? w p1 h1
  have hl2 := World.block_lt_of_cell? w p2 h2
  have hd1 := fun o o' : Obj => (World.cell?_alloc_lt (w.alloc o) o' p1 (by simp; omega)).trans ((World.cell?_alloc_lt w o p1 hl1).trans h1)
  have hd2 := fun o o' : Obj => (World.cell?_alloc_lt (w.alloc o) o' p2 (by simp; omega)).trans ((World.cell?_alloc_lt w o p2 hl2).trans h2)
  have HC := hide (fun W => Compare_any (sqK X Y s) (sqK X Y t) W)
  have HQ1 := hide (fun W => square_any (IntKind.i64.wrap (s.x - X)) (IntKind.i64.wrap (s.y - Y)) W)
  have HQ2 := hide (fun W => square_any (IntKind.i64.wrap (t.x - X)) (IntKind.i64.wrap (t.y - Y)) W)
  unfold sqK at HC ⊢
  generalize sqI (IntKind.i64.wrap (s.x - X)) (IntKind.i64.wrap (s.y - Y)) = q1 at HC HQ1 ⊢
  generalize sqI (IntKind.i64.wrap (t.x - X)) (IntKind.i64.wrap (t.y - Y)) = q2 at HC HQ2 ⊢
  generalize cmpI q1 q2 = r at *
  go_enter Try.func83, Try.ntmps83
  go_wp2_with fail
  go_quiet ((first | (go_at_call 85; first | with_reducible exact Calls.quiet_of_same ((unhide HQ1 _).mono fun _ _ ⟨a, b⟩ => ⟨a, b.symm⟩) | with_reducible exact Calls.quiet_of_same ((unhide HQ2 _).mono fun _ _ ⟨a, b⟩ => ⟨a, b.symm⟩)) | (go_at_call 84; exact Calls.quiet_of_same ((unhide HC _).mono fun _ _ ⟨a, b⟩ => ⟨a, b.symm⟩))))
  go_wp2_with fail
  go_ret
  exact ⟨rfl, (by repeat (first | exact Below.refl _ _ | refine below_drewN ?_ _ | refine Below.drew ?_ | refine Below.alloc ?_ (by simp <;> omega) _))⟩

end Go.Proofs.Ytihkocplgciifaa
