/- Chapter 5, the walks: a list of marks, of drifts, against the same list. -/
import Derived.Test.YtmpgafanlgnpeaaProg
import Derived.Test.YtmpgafanlgnpeaaCompact
import Derived.Laws.StructEq
namespace Go.Proofs.Ytmpgafanlgnpeaa
open Go.RowKit

theorem run_neq_drift (w : World) (a b c d : Int) : (Go.binOp .neq 64 (.agg #[.int .i64 a, .int .i64 b]) (.agg #[.int .i64 c, .int .i64 d])).run Try.prog w = .ok (.bool (!(a == c && b == d))) w := by
  rw [run_neq_struct, run_equalIn_agg _ 9999 _ _ _ (by kernel_rfl) (by kernel_rfl)]
  have e : (Try.prog.fieldsOf 64).toList.map (fun f => (f.name, f.type, f.offset)) = [("Num", 3, 0), ("Den", 3, 1)] := by kernel_rfl
  have hi : ∀ (d : Nat) (a b : Int) (w : World), (Op.equalIn (d + 1) 3 (.int .i64 a) (.int .i64 b)).run Try.prog w = .ok (a == b) w := fun d a b w => run_equalIn_int w d _ _ _ a b Try.underlying3
  generalize (Try.prog.fieldsOf 64).toList = fs at e ⊢
  rcases fs with _ | ⟨f1, _ | ⟨f2, _ | ⟨f3, l⟩⟩⟩
  · cases e
  · simp at e
  · simp only [List.map_cons, List.map_nil, List.cons.injEq, Prod.mk.injEq, and_true] at e
    obtain ⟨⟨n1, t1, o1⟩, n2, t2, o2⟩ := e
    cases h1 : (a == c) <;> cases h2 : (b == d) <;> simp [go_sem, Op.eqFields, part, hi, h1, h2, n1, t1, o1, n2, t2, o2]
  · simp at e
theorem rMarks_same (A B : Option Addr) (n m c d L M : Nat) (xs : List (Int × Int)) (w : World) (hx : RP w L A n xs) (hy : RP w M B m xs) (hn : n ≤ 9223372036854775807) :
    Calls Try.prog 54 #[.slice A n c, .slice B m d] w fun e w' => e = .returned (.bool true) ∧ Below w.heap.size w w' := by
  have hnm : n = m := by have := hx.len; have := hy.len; omega
  subst hnm
  have HX := hide hx; have HY := hide hy; clear hx hy
  go_enter Try.func54, Try.ntmps54
  go_wp2
  go_loopw [5] (fun i wr => ∃ k : Nat, k ≤ n ∧ i = .int .i64 k ∧ Hid (∃ a, wr = w.drewN a)) (fun i _ => n - (intOf i).toNat)
  case atStart => exact ⟨0, Nat.zero_le _, rfl, 0, rfl⟩
  case round =>
    obtain ⟨k, hk, rfl, a, rfl⟩ := hrel
    by_cases hlt : k < n
    · obtain ⟨ad, x, y, rfl, _, hx, c0, c1⟩ := (unhide HX).get hlt
      obtain ⟨ae, x', y', rfl, _, hy, d0, d1⟩ := (unhide HY).get hlt
      obtain ⟨e1, e2⟩ := Prod.mk.inj (Option.some.inj ((unhide hx).symm.trans (unhide hy)))
      subst e1 e2
      have hE : ∀ W, (Go.binOp .neq 43 (.agg #[.int .i64 x, .int .i64 y]) (.agg #[.int .i64 x, .int .i64 y])).run Try.prog W = .ok (.bool false) W := fun W => by rw [run_neq_mark]; simp
      clear hx hy
      go_wp2
      go_quiet (fail)
      go_wp2
      go_roundw
      case rel => exact ⟨k + 1, by omega, by go_num, _, rfl⟩
      case measure => simp [intOf]; omega
    · have e : k = n := by omega
      subst e
      go_wp2
      go_ret
      exact ⟨rfl, below_drewN (Below.refl _ _) _⟩
theorem rDrifts_same (A B : Option Addr) (n m c d L M : Nat) (xs : List (Int × Int)) (w : World) (hx : RP w L A n xs) (hy : RP w M B m xs) (hn : n ≤ 9223372036854775807) :
    Calls Try.prog 57 #[.slice A n c, .slice B m d] w fun e w' => e = .returned (.bool true) ∧ Below w.heap.size w w' := by
  have hnm : n = m := by have := hx.len; have := hy.len; omega
  subst hnm
  have HX := hide hx; have HY := hide hy; clear hx hy
  go_enter Try.func57, Try.ntmps57
  go_wp2
  go_loopw [5] (fun i wr => ∃ k : Nat, k ≤ n ∧ i = .int .i64 k ∧ Hid (∃ a, wr = w.drewN a)) (fun i _ => n - (intOf i).toNat)
  case atStart => exact ⟨0, Nat.zero_le _, rfl, 0, rfl⟩
  case round =>
    obtain ⟨k, hk, rfl, a, rfl⟩ := hrel
    by_cases hlt : k < n
    · obtain ⟨ad, x, y, rfl, _, hx, c0, c1⟩ := (unhide HX).get hlt
      obtain ⟨ae, x', y', rfl, _, hy, d0, d1⟩ := (unhide HY).get hlt
      obtain ⟨e1, e2⟩ := Prod.mk.inj (Option.some.inj ((unhide hx).symm.trans (unhide hy)))
      subst e1 e2
      have hE : ∀ W, (Go.binOp .neq 64 (.agg #[.int .i64 x, .int .i64 y]) (.agg #[.int .i64 x, .int .i64 y])).run Try.prog W = .ok (.bool false) W := fun W => by rw [run_neq_drift]; simp
      clear hx hy
      go_wp2
      go_quiet (fail)
      go_wp2
      go_roundw
      case rel => exact ⟨k + 1, by omega, by go_num, _, rfl⟩
      case measure => simp [intOf]; omega
    · have e : k = n := by omega
      subst e
      go_wp2
      go_ret
      exact ⟨rfl, below_drewN (Below.refl _ _) _⟩
end Go.Proofs.Ytmpgafanlgnpeaa
