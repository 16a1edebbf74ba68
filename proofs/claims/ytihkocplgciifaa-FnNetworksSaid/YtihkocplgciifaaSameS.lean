/- A list of stations against the same list; a number that a list does not hold; how far a list's row may reach. -/
import Derived.Test.YtihkocplgciifaaProg
import Derived.Test.YtihkocplgciifaaRec
import Derived.Laws.StructEq
namespace Go.Proofs.Ytihkocplgciifaa
open Go.RowKit

theorem OwnS.cmx {w : World} {lo n c : Nat} {A : Option Addr} {xs : List St} (h : OwnS w lo A n c xs) : c ≤ 9223372036854775807 := by
  rcases h.2 with ⟨hv, h0⟩ | ⟨g, cap, cur, hv, hg, hh, hle, hm, _⟩
  · injection hv with _ _ h3
    omega
  · injection hv with _ _ h3
    unfold maxLen at hm
    omega
theorem run_neq_st (w : World) (s : St) : (Go.binOp .neq 26 (.agg #[.int .i64 s.id, .string s.nm, .int .i64 s.x, .int .i64 s.y, .int .i64 s.gn, .int .i64 s.lw, .int .i64 s.hg, .int .i64 s.ut]) (.agg #[.int .i64 s.id, .string s.nm, .int .i64 s.x, .int .i64 s.y, .int .i64 s.gn, .int .i64 s.lw, .int .i64 s.hg, .int .i64 s.ut])).run Try.prog w = .ok (.bool false) w := by
  rw [run_neq_struct, run_equalIn_agg _ 9999 _ _ _ (by kernel_rfl) (by kernel_rfl)]
  have e : (Try.prog.fieldsOf 26).toList.map (fun f => (f.name, f.type, f.offset)) = [("Id", 3, 0), ("Name", 9, 1), ("X", 3, 2), ("Y", 3, 3), ("Gain", 3, 4), ("Low", 3, 5), ("High", 3, 6), ("Until", 3, 7)] := by kernel_rfl
  have hi : ∀ (d : Nat) (a b : Int) (w : World), (Op.equalIn (d + 1) 3 (.int .i64 a) (.int .i64 b)).run Try.prog w = .ok (a == b) w := fun d a b w => run_equalIn_int w d _ _ _ a b Try.underlying3
  have hs : ∀ (d : Nat) (a b : ByteArray) (w : World), (Op.equalIn (d + 1) 9 (.string a) (.string b)).run Try.prog w = .ok (a.toList == b.toList) w := fun d a b w => run_equalIn_string w d _ a b Try.underlying9
  generalize (Try.prog.fieldsOf 26).toList = fs at e ⊢
  rcases fs with _ | ⟨f1, _ | ⟨f2, _ | ⟨f3, _ | ⟨f4, _ | ⟨f5, _ | ⟨f6, _ | ⟨f7, _ | ⟨f8, _ | ⟨f9, l⟩⟩⟩⟩⟩⟩⟩⟩⟩
  all_goals first | (simp at e; done) | skip
  simp only [List.map_cons, List.map_nil, List.cons.injEq, Prod.mk.injEq, and_true] at e
  obtain ⟨⟨n1, t1, o1⟩, ⟨n2, t2, o2⟩, ⟨n3, t3, o3⟩, ⟨n4, t4, o4⟩, ⟨n5, t5, o5⟩, ⟨n6, t6, o6⟩, ⟨n7, t7, o7⟩, n8, t8, o8⟩ := e
  simp [go_sem, Op.eqFields, part, hi, hs, n1, t1, o1, n2, t2, o2, n3, t3, o3, n4, t4, o4, n5, t5, o5, n6, t6, o6, n7, t7, o7, n8, t8, o8]
set_option maxHeartbeats 2000000 in
theorem rStations_same (A B : Option Addr) (n m c d L M : Nat) (xs : List St) (w : World) (hx : RS w L A n xs) (hy : RS w M B m xs) (hn : n ≤ 9223372036854775807) :
    Calls Try.prog 55 #[.slice A n c, .slice B m d] w fun e w' => e = .returned (.bool true) ∧ Below w.heap.size w w' := by
  have hnm : n = m := by have := hx.len; have := hy.len; omega
  subst hnm
  have HX := hide hx; have HY := hide hy; clear hx hy
  go_enter Try.func55, Try.ntmps55
  go_wp2
  go_loopw [5] (fun i wr => ∃ k : Nat, k ≤ n ∧ i = .int .i64 k ∧ Hid (∃ a, wr = w.drewN a)) (fun i _ => n - (intOf i).toNat)
  case atStart => exact ⟨0, Nat.zero_le _, rfl, 0, rfl⟩
  case round =>
    obtain ⟨k, hk, rfl, a, rfl⟩ := hrel
    by_cases hlt : k < n
    · obtain ⟨ad, s, rfl, _, hx, c0, c1, c2, c3, c4, c5, c6, c7⟩ := (unhide HX).get hlt
      obtain ⟨ae, t, rfl, _, hy, d0, d1, d2, d3, d4, d5, d6, d7⟩ := (unhide HY).get hlt
      obtain rfl : s = t := Option.some.inj ((unhide hx).symm.trans (unhide hy))
      have hE := fun W : World => run_neq_st W s
      clear hx hy
      go_wp2
      go_quiet (fail)
      go_wp2
      go_roundw
      case rel => exact ⟨k + 1, by omega, by go_num, _, rfl⟩
      case measure => simp [intOf]; omega
    · have e : k = n := by omega
      subst e
      go_wp2
      go_ret
      exact ⟨rfl, below_drewN (Below.refl _ _) _⟩
theorem rHas_no (A : Option Addr) (n c L : Nat) (xs : List Int) (x : Int) (w : World) (hx : RI w L A n xs) (hn : n ≤ 9223372036854775807) (hno : ∀ d ∈ xs, d ≠ x) :
    Calls Try.prog 56 #[.slice A n c, .int .i64 x] w fun e w' => e = .returned (.bool false) ∧ Below w.heap.size w w' := by
  have HX := hide hx; have HN := hide hno; clear hx hno
  go_enter Try.func56, Try.ntmps56
  go_wp2
  go_loopw [5] (fun i wr => ∃ k : Nat, k ≤ n ∧ i = .int .i64 k ∧ wr = w) (fun i _ => n - (intOf i).toNat)
  case atStart => exact ⟨0, Nat.zero_le _, rfl, rfl⟩
  case round =>
    obtain ⟨k, hk, rfl, rfl⟩ := hrel
    by_cases hlt : k < n
    · obtain ⟨ad, y, rfl, _, hy, hc⟩ := (unhide HX).get hlt
      have ht : (y == x) = false := by simpa using unhide HN y (List.mem_of_getElem? (unhide hy))
      clear hy
      go_wp2
      go_roundw
      case rel => exact ⟨k + 1, by omega, by go_num, by first | trivial | rfl⟩
      case measure => simp [intOf]; omega
    · have e : k = n := by omega
      subst e
      go_wp2
      go_ret
      exact ⟨rfl, Below.refl _ _⟩
end Go.Proofs.Ytihkocplgciifaa
