/- Chapter 5, the walk: slices.Compact at marks, in place. -/
import Derived.Test.YtmpgafanlgnpeaaProg
import Derived.Test.YtmpgafanlgnpeaaAddB
import Derived.Test.YtmpgafanlgnpeaaMergePlain
import Derived.Laws.StructEq
namespace Go.Proofs.Ytmpgafanlgnpeaa
open Go.RowKit

theorem run_eql_mark (w : World) (a b c d : Int) : (Go.binOp .eql 43 (.agg #[.int .i64 a, .int .i64 b]) (.agg #[.int .i64 c, .int .i64 d])).run Try.prog w = .ok (.bool (a == c && b == d)) w := by
  rw [run_eql_struct, run_equalIn_agg _ 9999 _ _ _ (by kernel_rfl) (by kernel_rfl)]
  have e : (Try.prog.fieldsOf 43).toList.map (fun f => (f.name, f.type, f.offset)) = [("Shown", 3, 0), ("True", 3, 1)] := by kernel_rfl
  have hi : ∀ (d : Nat) (a b : Int) (w : World), (Op.equalIn (d + 1) 3 (.int .i64 a) (.int .i64 b)).run Try.prog w = .ok (a == b) w := fun d a b w => run_equalIn_int w d _ _ _ a b Try.underlying3
  generalize (Try.prog.fieldsOf 43).toList = fs at e ⊢
  rcases fs with _ | ⟨f1, _ | ⟨f2, _ | ⟨f3, l⟩⟩⟩
  · cases e
  · simp at e
  · simp only [List.map_cons, List.map_nil, List.cons.injEq, Prod.mk.injEq, and_true] at e
    obtain ⟨⟨n1, t1, o1⟩, n2, t2, o2⟩ := e
    cases h1 : (a == c) <;> cases h2 : (b == d) <;> simp [go_sem, Op.eqFields, part, hi, h1, h2, n1, t1, o1, n2, t2, o2]
  · simp at e
theorem run_neq_mark (w : World) (a b c d : Int) : (Go.binOp .neq 43 (.agg #[.int .i64 a, .int .i64 b]) (.agg #[.int .i64 c, .int .i64 d])).run Try.prog w = .ok (.bool (!(a == c && b == d))) w := by
  rw [run_neq_struct, run_equalIn_agg _ 9999 _ _ _ (by kernel_rfl) (by kernel_rfl)]
  have e : (Try.prog.fieldsOf 43).toList.map (fun f => (f.name, f.type, f.offset)) = [("Shown", 3, 0), ("True", 3, 1)] := by kernel_rfl
  have hi : ∀ (d : Nat) (a b : Int) (w : World), (Op.equalIn (d + 1) 3 (.int .i64 a) (.int .i64 b)).run Try.prog w = .ok (a == b) w := fun d a b w => run_equalIn_int w d _ _ _ a b Try.underlying3
  generalize (Try.prog.fieldsOf 43).toList = fs at e ⊢
  rcases fs with _ | ⟨f1, _ | ⟨f2, _ | ⟨f3, l⟩⟩⟩
  · cases e
  · simp at e
  · simp only [List.map_cons, List.map_nil, List.cons.injEq, Prod.mk.injEq, and_true] at e
    obtain ⟨⟨n1, t1, o1⟩, n2, t2, o2⟩ := e
    cases h1 : (a == c) <;> cases h2 : (b == d) <;> simp [go_sem, Op.eqFields, part, hi, h1, h2, n1, t1, o1, n2, t2, o2]
  · simp at e
theorem noGuard : Try.prog.eqGuardType Try.prog.depth 43 = false := by kernel_rfl
theorem zero_ones (r : Nat) : ∀ v ∈ (Builtin.zeroCells (Value.agg #[.int .i64 0, .int .i64 0]).cells r).toList, v.oneCell' = true := by
  intro v hv
  unfold Builtin.zeroCells at hv
  rw [Array.toList_map] at hv
  obtain ⟨i, _, rfl⟩ := List.mem_map.1 hv
  rcases (show i % 2 = 0 ∨ i % 2 = 1 by omega) with h | h
  · show ((#[Value.int .i64 0, Value.int .i64 0] : Array Value)[i % 2]!).oneCell' = true
    rw [h]; rfl
  · show ((#[Value.int .i64 0, Value.int .i64 0] : Array Value)[i % 2]!).oneCell' = true
    rw [h]; rfl
/-- clear at r marks -/
theorem run_clear_many (w : World) (ty : TypeId) (g o c r : Nat) (hr : 0 < r) (hc : ∀ j, j < r * 2 → (w.cell? ⟨g, o + 0 + j, none⟩).isSome = true) (hf : ∀ j, j < r * 2 → w.frozen? ⟨g, o + 0 + j, none⟩ = false) :
    (Builtin.clear_ #[25] ty #[.slice (some ⟨g, o, none⟩) r c]).run Try.prog w = .ok (.tuple #[]) (w.setCells g o (Builtin.zeroCells (Value.agg #[.int .i64 0, .int .i64 0]).cells r).toList) := by
  have hl : (Builtin.zeroCells (Value.agg #[.int .i64 0, .int .i64 0]).cells r).toList.length = r * 2 := by rw [Array.length_toList, size_zeroCells]; rfl
  have hst := run_storeCells_cells (P := Try.prog) g o (Builtin.zeroCells (Value.agg #[.int .i64 0, .int .i64 0]).cells r).toList 0 w (fun j hj => hc j (by omega)) (fun j hj => hf j (by omega)) (zero_ones r)
  obtain ⟨r, rfl⟩ : ∃ q, r = q + 1 := ⟨r - 1, by omega⟩
  simp only [Nat.add_zero] at hst
  simp [Builtin.clear_, run_underlying Try.underlying25, zeroV, hst]
theorem own_beyonds {lo g m c : Nat} {E : TypeId} {xs : List (Int × Int)} : ∀ (vs : List Value) (o : Nat) (w : World), OwnP w lo E (some ⟨g, 0, none⟩) m c xs → m * 2 ≤ o → OwnP (w.setCells g o vs) lo E (some ⟨g, 0, none⟩) m c xs ∧ w.grownBy (w.setCells g o vs) (some g)
  | [], _, w, h, _ => ⟨h, World.grownBy.refl _ _⟩
  | v :: vs, o, w, h, ho => by
    obtain ⟨h1, h2⟩ := own_beyonds vs (o + 1) (w.setCell ⟨g, o, none⟩ v) (ownP_beyond h o ho v) (by omega)
    exact ⟨h1, grownBy_trans (grown_set w ⟨g, o, none⟩ v) h2⟩
/-- marks come back, in their own memory -/
def RetOwn (w : World) (lo : Nat) (A : Option Addr) (n c : Nat) (ys : List (Int × Int)) (e : Ending) (w' : World) : Prop := ∃ m, e = .returned (.slice A m c) ∧ OwnP w' lo 43 A m c ys ∧ w.grownBy w' (Value.slice A n c).ownBlock
theorem own_mem {w : World} {lo g n c : Nat} {E : TypeId} {xs : List (Int × Int)} (h : OwnP w lo E (some ⟨g, 0, none⟩) n c xs) : c ≤ 9223372036854775807 := by
  rcases h.2 with ⟨hv, h0⟩ | ⟨g', cap, cur, hv, hg, hh, hle, hm, hs, ht⟩
  · cases hv
  · injection hv with h1 h2 h3
    unfold maxLen at hm
    omega
theorem grown_drewN' {a b : World} {row : Option Nat} (h : a.grownBy b row) (k : Nat) : a.grownBy (b.drewN k) row := ⟨h.os, h.tape, h.output, h.size, h.block⟩
theorem OwnP.drewN {w : World} {lo n c : Nat} {E : TypeId} {A : Option Addr} {xs : List (Int × Int)} (h : OwnP w lo E A n c xs) (k : Nat) : OwnP (w.drewN k) lo E A n c xs := h.below (below_drewN (Below.refl _ _) k) (Nat.le_refl _)

set_option maxHeartbeats 2000000 in
set_option maxRecDepth 100000 in
theorem Compact_big (lo g n c : Nat) (xs : List (Int × Int)) (w : World) (h : OwnP w lo 43 (some ⟨g, 0, none⟩) n c xs) (h2 : 2 ≤ n) (hn : n ≤ 4194304) :
    Calls Try.prog 82 #[.slice (some ⟨g, 0, none⟩) n c] w (RetOwn w lo (some ⟨g, 0, none⟩) n c (cmpct xs)) := by
  have HL := hide h.len
  have hcap := h.cap
  have hcm := own_mem h
  have HO := hide h
  clear h
  go_enter Try.func82, Try.ntmps82
  go_wp2_with fail
  go_loopw [3] (fun i wr => ∃ r : Nat, r + 1 ≤ n ∧ i = .int .i64 ((r : Int) + 1) ∧ Hid (cmpct (xs.take (r + 1)) = xs.take (r + 1)) ∧ Hid (OwnP wr lo 43 (some ⟨g, 0, none⟩) n c xs) ∧ Hid (w.grownBy wr (some g))) (fun i _ => n - (intOf i).toNat)
  case atStart => exact ⟨0, by omega, rfl, by unfold Hid; rcases xs with _ | ⟨x, l⟩ <;> rfl, HO, World.grownBy.refl _ _⟩
  case round =>
    obtain ⟨r, hr, rfl, hC, hO, hG⟩ := hrel
    by_cases hlt : r + 1 < n
    · obtain ⟨x0, x1, hx, c0, c1, f0, f1⟩ := (unhide hO).el (j := r) (by omega)
      obtain ⟨y0, y1, hy, d0, d1, e0, e1⟩ := (unhide hO).el (j := r + 1) (by omega)
      have l3 : (r : Int) < (n : Int) := by omega
      have l4 : (0 : Int) ≤ (r : Int) := by omega
      have l5 : (r : Int) + 1 < (n : Int) := by omega
      have l6 : (0 : Int) ≤ (r : Int) + 1 := by omega
      have HS1 : Hid (IntKind.i64.wrap (r : Int) = (r : Int)) := IntWalk.i64_in _ (by omega)
      have q1 := noGuard
      rcases ht : (y0 == x0 && y1 == x1) with _ | _
      · have hE : ∀ W, (Go.binOp .eql 43 (.agg #[.int .i64 y0, .int .i64 y1]) (.agg #[.int .i64 x0, .int .i64 x1])).run Try.prog W = .ok (.bool false) W := fun W => by rw [run_eql_mark, ht]
        have HC2 : Hid (cmpct (xs.take (r + 1 + 1)) = xs.take (r + 1 + 1)) := by
          unfold Hid
          rw [cmpct_step (unhide hx) (unhide hy), if_neg (by intro e; injection e with e1 e2; subst e1 e2; simp at ht), unhide hC, List.take_add_one (l := xs) (i := r + 1), unhide hy]
          rfl
        clear ht hC hx hy
        have s1 := unhide HS1
        go_wp2_with fail
        go_quiet (fail)
        clear s1 hE
        go_wp2_with fail
        go_roundw
        case rel => exact ⟨r + 1, by omega, by go_num, HC2, (unhide hO).drewN _, grown_drewN' (unhide hG) _⟩
        case measure => simp [intOf]; omega
      · have hE : ∀ W, (Go.binOp .eql 43 (.agg #[.int .i64 y0, .int .i64 y1]) (.agg #[.int .i64 x0, .int .i64 x1])).run Try.prog W = .ok (.bool true) W := fun W => by rw [run_eql_mark, ht]
        have HC2 : Hid (cmpct (xs.take (r + 1 + 1)) = xs.take (r + 1)) := by
          unfold Hid
          have e2 : ((x0, x1) : Int × Int) = (y0, y1) := by
            rw [Bool.and_eq_true, beq_iff_eq, beq_iff_eq] at ht
            rw [ht.1, ht.2]
          rw [cmpct_step (unhide hx) (unhide hy), if_pos e2, unhide hC]
        clear ht hC hx hy
        have s1 := unhide HS1
        go_wp2_with fail
        go_quiet (fail)
        clear s1 hE
        go_wp2_with fail
        have HOs := hide ((unhide hO).drewN nq)
        have HGs := hide (grown_drewN' (unhide hG) nq)
        clear c0 c1 d0 d1 e0 e1 f0 f1 hO hG l3 l4 l5 l6 HS1
        generalize wr.drewN nq = ws at HOs HGs ⊢
        go_loopw [3, 5] (fun kv iv wj => ∃ (q m : Nat) (ys : List (Int × Int)), r + 1 + q + 1 ≤ n ∧ m ≤ r + 1 + q ∧ r + 1 ≤ m ∧ iv = .int .i64 ((q : Int) + 1) ∧ kv = .int .i64 (m : Int) ∧ Hid (ys.take m = cmpct (xs.take (r + 1 + q + 1))) ∧ Hid (∀ j, r + 1 + q ≤ j → ys[j]? = xs[j]?) ∧ Hid (OwnP wj lo 43 (some ⟨g, 0, none⟩) n c ys) ∧ Hid (w.grownBy wj (some g))) (fun _ iv _ => n - (intOf iv).toNat)
        case atStart => exact ⟨0, r + 1, xs, by omega, by omega, by omega, rfl, by go_num, (unhide HC2).symm, fun _ _ => rfl, HOs, HGs⟩
        case round =>
          obtain ⟨q, m, ys, hq, hm1, hm2, rfl, rfl, hT, hD, hO, hG⟩ := hrel
          clear HOs HGs HC2
          by_cases hlt2 : r + 1 + q + 1 < n
          · obtain ⟨x0, x1, hx, c0, c1, _, _⟩ := (unhide hO).el (j := r + 1 + q) (by omega)
            obtain ⟨y0, y1, hy, d0, d1, _, _⟩ := (unhide hO).el (j := r + 1 + q + 1) (by omega)
            have hX := (unhide hD (r + 1 + q) (by omega)).symm.trans (unhide hx)
            have hY := (unhide hD (r + 1 + q + 1) (by omega)).symm.trans (unhide hy)
            have p0 : wr.cell? ⟨g, (r + 1) * 2 + q * 2, none⟩ = some (.int .i64 x0) := by rw [show (r + 1) * 2 + q * 2 = (r + 1 + q) * 2 by omega]; exact c0
            have p1 : wr.cell? ⟨g, (r + 1) * 2 + q * 2 + 1, none⟩ = some (.int .i64 x1) := by rw [show (r + 1) * 2 + q * 2 = (r + 1 + q) * 2 by omega]; exact c1
            have p2 : wr.cell? ⟨g, (r + 1) * 2 + (q + 1) * 2, none⟩ = some (.int .i64 y0) := by rw [show (r + 1) * 2 + (q + 1) * 2 = (r + 1 + q + 1) * 2 by omega]; exact d0
            have p3 : wr.cell? ⟨g, (r + 1) * 2 + (q + 1) * 2 + 1, none⟩ = some (.int .i64 y1) := by rw [show (r + 1) * 2 + (q + 1) * 2 = (r + 1 + q + 1) * 2 by omega]; exact d1
            have l1 : (q : Int) + 1 < ((n - (r + 1) : Nat) : Int) := by omega
            have l2 : (q : Int) < ((n - (r + 1) : Nat) : Int) := by omega
            have l3 : (0 : Int) ≤ (q : Int) := by omega
            have l4 : (0 : Int) ≤ (q : Int) + 1 := by omega
            have l5 : q + 1 < n - (r + 1) := by omega
            have HS1 : Hid (IntKind.i64.wrap (q : Int) = (q : Int)) := IntWalk.i64_in _ (by omega)
            clear c0 c1 d0 d1 hx hy
            rcases ht : (y0 == x0 && y1 == x1) with _ | _
            · have hE : ∀ W, (Go.binOp .neq 43 (.agg #[.int .i64 y0, .int .i64 y1]) (.agg #[.int .i64 x0, .int .i64 x1])).run Try.prog W = .ok (.bool true) W := fun W => by rw [run_neq_mark, ht]; rfl
              have HT2 : Hid (ys.take m ++ [(y0, y1)] = cmpct (xs.take (r + 1 + (q + 1) + 1))) := by
                unfold Hid
                rw [show r + 1 + (q + 1) + 1 = r + 1 + q + 1 + 1 by omega, cmpct_step hX hY, if_neg (by intro e; injection e with e1 e2; subst e1 e2; simp at ht), unhide hT]
              clear ht hT hX hY
              have s1 := unhide HS1
              go_wp2_with fail
              go_quiet (fail)
              clear s1 hE
              have HOs := hide ((unhide hO).drewN nq)
              have HGs := hide (grown_drewN' (unhide hG) nq)
              have p2' : (wr.drewN nq).cell? ⟨g, (r + 1) * 2 + (q + 1) * 2, none⟩ = some (.int .i64 y0) := p2
              have p3' : (wr.drewN nq).cell? ⟨g, (r + 1) * 2 + (q + 1) * 2 + 1, none⟩ = some (.int .i64 y1) := p3
              clear p0 p1 p2 p3 hO hG
              generalize wr.drewN nq = wk at HOs HGs p2' p3' ⊢
              obtain ⟨g', hg', _, _, z0, z1, zf0, zf1, hO2, hgr⟩ := (unhide HOs).store (k := m) (by omega) y0 y1
              obtain rfl : g = g' := by simpa using hg'
              have HO2 := hide hO2
              have HG2 := hide (grownBy_trans (unhide HGs) hgr)
              have hml : m < ys.length := by have := (unhide HOs).len; omega
              have HT3 : Hid ((ys.set m (y0, y1)).take (m + 1) = cmpct (xs.take (r + 1 + (q + 1) + 1))) := by
                unfold Hid
                rw [← unhide HT2, List.take_add_one, List.getElem?_set_self hml, List.take_set_of_le (Nat.le_refl _)]
                rfl
              have HD3 : Hid (∀ j, r + 1 + (q + 1) ≤ j → (ys.set m (y0, y1))[j]? = xs[j]?) := fun j hj => by
                rw [List.getElem?_set_ne (by omega)]
                exact unhide hD j (by omega)
              have l6 : (m : Int) < (n : Int) := by omega
              have l7 : (0 : Int) ≤ (m : Int) := by omega
              clear hO2 hgr hg' HT2 hD
              go_wp2_with fail
              go_roundw
              case rel => exact ⟨q + 1, m + 1, _, by omega, by omega, by omega, by go_num, by go_num, HT3, HD3, HO2, HG2⟩
              case measure => simp [intOf]; omega
            · have hE : ∀ W, (Go.binOp .neq 43 (.agg #[.int .i64 y0, .int .i64 y1]) (.agg #[.int .i64 x0, .int .i64 x1])).run Try.prog W = .ok (.bool false) W := fun W => by rw [run_neq_mark, ht]; rfl
              have HT2 : Hid (ys.take m = cmpct (xs.take (r + 1 + (q + 1) + 1))) := by
                unfold Hid
                have e2 : ((x0, x1) : Int × Int) = (y0, y1) := by
                  rw [Bool.and_eq_true, beq_iff_eq, beq_iff_eq] at ht
                  rw [ht.1, ht.2]
                rw [show r + 1 + (q + 1) + 1 = r + 1 + q + 1 + 1 by omega, cmpct_step hX hY, if_pos e2, unhide hT]
              have HD3 : Hid (∀ j, r + 1 + (q + 1) ≤ j → ys[j]? = xs[j]?) := fun j hj => unhide hD j (by omega)
              clear ht hT hX hY hD
              have s1 := unhide HS1
              go_wp2_with fail
              go_quiet (fail)
              clear s1 hE
              go_wp2_with fail
              go_roundw
              case rel => exact ⟨q + 1, m, ys, by omega, by omega, by omega, by go_num, rfl, HT2, HD3, (unhide hO).drewN _, grown_drewN' (unhide hG) _⟩
              case measure => simp [intOf]; omega
          · obtain rfl : n = r + 1 + q + 1 := by omega
            have HC2 : Hid (cmpct xs = ys.take m) := by
              have h9 := unhide hT
              rw [List.take_of_length_le (l := xs) (by have := unhide HL; omega)] at h9
              exact h9.symm
            have HK := ownP_cut (unhide hO) (k := m) (by omega)
            have hcl : ∀ ty, (Builtin.clear_ #[25] ty #[.slice (some ⟨g, m * 2, none⟩) (r + 1 + q + 1 - m) (c - m)]).run Try.prog wr = .ok (.tuple #[]) (wr.setCells g (m * 2) (Builtin.zeroCells (Value.agg #[.int .i64 0, .int .i64 0]).cells (r + 1 + q + 1 - m)).toList) := fun ty =>
              run_clear_many wr ty g (m * 2) (c - m) (r + 1 + q + 1 - m) (by omega) (fun j hj => by obtain ⟨u, hu⟩ := ownP_room (unhide hO) (m * 2 + 0 + j) (by omega); rw [hu]; rfl) (fun j hj => World.ownsRow.frozenAt (unhide hO) _)
            obtain ⟨hO9, hG9⟩ := own_beyonds (Builtin.zeroCells (Value.agg #[.int .i64 0, .int .i64 0]).cells (r + 1 + q + 1 - m)).toList (m * 2) wr HK (Nat.le_refl _)
            have HO9 := hide hO9
            have HG9 := hide (grownBy_trans (unhide hG) hG9)
            generalize wr.setCells g (m * 2) (Builtin.zeroCells (Value.agg #[.int .i64 0, .int .i64 0]).cells (r + 1 + q + 1 - m)).toList = w9 at *
            have l1 : m ≤ r + 1 + q + 1 := by omega
            have l2 : ¬ c = m := by omega
            have l3 : m ≤ c := by omega
            have l4 : (m : Int) ≤ ((r + 1 + q + 1 : Nat) : Int) := by omega
            clear hT hD HK hO9 hG9
            go_wp2_with fail
            go_ret
            rw [unhide HC2]
            exact ⟨m, rfl, unhide HO9, unhide HG9⟩
    · obtain rfl : n = r + 1 := by omega
      have HC2 : Hid (cmpct xs = xs) := by
        have h9 := unhide hC
        rwa [List.take_of_length_le (by have := unhide HL; omega)] at h9
      clear hC
      go_wp2_with fail
      go_ret
      rw [unhide HC2]
      exact ⟨r + 1, rfl, unhide hO, unhide hG⟩
end Go.Proofs.Ytmpgafanlgnpeaa
