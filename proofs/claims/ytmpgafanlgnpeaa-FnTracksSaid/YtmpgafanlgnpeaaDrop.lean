/- Chapter 5, the walks: a copy of marks; a mark deleted in place. -/
import Derived.Test.YtmpgafanlgnpeaaProg
import Derived.Test.YtmpgafanlgnpeaaClkD
import Derived.Test.YtmpgafanlgnpeaaDropPlain
import Derived.Deep.RegionLaw
namespace Go.Proofs.Ytmpgafanlgnpeaa
open Go.RowKit

/-- 'out = append(out, more...)' at fresh marks -/
theorem append_marks (w : World) {ops : Array Oper} {rest : List Oper} {o : Oper} {a : Act} {Q : Exit → Act → World → Prop} (hgd : o.guard = none) (s x : Operand)
    (ho : o.op = .call { callee := .builtin .append, args := #[s, x], argTypes := #[25, 25] })
    (w0 : World) (A : Option Addr) (n c : Nat) (xs : List (Int × Int)) (hs : a.eval s = .slice A n c) (hown : OwnP w w0.heap.size 43 A n c xs) (hb : Below w0.heap.size w0 w)
    (B : Option Addr) (m c2 L : Nat) (ys : List (Int × Int)) (hx : a.eval x = .slice B m c2) (hr : RP w L B m ys) (hn : n + m ≤ 1000000000)
    (h : ∀ A' c' w', OwnP w' w0.heap.size 43 A' (n + m) c' (xs ++ ys) → Below w0.heap.size w0 w' → w.grownBy w' (Value.slice A n c).ownBlock → ((Value.slice A' (n + m) c').ownBlock = (Value.slice A n c).ownBlock ∨ (Value.slice A' (n + m) c').ownBlock = some w.heap.size) → wpList Try.prog ops Q rest (a.put o.dst (.slice A' (n + m) c')) w') : wpList Try.prog ops Q (o :: rest) a w := by
  obtain ⟨i0, hi, hz0, hz1, hz2⟩ := info_parts info_ClockMark
  exact wpList_append_many w hgd s x 25 ho w0.heap.size 43 i0 (.agg #[.int .i64 0, .int .i64 0]) 2 16 Try.underlying25 hi hz0 hz1 hz2 rfl (by decide) A n c (cP xs) hs hown L B m c2 (cP ys) hx hr (cP_one ys) (by unfold maxLen; omega) (by omega) hb.size
    fun A' c' w' h2 h3 h4 => h A' c' w' (by unfold OwnP; rw [cP_append]; exact h2) (hown.grow hb (Nat.le_refl _) hb.size h3) h3 h4
/-- the same at a step of a region that draws its order -/
theorem step_append_marks {w : World} {ops : Array Oper} {o : Oper} {a : Act} {K : Act → World → Prop} {Q : Exit → Act → World → Prop} {E : Prop} (hgd : o.guard = none) (s x : Operand)
    (ho : o.op = .call { callee := .builtin .append, args := #[s, x], argTypes := #[25, 25] })
    (w0 : World) (A : Option Addr) (n c : Nat) (xs : List (Int × Int)) (hs : a.eval s = .slice A n c) (hown : OwnP w w0.heap.size 43 A n c xs) (hb : Below w0.heap.size w0 w)
    (B : Option Addr) (m c2 L : Nat) (ys : List (Int × Int)) (hx : a.eval x = .slice B m c2) (hr : RP w L B m ys) (p : Nat) (hp : n + m = p) (hn : p ≤ 1000000000)
    (h : ∀ A' c' w', OwnP w' w0.heap.size 43 A' p c' (xs ++ ys) → Below w0.heap.size w0 w' → K (a.put o.dst (.slice A' p c')) w') : if Region.wanted o (yielded ops a.tmps) = true then Oper.wp Try.prog o a w K Q else E := by
  subst hp
  obtain ⟨i0, hi, hz0, hz1, hz2⟩ := info_parts info_ClockMark
  exact step_append_many w (by simp [Region.wanted, hgd]) s x 25 ho w0.heap.size 43 i0 (.agg #[.int .i64 0, .int .i64 0]) 2 16 Try.underlying25 hi hz0 hz1 hz2 rfl (by decide) A n c (cP xs) hs hown L B m c2 (cP ys) hx hr (cP_one ys) (by unfold maxLen; omega) (by omega) hb.size
    fun A' c' w' h2 h3 h4 => h A' c' w' (by unfold OwnP; rw [cP_append]; exact h2) (hown.grow hb (Nat.le_refl _) hb.size h3)

theorem copyM_any (A : Option Addr) (n c L : Nat) (xs : List (Int × Int)) (w : World) (hr : RP w L A n xs) (hL : L ≤ w.heap.size) (hn : n ≤ 2097152) :
    Calls Try.prog 73 #[.slice A n c] w (RetP w 43 xs) := by
  have HR := hide hr
  clear hr
  go_enter Try.func73, Try.ntmps73
  go_wp2_with (at_builtin; refine append_marks _ rfl _ _ rfl w _ 0 0 [] rfl (OwnP.empty w _ (Nat.le_refl _)) ((Below.refl _ w).alloc (Nat.le_refl _) _) A n c _ xs rfl ((unhide HR).alloc hL _) (by omega) ?_; intro A2 c2 w2 hO2 hB2 hg2 hl2)
  go_ret
  exact ⟨A2, n, c2, by simp, by simpa using hO2, hB2⟩

/-- the cells behind the row, in the room that it has, may be anything -/
theorem ownP_beyond {w : World} {lo g n c : Nat} {E : TypeId} {xs : List (Int × Int)} (h : OwnP w lo E (some ⟨g, 0, none⟩) n c xs) (j : Nat) (hj : n * 2 ≤ j) (u : Value) : OwnP (w.setCell ⟨g, j, none⟩ u) lo E (some ⟨g, 0, none⟩) n c xs := by
  have := (World.ownsRow.stored h j u).1
  rwa [List.set_eq_of_length_le (by have := h.1; omega)] at this
theorem ownP_cut {w : World} {lo g n c : Nat} {E : TypeId} {xs : List (Int × Int)} (h : OwnP w lo E (some ⟨g, 0, none⟩) n c xs) {k : Nat} (hk : k ≤ n) : OwnP w lo E (some ⟨g, 0, none⟩) k c (xs.take k) := by
  refine ⟨?_, ?_⟩
  · rw [cP_length, List.length_take, h.len, Nat.min_eq_left hk]
  · rcases h.2 with ⟨hv, h0⟩ | ⟨g', cap, cur, hv, hg, hh, hle, hm, hs, ht⟩
    · cases hv
    · injection hv with h1 h2 h3
      refine .inr ⟨g', cap, cur, by rw [h1, h3], hg, hh, by omega, hm, hs, ?_⟩
      unfold cP
      rw [← flat_take fP_len, show xs.flatMap fP = cP xs from rfl, ← ht, List.take_take, Nat.min_eq_left (Nat.mul_le_mul_right _ hk)]
/-- a cell in the room of the row -/
theorem ownP_room {w : World} {lo g n c : Nat} {E : TypeId} {xs : List (Int × Int)} (h : OwnP w lo E (some ⟨g, 0, none⟩) n c xs) (j : Nat) (hj : j < c * 2) : ∃ u, w.cell? ⟨g, j, none⟩ = some u := by
  rcases h.2 with ⟨hv, h0⟩ | ⟨g', cap, cur, hv, hg, hh, hle, hm, hs, ht⟩
  · cases hv
  · injection hv with h1 h2 h3
    obtain rfl : g = g' := by injection h1 with h1; injection h1
    subst h3
    rw [cell_of_row w g j cur E (0, 0) hh]
    exact ⟨_, Array.getElem?_eq_getElem (by omega)⟩

/-- 'append(s[:i], s[i+1:]...)' at a step of a region that draws its order: in place -/
theorem step_del {w : World} {ops : Array Oper} {o : Oper} {a : Act} {K : Act → World → Prop} {Q : Exit → Act → World → Prop} {E : Prop} (hgd : o.guard = none) (s x : Operand)
    (ho : o.op = .call { callee := .builtin .append, args := #[s, x], argTypes := #[25, 25] })
    (lo g i n c : Nat) (xs : List (Int × Int)) (hown : OwnP w lo 43 (some ⟨g, 0, none⟩) n c xs) (hi : i + 1 < n) (hs : a.eval s = .slice (some ⟨g, 0, none⟩) i c)
    (m c2 p : Nat) (hm : m = n - (i + 1)) (hp : p + 1 = n) (B : Addr) (hB : B = ⟨g, (i + 1) * 2, none⟩) (hx : a.eval x = .slice (some B) m c2)
    (h : ∀ w', OwnP w' lo 43 (some ⟨g, 0, none⟩) p c (del xs i) → w.grownBy w' (some g) → K (a.put o.dst (.slice (some ⟨g, 0, none⟩) p c)) w') : if Region.wanted o (yielded ops a.tmps) = true then Oper.wp Try.prog o a w K Q else E := by
  obtain ⟨i0, hi0, hz0, hz1, hz2⟩ := info_parts info_ClockMark
  have hc := hown.cap
  have hl := hown.len
  have hlen : (cP (xs.drop (i + 1))).length = m * 2 := by rw [cP_length, List.length_drop, hl, hm]
  have hget : ∀ j u, (cP (xs.drop (i + 1)))[j]? = some u → w.cell? (B.add j) = some u := fun j u hu => by
    have hj := (List.getElem?_eq_some_iff.1 hu).1
    rw [hlen] at hj
    have e : B.add j = ⟨g, (i + 1) * 2 + j, none⟩ := by subst hB; unfold Addr.add; split <;> simp_all
    have h9 := World.ownsRow.cellAt hown ((i + 1) * 2 + j) (by omega)
    rw [e, h9, ← hu]
    unfold cP
    rw [← flat_drop fP_len, List.getElem?_drop]
  obtain ⟨w', hrun, h2, h3⟩ := run_append_fits (P := Try.prog) w lo 25 o.type 43 i0 2 Try.underlying25 hi0 hz1 g i c (cP (xs.take i)) (ownP_cut hown (by omega)) B m c2 (cP (xs.drop (i + 1))) hlen hget (cP_one _) (by omega)
  rw [← cP_append] at h2
  obtain rfl : i + m = p := by omega
  rw [if_pos (by simp [Region.wanted, hgd])]
  unfold Oper.wp execOp
  simp only [ho, resolve, invoke, builtin, Sem.run_bind, Sem.run_pure, Result.andThen_ok, List.map_toArray, List.map_cons, List.map_nil, hs, hx, hrun]
  exact h w' h2 h3

theorem zeroV (w : World) : (zeroValue 43).run Try.prog w = .ok (.agg #[.int .i64 0, .int .i64 0]) w := by kernel_rfl
/-- clear at one mark -/
theorem run_clear_one (w : World) (ty : TypeId) (g o c : Nat) (x y : Value) (c0 : w.cell? ⟨g, o, none⟩ = some x) (c1 : w.cell? ⟨g, o + 1, none⟩ = some y) (f0 : w.frozen? ⟨g, o, none⟩ = false) (f1 : w.frozen? ⟨g, o + 1, none⟩ = false) :
    (Builtin.clear_ #[25] ty #[.slice (some ⟨g, o, none⟩) 1 c]).run Try.prog w = .ok (.tuple #[]) ((w.setCell ⟨g, o, none⟩ (.int .i64 0)).setCell ⟨g, o + 1, none⟩ (.int .i64 0)) := by
  have hzc : (Builtin.zeroCells (Value.agg #[.int .i64 0, .int .i64 0]).cells 1).toList = [.int .i64 0, .int .i64 0] := by simp [Builtin.zeroCells, Value.cells, List.range_succ]
  have hst := run_storeCells_cells (P := Try.prog) g o [.int .i64 0, .int .i64 0] 0 w (fun j hj => by
      match j, hj with
      | 0, _ => simp [c0]
      | 1, _ => simp [c1]) (fun j hj => by
      match j, hj with
      | 0, _ => simpa using f0
      | 1, _ => simpa using f1) (by intro v hv; simp at hv; subst hv; rfl)
  simp only [Nat.add_zero] at hst
  simp [Builtin.clear_, run_underlying Try.underlying25, zeroV, hzc, hst, World.setCells]
end Go.Proofs.Ytmpgafanlgnpeaa
