/- Words for memory that all walks of this seat use: a slice that reads as a list of cells ('Reads'), a fresh slice of ints ('OwnI'), and how both are kept. Plain: nothing of the program is named. -/
import Derived.Below
import Derived.WalkKit
import Derived.Laws.OwnMore
import Derived.Deep.AppendLies
import Derived.Deep.Draws
import Derived.Maps.AppendAt
import Derived.RegionTactic
import Derived.OwnWalk
namespace Go.Proofs.YtdpmpdhhjmbbcaaGreatDoor
open Go.RowKit

/-- A fact kept from the walk; 'unhide' gives it back. -/
theorem hide {p : Prop} (h : p) : Hid p := h
theorem unhide {p : Prop} (h : Hid p) : p := h

theorem block_of_add (a : Addr) (n : Nat) : (a.add n).block = a.block := by unfold Addr.add; split <;> rfl
theorem add_of_add (a : Addr) (i j : Nat) : (a.add i).add j = a.add (i + j) := by
  unfold Addr.add
  by_cases hi : i = 0 <;> by_cases hj : j = 0 <;> simp [hi, hj, Nat.add_assoc]

/-- The slice value '.slice A n c' holds the cells xs ('size' cells an element) and lies below block B. -/
def Reads (w : World) (B size : Nat) (A : Option Addr) (n : Nat) (xs : List Value) : Prop :=
  xs.length = n * size ∧ (0 < n → ∃ ad, A = some ad ∧ ad.block < B ∧ ∀ j u, xs[j]? = some u → w.cell? (ad.add j) = some u)

section
variable {w w' : World} {B B' size n : Nat} {A : Option Addr} {xs : List Value}
theorem Reads.none_ : Reads w B size A 0 [] := ⟨by simp, fun h => absurd h (by omega)⟩
theorem Reads.at_ {k : Nat} (h : Reads w B 1 A n xs) (hk : k < n) : ∃ ad u, A = some ad ∧ ad.block < B ∧ xs[k]? = some u ∧ w.cell? (ad.add k) = some u := by
  obtain ⟨ad, e, hb, hc⟩ := h.2 (by omega)
  have hl : k < xs.length := by have := h.1; omega
  exact ⟨ad, xs[k], e, hb, List.getElem?_eq_getElem hl, hc k _ (List.getElem?_eq_getElem hl)⟩
theorem Reads.keep (h : Reads w B size A n xs) (hk : ∀ p : Addr, p.block < B → w'.cell? p = w.cell? p) : Reads w' B size A n xs :=
  ⟨h.1, fun hn => by
    obtain ⟨ad, e, hb, hc⟩ := h.2 hn
    exact ⟨ad, e, hb, fun j u hu => (hk _ (by rw [block_of_add]; exact hb)).trans (hc j u hu)⟩⟩
theorem Reads.more (h : Reads w B size A n xs) (hB : B ≤ B') : Reads w B' size A n xs :=
  ⟨h.1, fun hn => by
    obtain ⟨ad, e, hb, hc⟩ := h.2 hn
    exact ⟨ad, e, by omega, hc⟩⟩
theorem Reads.below (h : Reads w B size A n xs) (hb : Below B w w') : Reads w' B size A n xs := h.keep fun _ hp => hb.cell hp
theorem Reads.drew (h : Reads w B size A n xs) : Reads w.drew B size A n xs := h
theorem Reads.drewN (h : Reads w B size A n xs) (k : Nat) : Reads (w.drewN k) B size A n xs := h
theorem Reads.alloc (h : Reads w B size A n xs) (hB : B ≤ w.heap.size) (o : Obj) : Reads (w.alloc o) B size A n xs := h.keep fun p hp => World.cell?_alloc_lt w o p (by omega)
theorem Reads.setCell (h : Reads w B size A n xs) {p : Addr} (hB : B ≤ p.block) (u : Value) : Reads (w.setCell p u) B size A n xs :=
  h.keep fun q hq => World.cell?_setCell_other w p q u (fun e => by subst e; omega)
theorem Reads.grown (h : Reads w B size A n xs) {row : Option Nat} (hg : w.grownBy w' row) (hB : B ≤ w.heap.size) (hr : ∀ g, row = some g → B ≤ g) : Reads w' B size A n xs :=
  h.keep fun p hp => World.cell?_of_block (hg.block p.block (by omega) (fun e => by have := hr _ e.symm; omega))
theorem Reads.cut (h : Reads w B size A n xs) {k cap : Nat} (hk : k ≤ n) (hc : n ≤ cap) :
    Reads w B size (if cap = k then A else A.map (·.add (k * size))) (n - k) (xs.drop (k * size)) := by
  refine ⟨by rw [List.length_drop, h.1, Nat.sub_mul], fun hn => ?_⟩
  obtain ⟨ad, rfl, hb, hcell⟩ := h.2 (by omega)
  rw [if_neg (by omega)]
  refine ⟨ad.add (k * size), rfl, by rw [block_of_add]; exact hb, fun j u hu => ?_⟩
  rw [add_of_add]
  exact hcell _ u (by rw [← hu, List.getElem?_drop])
theorem Reads.take (h : Reads w B size A n xs) {k : Nat} (hk : k ≤ n) : Reads w B size A k (xs.take (k * size)) := by
  refine ⟨by rw [List.length_take, h.1]; exact Nat.min_eq_left (Nat.mul_le_mul_right _ hk), fun hn => ?_⟩
  obtain ⟨ad, rfl, hb, hcell⟩ := h.2 (by omega)
  refine ⟨ad, rfl, hb, fun j u hu => hcell j u ?_⟩
  rw [List.getElem?_take] at hu
  split at hu
  · exact hu
  · cases hu
theorem Reads.of_own {base : Nat} {e : TypeId} {c : Nat} (h : w.ownsRow base e size (.slice A n c) n xs) : Reads w w.heap.size size A n xs := by
  refine ⟨h.1, fun hn => ?_⟩
  obtain ⟨g, cap, hv, _, hlt⟩ := h.form hn
  have hA : A = some ⟨g, 0, none⟩ := by injection hv
  subst hA
  exact ⟨_, rfl, hlt, h.cells (g := g) rfl⟩
end

theorem cellNew (w : World) (v : Value) (t : TypeId) : (w.alloc (.cells #[v] t)).cell? ⟨w.heap.size, 0, none⟩ = some v := by simp
theorem ret_int {k : IntKind} {a b : Int} (h : a = b) : Ending.returned (.int k a) = .returned (.int k b) := by rw [h]
theorem ret_bool {a b : Bool} (h : a = b) : Ending.returned (.bool a) = .returned (.bool b) := by rw [h]
theorem below_drewN {B : Nat} {a w : World} (h : Below B a w) (n : Nat) : Below B a (w.drewN n) := ⟨h.os, h.tape, h.output, h.size, h.block⟩
/-- an old cell, asked for behind a contract that leaves the old blocks as they were -/
theorem bcell {W w1 : World} (hb : Below W.heap.size W w1) : (∀ b o, b < W.heap.size → w1.cell? ⟨b, o, none⟩ = W.cell? ⟨b, o, none⟩) ∧ (∀ b o, b < W.heap.size → w1.frozen? ⟨b, o, none⟩ = W.frozen? ⟨b, o, none⟩) :=
  ⟨fun b o h => hb.cell (p := ⟨b, o, none⟩) h, fun b o h => hb.frozen (p := ⟨b, o, none⟩) h⟩
theorem grownBy_trans {a b c : World} {row : Option Nat} (h : a.grownBy b row) (k : b.grownBy c row) : a.grownBy c row :=
  ⟨k.os.trans h.os, k.tape.trans h.tape, k.output.trans h.output, Nat.le_trans h.size k.size, fun i hi hn => (k.block i (Nat.lt_of_lt_of_le hi h.size) hn).trans (h.block i hi hn)⟩

/-- what the builtin append does to a fresh row, whatever the source -/
theorem run_append_reads {P : Program} (w : World) (base : Nat) (t ty e : TypeId) (i : TypeInfo) (z : Value) (size bytes : Nat) (ht : P.underlying t = some (.slice e)) (hi : P.info? e = some i) (hz : i.zero = some z)
    (hsize : i.size = size) (hby : i.bytes = bytes) (hzs : z.cells.size = size) (hsz : 0 < size)
    (A : Option Addr) (n c : Nat) (xs : List Value) (hown : w.ownsRow base e size (.slice A n c) n xs)
    (B : Nat) (S : Option Addr) (m c2 : Nat) (news : List Value) (hr : Reads w B size S m news) (h1 : ∀ u ∈ news, u.oneCell' = true)
    (h63 : n + m ≤ maxLen) (hbytes : (n + m) * bytes ≤ 140737488355328) (hbase : base ≤ w.heap.size) :
    ∃ A' c' w', (Builtin.append_ #[t, t] ty #[.slice A n c, .slice S m c2]).run P w = .ok (.slice A' (n + m) c') w' ∧ w'.ownsRow base e size (.slice A' (n + m) c') (n + m) (xs ++ news) ∧ w.grownBy w' (Value.slice A n c).ownBlock ∧
      ((Value.slice A' (n + m) c').ownBlock = (Value.slice A n c).ownBlock ∨ (Value.slice A' (n + m) c').ownBlock = some w.heap.size) := by
  rcases S with _ | ad
  · have hm : m = 0 := by
      rcases Nat.eq_zero_or_pos m with h0 | h0
      · exact h0
      · obtain ⟨ad, h, _⟩ := hr.2 h0
        cases h
    subst hm
    have hn : news = [] := List.eq_nil_of_length_eq_zero (by simpa using hr.1)
    subst hn
    refine ⟨A, c, w, ?_, by simpa using hown, World.grownBy.refl w _, .inl rfl⟩
    rcases hown.2 with ⟨hv, h0⟩ | ⟨g, cap, cur, hv, _, _, hnc, _⟩
    · injection hv with h2 h3 h4
      subst h2 h3 h4
      simp [Builtin.append_, run_underlying ht, sizeOf, typeInfo, hi, Builtin.lenOf, Builtin.firstCells]
    · injection hv with h2 h3 h4
      subst h2 h4
      simp [Builtin.append_, run_underlying ht, sizeOf, typeInfo, hi, Builtin.lenOf, Builtin.firstCells, hnc, storeCells]
  · have hcells : ∀ j u, news[j]? = some u → w.cell? (ad.add j) = some u := by
      intro j u hu
      rcases Nat.eq_zero_or_pos m with h0 | h0
      · subst h0
        have hn : news = [] := List.eq_nil_of_length_eq_zero (by simpa using hr.1)
        subst hn
        simp at hu
      · obtain ⟨ad', h, _, hc⟩ := hr.2 h0
        injection h with h
        subst h
        exact hc j u hu
    obtain ⟨v', w', hrun, h2, h3, h4, h5⟩ := run_append_own_at (P := P) w base t ty e i z size bytes ht hi hz hsize hby hzs hsz _ n xs hown ad m c2 news hr.1 hcells h1 h63 hbytes hbase
    have hv : ∃ A' c', v' = .slice A' (n + m) c' := by
      rcases h2.2 with ⟨rfl, h0⟩ | ⟨g, cap, cur, rfl, _⟩
      · exact ⟨none, 0, by rw [h0]⟩
      · exact ⟨_, _, rfl⟩
    obtain ⟨A', c', rfl⟩ := hv
    exact ⟨A', c', w', hrun, h2, h3, h5⟩

theorem wp_append_reads {P : Program} (w : World) {o : Oper} {a : Act} {K : Act → World → Prop} {Q : Exit → Act → World → Prop} (s x : Operand) (t : TypeId)
    (ho : o.op = .call { callee := .builtin .append, args := #[s, x], argTypes := #[t, t] })
    (base : Nat) (e : TypeId) (i : TypeInfo) (z : Value) (size bytes : Nat) (ht : P.underlying t = some (.slice e)) (hi : P.info? e = some i) (hz : i.zero = some z)
    (hsize : i.size = size) (hby : i.bytes = bytes) (hzs : z.cells.size = size) (hsz : 0 < size)
    (A : Option Addr) (n c : Nat) (xs : List Value) (hs : a.eval s = .slice A n c) (hown : w.ownsRow base e size (.slice A n c) n xs)
    (B : Nat) (S : Option Addr) (m c2 : Nat) (news : List Value) (hx : a.eval x = .slice S m c2) (hr : Reads w B size S m news) (h1 : ∀ u ∈ news, u.oneCell' = true)
    (h63 : n + m ≤ maxLen) (hbytes : (n + m) * bytes ≤ 140737488355328) (hbase : base ≤ w.heap.size)
    (h : ∀ A' c' w', w'.ownsRow base e size (.slice A' (n + m) c') (n + m) (xs ++ news) → w.grownBy w' (Value.slice A n c).ownBlock → ((Value.slice A' (n + m) c').ownBlock = (Value.slice A n c).ownBlock ∨ (Value.slice A' (n + m) c').ownBlock = some w.heap.size) →
      K (a.put o.dst (.slice A' (n + m) c')) w') : o.wp P a w K Q := by
  obtain ⟨A', c', w', hrun, h2, h3, h5⟩ := run_append_reads (P := P) w base t o.type e i z size bytes ht hi hz hsize hby hzs hsz A n c xs hown B S m c2 news hr h1 h63 hbytes hbase
  unfold Oper.wp execOp
  simp only [ho, resolve, invoke, builtin, Sem.run_bind, Sem.run_pure, Result.andThen_ok, List.map_toArray, List.map_cons, List.map_nil, hs, hx, hrun]
  exact h A' c' w' h2 h3 h5

/-- 'out = append(out, more...)' where out is fresh: whatever lies behind, out is fresh again and longer. -/
theorem wpList_append_many {P : Program} (w : World) {ops : Array Oper} {rest : List Oper} {o : Oper} {a : Act} {Q : Exit → Act → World → Prop} (hgd : o.guard = none) (s x : Operand) (t : TypeId)
    (ho : o.op = .call { callee := .builtin .append, args := #[s, x], argTypes := #[t, t] })
    (base : Nat) (e : TypeId) (i : TypeInfo) (z : Value) (size bytes : Nat) (ht : P.underlying t = some (.slice e)) (hi : P.info? e = some i) (hz : i.zero = some z)
    (hsize : i.size = size) (hby : i.bytes = bytes) (hzs : z.cells.size = size) (hsz : 0 < size)
    (A : Option Addr) (n c : Nat) (xs : List Value) (hs : a.eval s = .slice A n c) (hown : w.ownsRow base e size (.slice A n c) n xs)
    (B : Nat) (S : Option Addr) (m c2 : Nat) (news : List Value) (hx : a.eval x = .slice S m c2) (hr : Reads w B size S m news) (h1 : ∀ u ∈ news, u.oneCell' = true)
    (h63 : n + m ≤ maxLen) (hbytes : (n + m) * bytes ≤ 140737488355328) (hbase : base ≤ w.heap.size)
    (h : ∀ A' c' w', w'.ownsRow base e size (.slice A' (n + m) c') (n + m) (xs ++ news) → w.grownBy w' (Value.slice A n c).ownBlock → ((Value.slice A' (n + m) c').ownBlock = (Value.slice A n c).ownBlock ∨ (Value.slice A' (n + m) c').ownBlock = some w.heap.size) →
      wpList P ops Q rest (a.put o.dst (.slice A' (n + m) c')) w') : wpList P ops Q (o :: rest) a w :=
  wpList_plain hgd fun _ hK => wp_append_reads w s x t ho base e i z size bytes ht hi hz hsize hby hzs hsz A n c xs hs hown B S m c2 news hx hr h1 h63 hbytes hbase fun A' c' w' h2 h3 h4 => hK _ _ (h A' c' w' h2 h3 h4)

/-- the same at a step of a region that draws its order, the step's guard met -/
theorem step_append_many {P : Program} (w : World) {ops : Array Oper} {o : Oper} {a : Act} {K : Act → World → Prop} {Q : Exit → Act → World → Prop} {E : Prop} (hw : Region.wanted o (yielded ops a.tmps) = true) (s x : Operand) (t : TypeId)
    (ho : o.op = .call { callee := .builtin .append, args := #[s, x], argTypes := #[t, t] })
    (base : Nat) (e : TypeId) (i : TypeInfo) (z : Value) (size bytes : Nat) (ht : P.underlying t = some (.slice e)) (hi : P.info? e = some i) (hz : i.zero = some z)
    (hsize : i.size = size) (hby : i.bytes = bytes) (hzs : z.cells.size = size) (hsz : 0 < size)
    (A : Option Addr) (n c : Nat) (xs : List Value) (hs : a.eval s = .slice A n c) (hown : w.ownsRow base e size (.slice A n c) n xs)
    (B : Nat) (S : Option Addr) (m c2 : Nat) (news : List Value) (hx : a.eval x = .slice S m c2) (hr : Reads w B size S m news) (h1 : ∀ u ∈ news, u.oneCell' = true)
    (h63 : n + m ≤ maxLen) (hbytes : (n + m) * bytes ≤ 140737488355328) (hbase : base ≤ w.heap.size)
    (h : ∀ A' c' w', w'.ownsRow base e size (.slice A' (n + m) c') (n + m) (xs ++ news) → w.grownBy w' (Value.slice A n c).ownBlock → ((Value.slice A' (n + m) c').ownBlock = (Value.slice A n c).ownBlock ∨ (Value.slice A' (n + m) c').ownBlock = some w.heap.size) →
      K (a.put o.dst (.slice A' (n + m) c')) w') : if Region.wanted o (yielded ops a.tmps) = true then Oper.wp P o a w K Q else E := by
  rw [if_pos hw]
  exact wp_append_reads w s x t ho base e i z size bytes ht hi hz hsize hby hzs hsz A n c xs hs hown B S m c2 news hx hr h1 h63 hbytes hbase h

/-- one new cell, read as a slice of one -/
theorem Reads.one {w : World} {ad : Addr} {u : Value} (h : w.cell? ad = some u) : Reads w (ad.block + 1) 1 (some ad) 1 [u] :=
  ⟨rfl, fun _ => ⟨ad, rfl, by omega, fun j v hj => by
    match j, hj with
    | 0, hj => simp at hj; subst hj; simpa [Addr.add] using h⟩⟩

/-! ### ints -/
def cI (xs : List Int) : List Value := xs.map (Value.int .i64)
theorem cI_length (xs : List Int) : (cI xs).length = xs.length := by simp [cI]
theorem cI_get (xs : List Int) (k : Nat) : (cI xs)[k]? = xs[k]?.map (Value.int .i64) := by simp [cI]
theorem cI_one (xs : List Int) : ∀ u ∈ cI xs, u.oneCell' = true := by
  intro u hu
  obtain ⟨_, _, rfl⟩ := List.mem_map.1 hu
  rfl

/-- The slice value '.slice A n c' reads as the numbers xs and lies below block B. -/
def RI (w : World) (B : Nat) (A : Option Addr) (n : Nat) (xs : List Int) : Prop := Reads w B 1 A n (cI xs)
/-- The slice value '.slice A n c' reads as the numbers xs and lies, not frozen, in one of the blocks from lo on. -/
def OwnI (w : World) (lo : Nat) (A : Option Addr) (n c : Nat) (xs : List Int) : Prop := w.ownsRow lo 3 1 (.slice A n c) n (cI xs)

section
variable {w w' : World} {B B' lo lo' n c : Nat} {A : Option Addr} {xs : List Int}
theorem RI.len (h : RI w B A n xs) : xs.length = n := by have := h.1; rw [cI_length] at this; omega
theorem RI.at_ {k : Nat} (h : RI w B A n xs) (hk : k < n) : ∃ ad, A = some ad ∧ ad.block < B ∧ w.cell? (ad.add k) = some (.int .i64 (xs.getD k 0)) := by
  obtain ⟨ad, u, e, hb, hx, hc⟩ := Reads.at_ h hk
  refine ⟨ad, e, hb, ?_⟩
  rw [hc, ← hx, cI_get, List.getD_eq_getElem?_getD]
  have hl : k < xs.length := by rw [h.len]; exact hk
  simp [hl]
/-- the same, the number under a letter of its own -/
theorem RI.get {k : Nat} (h : RI w B A n xs) (hk : k < n) : ∃ ad x, A = some ad ∧ ad.block < B ∧ Hid (xs[k]? = some x) ∧ w.cell? (ad.add k) = some (.int .i64 x) := by
  obtain ⟨ad, u, e, hb, hx, hc⟩ := Reads.at_ h hk
  have hl : k < xs.length := by rw [h.len]; exact hk
  refine ⟨ad, xs[k], e, hb, List.getElem?_eq_getElem hl, ?_⟩
  rw [hc, ← hx, cI_get]
  simp [hl]
theorem RI.below (h : RI w B A n xs) (hb : Below B w w') : RI w' B A n xs := Reads.below h hb
theorem RI.more (h : RI w B A n xs) (hB : B ≤ B') : RI w B' A n xs := Reads.more h hB
theorem RI.alloc (h : RI w B A n xs) (hB : B ≤ w.heap.size) (o : Obj) : RI (w.alloc o) B A n xs := Reads.alloc h hB o
theorem RI.grown (h : RI w B A n xs) {row : Option Nat} (hg : w.grownBy w' row) (hB : B ≤ w.heap.size) (hr : ∀ g, row = some g → B ≤ g) : RI w' B A n xs := Reads.grown h hg hB hr
theorem RI.take (h : RI w B A n xs) {k : Nat} (hk : k ≤ n) : RI w B A k (xs.take k) := by
  have := Reads.take h hk
  unfold RI cI
  rw [List.map_take]
  simpa [cI] using this
theorem RI.cut (h : RI w B A n xs) {k cap : Nat} (hk : k ≤ n) (hc : n ≤ cap) : RI w B (if cap = k then A else A.map (·.add k)) (n - k) (xs.drop k) := by
  have := Reads.cut h hk hc
  unfold RI cI
  rw [List.map_drop]
  simpa [cI] using this

theorem OwnI.len (h : OwnI w lo A n c xs) : xs.length = n := by have := h.1; rw [cI_length] at this; omega
theorem OwnI.ri (h : OwnI w lo A n c xs) : RI w w.heap.size A n xs := Reads.of_own h
theorem OwnI.riB (h : OwnI w lo A n c xs) (hB : w.heap.size ≤ B) : RI w B A n xs := h.ri.more hB
theorem OwnI.alloc (h : OwnI w lo A n c xs) (o : Obj) : OwnI (w.alloc o) lo A n c xs := World.ownsRow.alloc h o
theorem OwnI.lt (h : OwnI w lo A n c xs) {g : Nat} (hg : (Value.slice A n c).ownBlock = some g) : lo ≤ g ∧ g < w.heap.size := World.ownsRow.lt h g hg
/-- kept over whatever leaves the blocks below B, the row among them -/
theorem OwnI.below (h : OwnI w lo A n c xs) (hb : Below B w w') (hB : w.heap.size ≤ B) : OwnI w' lo A n c xs := by
  refine ⟨h.1, ?_⟩
  rcases h.2 with hn | ⟨g, cap, cur, hv, hg, hh, rest⟩
  · exact .inl hn
  · have hlt : g < w.heap.size := (Array.getElem?_eq_some_iff.1 hh).1
    exact .inr ⟨g, cap, cur, hv, hg, (hb.block g (by omega)).trans hh, rest⟩
theorem OwnI.less (h : OwnI w lo A n c xs) (hl : lo' ≤ lo) : OwnI w lo' A n c xs := by
  refine ⟨h.1, ?_⟩
  rcases h.2 with hn | ⟨g, cap, cur, hv, hg, rest⟩
  · exact .inl hn
  · exact .inr ⟨g, cap, cur, hv, by omega, rest⟩
theorem OwnI.kept (h : OwnI w lo A n c xs) {row : Option Nat} (hg : w.grownBy w' row) (hne : (Value.slice A n c).ownBlock = none ∨ (Value.slice A n c).ownBlock ≠ row) : OwnI w' lo A n c xs := World.ownsRow.kept h hg hne
theorem OwnI.nil (w : World) (lo : Nat) : OwnI w lo none 0 0 [] := World.ownsRow_nil _ _ _ _
theorem OwnI.form (h : OwnI w lo A n c xs) (hn : 0 < n) : ∃ g, A = some ⟨g, 0, none⟩ ∧ lo ≤ g ∧ g < w.heap.size ∧ n ≤ c := by
  rcases h.2 with ⟨_, h0⟩ | ⟨g, cap, cur, hv, hg, hh, hle, _⟩
  · omega
  · injection hv with h1 _ h3
    exact ⟨g, h1, hg, (Array.getElem?_eq_some_iff.1 hh).1, by omega⟩
theorem OwnI.setB (h : OwnI w lo A n c xs) {a : Addr} (ha : a.block < lo) (u : Value) : OwnI (w.setCell a u) lo A n c xs := ownsRow_setCell_below h ha u
/-- an empty literal -/
theorem OwnI.empty (w : World) (hl : lo ≤ w.heap.size) : OwnI (w.alloc (.cells #[] 3)) lo (some ⟨w.heap.size, 0, none⟩) 0 0 [] :=
  World.ownsRow_lit w #[] 0 hl (Nat.zero_le _) rfl
/-- what the builtin append leaves, for the loop's relation -/
theorem OwnI.grow {B : Nat} {w0 : World} (h : OwnI w lo A n c xs) (hb : Below B w0 w) (hB : B ≤ lo) (hs : B ≤ w.heap.size) (hg : w.grownBy w' (Value.slice A n c).ownBlock) : Below B w0 w' :=
  hb.grown hg hs fun k hk => by have := (OwnI.lt h hk).1; omega
theorem OwnI.cap (h : OwnI w lo A n c xs) : n ≤ c := by
  rcases h.2 with ⟨hv, h0⟩ | ⟨g, cap, cur, hv, hg, hh, hle, _⟩
  · omega
  · injection hv with _ _ h3
    omega
/-- a store at place k of the row -/
theorem OwnI.store (h : OwnI w lo A n c xs) {k : Nat} (hk : k < n) (x : Int) : ∃ g, A = some ⟨g, 0, none⟩ ∧ lo ≤ g ∧ g < w.heap.size ∧
    w.cell? ⟨g, k, none⟩ = some (.int .i64 (xs.getD k 0)) ∧ w.frozen? ⟨g, k, none⟩ = false ∧ OwnI (w.setCell ⟨g, k, none⟩ (.int .i64 x)) lo A n c (xs.set k x) ∧ w.grownBy (w.setCell ⟨g, k, none⟩ (.int .i64 x)) (some g) := by
  obtain ⟨g, rfl, hlo, hg, hc⟩ := h.form (by omega)
  have hl := h.len
  have hcn : ∃ cap, (Value.slice (some ⟨g, 0, none⟩) n c) = .slice (some ⟨g, 0, none⟩) n cap := ⟨c, rfl⟩
  obtain ⟨h2, h3⟩ := World.ownsRow.stored h k (.int .i64 x)
  refine ⟨g, rfl, hlo, hg, ?_, World.ownsRow.frozenAt h k, ?_, h3⟩
  · rw [World.ownsRow.cellAt h k (by omega), cI_get, List.getD_eq_getElem?_getD]
    have hl' : k < xs.length := by omega
    simp [hl']
  · unfold OwnI cI
    rw [List.map_set]
    exact h2

theorem OwnI.max (h : OwnI w lo A n c xs) : n ≤ 9223372036854775807 := by
  rcases h.2 with ⟨hv, h0⟩ | ⟨g, cap, cur, hv, hg, hh, hle, hm, _⟩
  · omega
  · unfold maxLen at hm
    omega
end

/-! ### rows of whatever elements, with the range of blocks in which they lie: for the walks of the laws -/
/-- the slice value '.slice A n c' owns the cells cs (k an element, of type E) in one of the blocks from lo on and below hi -/
def OwnR (w : World) (lo hi : Nat) (E : TypeId) (k : Nat) (A : Option Addr) (n c : Nat) (cs : List Value) : Prop := w.ownsRow lo E k (.slice A n c) n cs ∧ ∀ g, (Value.slice A n c).ownBlock = some g → g < hi
section
variable {w w' : World} {B lo lo' hi hi' n c n' c' k k' : Nat} {E E' : TypeId} {A A' : Option Addr} {cs cs' : List Value}
theorem ownR_of (h : w.ownsRow lo E k (.slice A n c) n cs) : OwnR w lo w.heap.size E k A n c cs := ⟨h, fun g hg => (World.ownsRow.lt h g hg).2⟩
theorem OwnI.r {xs : List Int} (h : OwnI w lo A n c xs) : OwnR w lo w.heap.size 3 1 A n c (cI xs) := ownR_of h
theorem OwnR.i {xs : List Int} (h : OwnR w lo hi 3 1 A n c (cI xs)) : OwnI w lo A n c xs := h.1
theorem OwnR.below (h : OwnR w lo hi E k A n c cs) (hb : Below B w w') (hB : w.heap.size ≤ B) : OwnR w' lo hi E k A n c cs := by
  refine ⟨⟨h.1.1, ?_⟩, h.2⟩
  rcases h.1.2 with hn | ⟨g, cap, cur, hv, hg, hh, rest⟩
  · exact .inl hn
  · have hlt : g < w.heap.size := (Array.getElem?_eq_some_iff.1 hh).1
    exact .inr ⟨g, cap, cur, hv, hg, (hb.block g (by omega)).trans hh, rest⟩
theorem OwnR.reads (h : OwnR w lo hi E k A n c cs) : Reads w w.heap.size k A n cs := Reads.of_own h.1
theorem OwnR.ri {xs : List Int} (h : OwnR w lo hi E 1 A n c (cI xs)) : RI w w.heap.size A n xs := Reads.of_own h.1
theorem OwnR.max (h : OwnR w lo hi E k A n c cs) : n ≤ 9223372036854775807 := by
  rcases h.1.2 with ⟨hv, h0⟩ | ⟨g, cap, cur, hv, hg, hh, hle, hm, _⟩
  · omega
  · unfold maxLen at hm
    omega
/-- a row that lies apart stays when another is written -/
theorem OwnR.kept (h : OwnR w lo hi E k A n c cs) (hg : w.grownBy w' (Value.slice A' n' c').ownBlock) (h' : OwnR w lo' hi' E' k' A' n' c' cs') (hd : hi ≤ lo' ∨ hi' ≤ lo) : OwnR w' lo hi E k A n c cs := by
  refine ⟨World.ownsRow.kept h.1 hg ?_, h.2⟩
  rcases hv : (Value.slice A n c).ownBlock with _ | g
  · exact .inl rfl
  · refine .inr fun e => ?_
    have h1 := World.ownsRow.lt h.1 g hv
    have h2 := h.2 g hv
    have h3 := World.ownsRow.lt h'.1 g e.symm
    have h4 := h'.2 g e.symm
    omega
theorem OwnR.grown {w0 : World} (h : OwnR w lo hi E k A n c cs) (hb : Below B w0 w) (hB : B ≤ lo) (hs : B ≤ w.heap.size) (hg : w.grownBy w' (Value.slice A n c).ownBlock) : Below B w0 w' :=
  hb.grown hg hs fun g hk => by have := (World.ownsRow.lt h.1 g hk).1; omega
end
end Go.Proofs.YtdpmpdhhjmbbcaaGreatDoor
