/- Chapter 3, words: rows of three numbers grow by rows; a row's block as numbers; rows that are bounded above. Plain: all pairs in their order. -/
import Derived.Test.YtihkocplgciifaaProg
import Derived.Test.YtihkocplgciifaaTri
import Derived.Test.YtihkocplgciifaaIsort
import Derived.Test.YtihkocplgciifaaNear
namespace Go.Proofs.Ytihkocplgciifaa
open Go.RowKit

theorem dst_iff (rs : List Tri) : Dst rs ↔ (rs.map Tri.b).Nodup := by
  unfold Dst List.Nodup
  rw [List.pairwise_map, List.pairwise_iff_getElem]
  constructor
  · intro h i j hi hj hij e
    have := h i j _ _ (List.getElem?_eq_getElem hi) (List.getElem?_eq_getElem hj) e
    omega
  · intro h i j r s hr hs e
    obtain ⟨hi, rfl⟩ := List.getElem?_eq_some_iff.1 hr
    obtain ⟨hj, rfl⟩ := List.getElem?_eq_some_iff.1 hs
    rcases Nat.lt_trichotomy i j with h9 | h9 | h9
    · exact absurd e (h i j hi hj h9)
    · exact h9
    · exact absurd e.symm (h j i hj hi h9)
theorem Dst.take {ys : List Tri} (h : Dst ys) (k : Nat) : Dst (ys.take k) := (dst_iff _).2 (List.Pairwise.sublist ((List.take_sublist k ys).map _) ((dst_iff ys).1 h))
theorem Dst.ins {ys : List Tri} (h : Dst ys) {r : Tri} (hf : ∀ s ∈ ys, s.b ≠ r.b) (k : Nat) : Dst (ys.take k ++ r :: ys.drop k) := by
  rw [dst_iff] at h ⊢
  unfold List.Nodup at h ⊢
  rw [← List.take_append_drop k ys, List.map_append, List.pairwise_append] at h
  rw [List.map_append, List.map_cons, List.pairwise_append, List.pairwise_cons]
  refine ⟨h.1, ⟨fun b hb => ?_, h.2.1⟩, fun a ha b hb => ?_⟩
  · obtain ⟨s, hs, rfl⟩ := List.mem_map.1 hb
    exact (hf s (List.mem_of_mem_drop hs)).symm
  · rcases List.mem_cons.1 hb with rfl | hb
    · obtain ⟨s, hs, rfl⟩ := List.mem_map.1 ha
      exact hf s (List.mem_of_mem_take hs)
    · exact h.2.2 a ha b hb
theorem Dst.snoc {ys : List Tri} (h : Dst ys) {r : Tri} (hf : ∀ s ∈ ys, s.b ≠ r.b) : Dst (ys ++ [r]) := by
  have := h.ins hf ys.length
  rwa [List.take_length, List.drop_length] at this
theorem info_row : (Try.prog.info? 39).map (fun i => (i.zero, i.size, i.bytes)) = some (some (.slice none 0 0), 1, 24) := by kernel_rfl
/-- append of rows, as one step of a region that draws -/
theorem step_append_rows {w : World} {ops : Array Oper} {o : Oper} {a : Act} {K : Act → World → Prop} {Q : Exit → Act → World → Prop} {E : Prop} (hgd : o.guard = none) (s x : Operand)
    (ho : o.op = .call { callee := .builtin .append, args := #[s, x], argTypes := #[54, 54] })
    (lo : Nat) (A : Option Addr) (n c : Nat) (rs : List Tri) (hs : a.eval s = .slice A n c) (hown : OwnK w lo A n c rs) (hlo : lo ≤ w.heap.size)
    (B : Option Addr) (m c2 L : Nat) (ys : List Tri) (hx : a.eval x = .slice B m c2) (hr : Reads w L 1 B m (cK ys)) (hmem : ∀ r ∈ ys, lo ≤ r.b ∧ Whl w r.b 3 (kK r)) (hd : Dst (rs ++ ys)) (p : Nat) (hp : n + m = p) (hn : p ≤ 1000000000)
    (h : ∀ A' c' w', OwnK w' lo A' p c' (rs ++ ys) → w.grownBy w' (Value.slice A n c).ownBlock → K (a.put o.dst (.slice A' p c')) w') : if Region.wanted o (yielded ops a.tmps) = true then Oper.wp Try.prog o a w K Q else E := by
  subst hp
  obtain ⟨i0, hi, hz0, hz1, hz2⟩ := info_parts info_row
  refine step_append_many w (by simp [Region.wanted, hgd]) s x 54 ho lo 39 i0 (.slice none 0 0) 1 24 Try.underlying54 hi hz0 hz1 hz2 rfl (by decide) A n c (cK rs) hs hown.row L B m c2 (cK ys) hx hr (cK_one ys) (by unfold maxLen; omega) (by omega) hlo ?_
  intro A' c' w' h2 h3 _
  refine h A' c' w' ⟨by rw [cK_append]; exact h2, fun r hr => ?_, hd⟩ h3
  rcases List.mem_append.1 hr with h9 | h9
  · exact hown.mems h3 r h9
  · exact ⟨(hmem r h9).1, (h3.block r.b (hmem r h9).2.lt (fun e => hown.far (hmem r h9).2 e.symm)).trans (hmem r h9).2⟩
/-- one row of a literal -/
theorem reads_row {w : World} {g : Nat} {T : TypeId} {r : Tri} (h : Whl w g T #[.slice (some ⟨r.b, 0, none⟩) 3 3]) {L : Nat} (hL : g < L) : Reads w L 1 (some ⟨g, 0, none⟩) 1 (cK [r]) := by
  refine ⟨rfl, fun _ => ⟨_, rfl, hL, fun j u hu => ?_⟩⟩
  have e : (⟨g, 0, none⟩ : Addr).add j = ⟨g, j, none⟩ := by simp [Addr.add]; omega
  rw [e, h.cell j]
  simpa [cK, vK] using hu
/-- a row's block as three numbers -/
theorem row_own {w : World} {lo : Nat} {r : Tri} (h : Whl w r.b 3 (kK r)) (hl : lo ≤ r.b) : OwnI w lo (some ⟨r.b, 0, none⟩) 3 3 [r.i, r.j, r.d] :=
  ⟨rfl, .inr ⟨r.b, 3, kK r, rfl, hl, h, Nat.le_refl _, by unfold maxLen; omega, rfl, rfl⟩⟩
/-- the rows of a slice that is only read -/
structure RdK (w : World) (hi : Nat) (A : Option Addr) (n : Nat) (rs : List Tri) : Prop where
  row : Reads w hi 1 A n (cK rs)
  mem : ∀ r ∈ rs, r.b < hi ∧ Whl w r.b 3 (kK r)
section
variable {w w' : World} {B lo hi n c : Nat} {A : Option Addr} {xs : List Tri}
theorem OwnK.rk (h : OwnK w lo A n c xs) : RdK w w.heap.size A n xs := ⟨Reads.of_own h.row, fun r hr => ⟨(h.mem r hr).2.lt, (h.mem r hr).2⟩⟩
theorem RdK.len (h : RdK w hi A n xs) : xs.length = n := by have := h.row.1; rw [cK_length] at this; omega
theorem RdK.below (h : RdK w B A n xs) (hb : Below B w w') : RdK w' B A n xs := ⟨h.row.below hb, fun r hr => ⟨(h.mem r hr).1, (hb.block r.b (h.mem r hr).1).trans (h.mem r hr).2⟩⟩
theorem RdK.more (h : RdK w B A n xs) {B' : Nat} (hB : B ≤ B') : RdK w B' A n xs := ⟨h.row.more hB, fun r hr => ⟨Nat.lt_of_lt_of_le (h.mem r hr).1 hB, (h.mem r hr).2⟩⟩
theorem RdK.get {k : Nat} (h : RdK w hi A n xs) (hk : k < n) : ∃ ad r, A = some ad ∧ Hid (xs[k]? = some r) ∧ w.cell? (ad.add k) = some (.slice (some ⟨r.b, 0, none⟩) 3 3) ∧ r.b < hi ∧ Whl w r.b 3 (kK r) := by
  obtain ⟨ad, u, e, _, hu, hc⟩ := Reads.at_ h.row hk
  have hl : k < xs.length := by rw [h.len]; exact hk
  rw [cK_get, List.getElem?_eq_getElem hl] at hu
  cases hu
  exact ⟨ad, xs[k], e, List.getElem?_eq_getElem hl, hc, (h.mem _ (List.getElem_mem hl)).1, (h.mem _ (List.getElem_mem hl)).2⟩
end

/-- a row's numbers -/
def tri3 (r : Tri) : Int × Int × Int := (r.i, r.j, r.d)
/-- two stations' numbers and the square of their distance -/
def trP (xs : List St) (i j : Nat) : Int × Int × Int := ((stAt xs i).id, (stAt xs j).id, sqK (stAt xs j).x (stAt xs j).y (stAt xs i))
def rowP (xs : List St) (i : Nat) : Nat → List (Int × Int × Int)
  | 0 => []
  | q + 1 => rowP xs i q ++ [trP xs i (i + 1 + q)]
/-- the pairs whose first is before k -/
def prs (xs : List St) : Nat → List (Int × Int × Int)
  | 0 => []
  | k + 1 => prs xs k ++ rowP xs k (xs.length - (k + 1))
def k3 (v : Int × Int × Int) : Int := v.2.2
theorem k3_tri (r : Tri) : k3 (tri3 r) = r.d := rfl
theorem insG_map (m : Tri) : ∀ l : List Tri, (insG Tri.d m l).map tri3 = insG k3 (tri3 m) (l.map tri3)
  | [] => rfl
  | x :: l => by
    unfold insG
    rw [List.map_cons]
    show _ = if k3 (tri3 m) < k3 (tri3 x) then _ else _
    rw [k3_tri, k3_tri]
    split
    · rfl
    · rw [List.map_cons, insG_map m l]
theorem isort_map (xs : List Tri) : (isort Tri.d xs).map tri3 = isort k3 (xs.map tri3) := by
  have : ∀ (xs l : List Tri), (xs.foldl (fun l m => insG Tri.d m l) l).map tri3 = (xs.map tri3).foldl (fun l m => insG k3 m l) (l.map tri3) := by
    intro xs
    induction xs with
    | nil => intro l; rfl
    | cons x xs ih => intro l; rw [List.foldl_cons, ih, List.map_cons, List.foldl_cons, insG_map]
  exact this xs []
theorem isort_snoc {α : Type} {key : α → Int} (xs : List α) (x : α) : isort key (xs ++ [x]) = insG key x (isort key xs) := by unfold isort; rw [List.foldl_append]; rfl
/-- all pairs by their distances, whether there are any to tell -/
def pairR (xs : List St) : List (Int × Int × Int) × Bool := if stsB xs = true then (isort k3 (prs xs xs.length), true) else ([], false)
theorem rowP_len (xs : List St) (i q : Nat) : (rowP xs i q).length = q := by
  induction q with
  | zero => rfl
  | succ q ih => rw [rowP, List.length_append, ih]; rfl
theorem prs_len (xs : List St) : ∀ k, k ≤ xs.length → 2 * (prs xs k).length + k * (k + 1) = 2 * k * xs.length
  | 0, _ => by simp [prs]
  | k + 1, h => by
    have ih := prs_len xs k (by omega)
    rw [prs, List.length_append, rowP_len]
    obtain ⟨d, hd⟩ : ∃ d, xs.length = k + 1 + d := ⟨xs.length - (k + 1), by omega⟩
    rw [hd] at ih ⊢
    rw [show k + 1 + d - (k + 1) = d by omega]
    have e1 : (k + 1) * (k + 1 + 1) = k * (k + 1) + 2 * (k + 1) := by rw [Nat.succ_mul, Nat.mul_succ]; omega
    have e2 : 2 * (k + 1) * (k + 1 + d) = 2 * k * (k + 1 + d) + 2 * (k + 1 + d) := by rw [show 2 * (k + 1) = 2 * k + 2 by omega, Nat.add_mul]
    rw [e1, e2]
    omega
theorem pair_len (xs : List St) : (pairR xs).1.length ≤ 2097152 := by
  unfold pairR
  split
  · rename_i h
    have h1 := sts_short h
    have h2 := prs_len xs xs.length (Nat.le_refl _)
    simp only
    rw [isort_len]
    have h3 : 2 * xs.length * xs.length ≤ 2 * 10 * 10 := Nat.mul_le_mul (by omega) h1
    omega
  · simp
end Go.Proofs.Ytihkocplgciifaa
