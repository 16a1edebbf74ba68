/- A map that the call has made and that holds true at some keys: asked by 'm[k]' and written by 'm[k] = true'. Plain: nothing of the program is named. -/
import Derived.Test.YtihkocplgciifaaWords
import Derived.Maps.Own
import Derived.Maps.OwnOps
import Derived.DeepKeys4
namespace Go.Proofs.Ytihkocplgciifaa
open Go.RowKit Go.Maps Go.MapKept Go.ChangeMaps

/-- block b is a map that holds true at the keys ks and at no other -/
def SetM (P : Program) (k : TypeId) (w : World) (b : Nat) (ks : List Value) : Prop :=
  ∃ es clock, w.heap[b]? = some (.map es clock) ∧ es.toList.map (·.key) = ks ∧ (∀ e ∈ es.toList, e.val = .bool true) ∧ ∀ x ∈ ks, ∃ l, keyOf P k x = some l
section
variable {P : Program} {k e t : TypeId} {w w' : World} {b B : Nat} {ks : List Value} {key : Value} {kl : Lit}
theorem SetM.made (P : Program) (k : TypeId) (w : World) : SetM P k (w.alloc (.map #[] 0)) w.heap.size [] := ⟨#[], 0, (MapKept.heap_alloc w _).1, rfl, by simp, by simp⟩
theorem SetM.lt (h : SetM P k w b ks) : b < w.heap.size := by
  obtain ⟨es, clock, hb, _⟩ := h
  exact (Array.getElem?_eq_some_iff.1 hb).1
theorem SetM.below (h : SetM P k w b ks) (hb : Below B w w') (hB : b < B) : SetM P k w' b ks := by
  obtain ⟨es, clock, hh, rest⟩ := h
  exact ⟨es, clock, (hb.block b hB).trans hh, rest⟩
theorem SetM.look_yes (h : SetM P k w b ks) (K : Keyed P k) (ht : P.underlying t = some (.map k e)) (hkey : keyOf P k key = some kl) (hm : key ∈ ks) :
    (Instr.lookup t (.map (some b)) key false).run P w = .ok (.bool true) w := by
  obtain ⟨es, clock, hb, hk, hv, hl⟩ := h
  have hes : ∀ x ∈ es.toList, ∃ l, keyOf P k x.key = some l := fun x hx => hl _ (by rw [← hk]; exact List.mem_map.2 ⟨x, hx, rfl⟩)
  rcases K.find w hkey es.toList hes with ⟨h1, h2⟩ | ⟨j, e0, h1, h2, h3⟩
  · rw [← hk] at hm
    obtain ⟨x, hx, hxk⟩ := List.mem_map.1 hm
    exact absurd hxk (h2 x hx)
  · have h4 := hv e0 (List.mem_of_getElem? h2)
    simp [Instr.lookup, run_underlying ht, MapKept.run_getObj_map hb, K.check w _ hkey, h1, Result.andThen, h4]
theorem SetM.look_no (h : SetM P k w b ks) (K : Keyed P k) (ht : P.underlying t = some (.map k e)) (hz : ∀ W, (zeroValue e).run P W = .ok (.bool false) W) (hkey : keyOf P k key = some kl) (hm : key ∉ ks) :
    (Instr.lookup t (.map (some b)) key false).run P w = .ok (.bool false) w := by
  obtain ⟨es, clock, hb, hk, hv, hl⟩ := h
  have hes : ∀ x ∈ es.toList, ∃ l, keyOf P k x.key = some l := fun x hx => hl _ (by rw [← hk]; exact List.mem_map.2 ⟨x, hx, rfl⟩)
  rcases K.find w hkey es.toList hes with ⟨h1, h2⟩ | ⟨j, e0, h1, h2, h3⟩
  · simp [Instr.lookup, run_underlying ht, MapKept.run_getObj_map hb, K.check w _ hkey, h1, Result.andThen, hz]
  · exact absurd (by rw [← hk, ← h3]; exact List.mem_map.2 ⟨e0, List.mem_of_getElem? h2, rfl⟩) hm
theorem SetM.put (h : SetM P k w b ks) (K : Keyed P k) (ht : P.underlying t = some (.map k e)) (hkey : keyOf P k key = some kl) (hm : key ∉ ks) :
    ∃ w', (Instr.mapUpdate t (.map (some b)) key (.bool true)).run P w = .ok () w' ∧ SetM P k w' b (ks ++ [key]) ∧ w.grownBy w' (some b) := by
  obtain ⟨es, clock, hb, hk, hv, hl⟩ := h
  have hes : ∀ x ∈ es.toList, ∃ l, keyOf P k x.key = some l := fun x hx => hl _ (by rw [← hk]; exact List.mem_map.2 ⟨x, hx, rfl⟩)
  rcases K.find w hkey es.toList hes with ⟨h1, h2⟩ | ⟨j, e0, h1, h2, h3⟩
  · refine ⟨setBlock w b (.map (es.push ⟨key, .bool true, clock⟩) (clock + 1)), ?_, ⟨es.push ⟨key, .bool true, clock⟩, clock + 1, heap_setBlock_same hb _, by simp [hk], ?_, ?_⟩, ⟨rfl, rfl, rfl, by simp [setBlock], fun i _ hi => heap_setBlock_other hb _ (fun e => hi (by rw [e]))⟩⟩
    · simp [Instr.mapUpdate, run_underlying ht, MapKept.run_getObj_map hb, K.check w false hkey, h1, MapKept.run_setObj_map _ hb, Result.andThen, setBlock]
    · intro x hx
      simp only [Array.toList_push, List.mem_append, List.mem_singleton] at hx
      rcases hx with hx | rfl
      · exact hv x hx
      · rfl
    · intro x hx
      rcases List.mem_append.1 hx with hx | hx
      · exact hl x hx
      · obtain rfl := List.mem_singleton.1 hx
        exact ⟨kl, hkey⟩
  · exact absurd (by rw [← hk, ← h3]; exact List.mem_map.2 ⟨e0, List.mem_of_getElem? h2, rfl⟩) hm
end
/-- 'm[k]' at the operation, by its run -/
theorem wpList_lookup_run {P : Program} (w : World) {ops : Array Oper} {rest : List Oper} {o : Oper} {a : Act} {Q : Exit → Act → World → Prop} (hg : o.guard = none) (m x : Operand) (t : TypeId) (hop : o.op = Op.lookup t m x false)
    (b : Nat) (key v : Value) (hm : a.eval m = .map (some b)) (hx : a.eval x = key) (hrun : (Instr.lookup t (.map (some b)) key false).run P w = .ok v w) (hK : wpList P ops Q rest (a.put o.dst v) w) : wpList P ops Q (o :: rest) a w := by
  refine wpList_plain hg fun K' hK' => ?_
  unfold Oper.wp
  simp [execOp, hop, hm, hx, hrun, Result.andThen]
  exact hK' _ _ hK
/-- 'm[k] = true' at the operation -/
theorem wpList_put_true {P : Program} (w : World) {ops : Array Oper} {rest : List Oper} {o : Oper} {a : Act} {Q : Exit → Act → World → Prop} (hg : o.guard = none) (m x v : Operand) (t : TypeId) (hop : o.op = Op.mapUpdate t m x v)
    (k e : TypeId) (K : Keyed P k) (ht : P.underlying t = some (.map k e)) (b : Nat) (ks : List Value) (hm : a.eval m = .map (some b)) (h : SetM P k w b ks) (key : Value) (kl : Lit) (hx : a.eval x = key) (hv : a.eval v = .bool true) (hkey : keyOf P k key = some kl) (hno : key ∉ ks)
    (hK : ∀ w', SetM P k w' b (ks ++ [key]) → w.grownBy w' (some b) → wpList P ops Q rest (a.put o.dst undef) w') : wpList P ops Q (o :: rest) a w := by
  refine wpList_plain hg fun K' hK' => ?_
  obtain ⟨w', hrun, r1, r2⟩ := h.put K ht hkey hno
  unfold Oper.wp
  simp [execOp, hop, hm, hx, hv, hrun, Result.andThen]
  exact hK' _ _ (hK w' r1 r2)
end Go.Proofs.Ytihkocplgciifaa
