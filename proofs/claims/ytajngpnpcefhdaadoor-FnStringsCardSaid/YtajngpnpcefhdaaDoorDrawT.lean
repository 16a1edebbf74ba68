/- Chapter 1, the walks: the texts that the laws draw. (By gen_drawT.py.) -/
import Derived.Test.YtajngpnpcefhdaaDoorProg
import Derived.Test.YtajngpnpcefhdaaDoorCurT
import Derived.Deep.RegionHeld3
import Derived.Deep.DeepCutAuto
import Derived.Laws.BytesArg
import Derived.WalkSpells
namespace Go.Proofs.YtajngpnpcefhdaaDoor
open Go.RowKit

def T9 : List ByteArray := [⟨#[]⟩, ⟨#[97]⟩, ⟨#[97, 44, 98]⟩, ⟨#[115, 111, 109, 101, 32, 119, 111, 114, 100, 115]⟩, ⟨#[120, 35, 121]⟩, ⟨#[45, 49, 50]⟩, ⟨#[0, 255]⟩, ⟨#[44, 44]⟩, ⟨#[48]⟩]
theorem T9_small : ∀ y ∈ T9, y.size ≤ 10 := by decide
set_option maxRecDepth 100000 in
theorem any1_any (g n c b : Nat) (A : Option Addr) (xs : List Int) (w : World) (h : Cur w g A n c xs b) (hn : n ≤ 1048576) (hb : b ≤ 1000000) :
    Calls Tryd.prog 37 #[.pointer (some ⟨g, 0, none⟩)] w (RetCT w g A n c xs (b + 2) fun y => y.size ≤ 10) := by
  have HC := hide h
  clear h
  go_enter Tryd.func37, Tryd.ntmps37
  go_wp2_with fail
  refine (of_lit g n c b _ A xs w rfl T9 9 _ (fun y => y.size ≤ 10) rfl rfl (by omega) (by omega) T9_small (unhide HC) hn (by omega)).mono ?_
  rintro e w1 ⟨x, rfl, hx, hC, hg⟩
  go_wp2_with fail
  go_ret
  exact ⟨x, rfl, hx, hC, hg⟩
/-- two texts are drawn -/
def RetSS (w : World) (P Q : ByteArray → Prop) (e : Ending) (w' : World) : Prop := ∃ x y : ByteArray, e = .returned (.tuple #[.string x, .string y]) ∧ P x ∧ Q y ∧ Below w.heap.size w w'


/-- some texts and a text are drawn -/
def RetLS (w : World) (e : Ending) (w' : World) : Prop := ∃ (A' : Option Addr) (n' c' : Nat) (ts : List ByteArray) (y : ByteArray), e = .returned (.tuple #[.slice A' n' c', .string y]) ∧ OwnT w' w.heap.size A' n' c' ts ∧ n' ≤ 4 ∧ (∀ t ∈ ts, t.size ≤ 4010) ∧ y.size ≤ 10 ∧ Below w.heap.size w w'

theorem rt_one1 (w : World) (x : ByteArray) : RT (w.alloc (.cells #[.string x] 9)) (w.heap.size + 1) (some ⟨w.heap.size, 0, none⟩) 1 [x] := Reads.one (cellNew w _ _)
theorem OwnT.gr {w w' : World} {g lo k d : Nat} {ys : List ByteArray} {B : Option Addr} (h : OwnT w lo B k d ys) (hg : w.grownBy w' (some g)) (hl : g < lo) : OwnT w' lo B k d ys := by
  refine World.ownsRow.kept h hg ?_
  rcases hv : (Value.slice B k d).ownBlock with _ | r
  · exact .inl rfl
  · exact .inr fun e => by have := (h.lt hv).1; injection e with e; omega
theorem append_str1 (w : World) {ops : Array Oper} {rest : List Oper} {o : Oper} {a : Act} {Q : Exit → Act → World → Prop} (hgd : o.guard = none) (s x : Operand)
    (ho : o.op = .call { callee := .builtin .append, args := #[s, x], argTypes := #[39, 39] })
    (lo : Nat) (A : Option Addr) (n c : Nat) (xs : List ByteArray) (hs : a.eval s = .slice A n c) (hown : OwnT w lo A n c xs) (hlo : lo ≤ w.heap.size)
    (B : Option Addr) (m c2 L : Nat) (ys : List ByteArray) (hx : a.eval x = .slice B m c2) (hr : RT w L B m ys) (hn : n + m ≤ 1000000000)
    (h : ∀ A' c' w', OwnT w' lo A' (n + m) c' (xs ++ ys) → w.grownBy w' (Value.slice A n c).ownBlock → wpList Tryd.prog ops Q rest (a.put o.dst (.slice A' (n + m) c')) w') : wpList Tryd.prog ops Q (o :: rest) a w := by
  obtain ⟨i0, hi, hz0, hz1, hz2⟩ := info_parts info_string
  exact wpList_append_many w hgd s x 39 ho lo 9 i0 (.string ByteArray.empty) 1 16 Tryd.underlying39 hi hz0 hz1 hz2 rfl (by decide) A n c (cT xs) hs hown L B m c2 (cT ys) hx hr (cT_one ys) (by unfold maxLen; omega) (by omega) hlo
    fun A' c' w' h2 h3 _ => h A' c' w' (by unfold OwnT cT; rw [List.map_append]; exact h2) h3
theorem info_u8 : (Tryd.prog.info? 5).map (fun i => (i.zero, i.size, i.bytes)) = some (some (.int .u8 0), 1, 1) := by kernel_rfl
theorem made_u8 (L i : Nat) (h : i < L) : (madeCells #[Value.int .u8 0] (L * 1)).toList[i]? = some (.int .u8 0) := by
  have h' : i < L * 1 := by omega
  simp only [madeCells, Array.getElem?_toList, Array.getElem?_map, Array.getElem?_range, h', if_true, Option.map_some]
  simp [Nat.mod_one]
/-- the text of a fresh row of zero bytes -/
theorem conv_zero (w : World) (lo g L : Nat) (h : w.ownsRow lo 5 1 (.slice (some ⟨g, 0, none⟩) L L) L (madeCells #[Value.int .u8 0] (L * 1)).toList) :
    (convert 29 9 (.slice (some ⟨g, 0, none⟩) L L)).run Tryd.prog w = .ok (.string (strOfNums (List.replicate L 0))) w :=
  run_convert_bytes_arg w 29 5 Tryd.underlying29 Tryd.underlying5 g 0 L L (List.replicate L 0) (by simp) (fun i hi => by
    rw [Nat.zero_add, World.ownsRow.cellAt h i (by omega), made_u8 L i hi]
    simp [List.getD, hi]) 9 Tryd.underlying9
end Go.Proofs.YtajngpnpcefhdaaDoor
