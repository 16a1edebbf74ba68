/- Strings cut at a byte: the reference's walk. -/
import Derived.Test.YtdpmpdhhjmbbcaaGreatDoorProg
import Derived.Test.YtdpmpdhhjmbbcaaGreatDoorTxt
import Derived.Test.YtdpmpdhhjmbbcaaGreatDoorHas
import Derived.Test.YtdpmpdhhjmbbcaaGreatDoorSplitPlain
namespace Go.Proofs.YtdpmpdhhjmbbcaaGreatDoor
open Go.RowKit

/-- the parts of a string between bytes b -/
def splitA (b : UInt8) (s : ByteArray) : List ByteArray := (splitL b s.data.toList).map fun l => ⟨l.toArray⟩
theorem splitA_none {b : UInt8} {s : ByteArray} (h : b ∉ s.data.toList) : splitA b s = [s] := by
  unfold splitA
  rw [splitL_none _ h]
  exact congrArg (fun x => [x]) (bytes_ext (by simp))
theorem extract_end (s : ByteArray) (f : Nat) : (s.extract f s.size).data.toList = s.data.toList.drop f := by
  rw [Lib.extract_data, List.take_of_length_le (by rw [List.length_drop, ← Lib.size_eq]; exact Nat.le_refl _)]
theorem splitA_hit {b : UInt8} {s : ByteArray} {f k : Nat} (hf : f ≤ k) (hk : k < s.size) (h : b ∉ (s.data.toList.drop f).take (k - f)) (hb : s[k] = b) :
    splitA b (s.extract f s.size) = s.extract f k :: splitA b (s.extract (k + 1) s.size) := by
  unfold splitA
  rw [extract_end, extract_end]
  have hk' : k < s.data.toList.length := by rw [← Lib.size_eq]; exact hk
  have e : s.data.toList.drop f = (s.data.toList.drop f).take (k - f) ++ b :: s.data.toList.drop (k + 1) := by
    conv => lhs; rw [← List.take_append_drop (k - f) (s.data.toList.drop f)]
    rw [List.drop_drop, show f + (k - f) = k by omega, List.drop_eq_getElem_cons hk']
    congr 2
  rw [e, splitL_hit _ _ h, List.map_cons]
  congr 1
  apply bytes_ext
  rw [Lib.extract_data]
theorem no_byte_step {b : UInt8} {s : ByteArray} {f k : Nat} (hf : f ≤ k) (hk : k < s.size) (h : b ∉ (s.data.toList.drop f).take (k - f)) (hb : ¬ s[k] = b) : b ∉ (s.data.toList.drop f).take (k + 1 - f) := by
  have hk' : k < s.data.toList.length := by rw [← Lib.size_eq]; exact hk
  rw [show k + 1 - f = k - f + 1 by omega, List.take_add_one, List.getElem?_drop, show f + (k - f) = k by omega, List.getElem?_eq_getElem hk']
  intro h2
  rcases List.mem_append.1 h2 with h2 | h2
  · exact h h2
  · have h3 : b = s.data.toList[k] := by simpa using h2
    exact hb h3.symm
theorem append_strs (w : World) {ops : Array Oper} {rest : List Oper} {o : Oper} {a : Act} {Q : Exit → Act → World → Prop} (hgd : o.guard = none) (s x : Operand)
    (ho : o.op = .call { callee := .builtin .append, args := #[s, x], argTypes := #[45, 45] })
    (w0 : World) (A : Option Addr) (n c : Nat) (xs : List ByteArray) (hs : a.eval s = .slice A n c) (hown : OwnT w w0.heap.size A n c xs) (hb : Below w0.heap.size w0 w)
    (B : Option Addr) (m c2 L : Nat) (ys : List ByteArray) (hx : a.eval x = .slice B m c2) (hr : RT w L B m ys) (hn : n + m ≤ 1000000000)
    (h : ∀ A' c' w', OwnT w' w0.heap.size A' (n + m) c' (xs ++ ys) → Below w0.heap.size w0 w' → wpList Tryz.prog ops Q rest (a.put o.dst (.slice A' (n + m) c')) w') : wpList Tryz.prog ops Q (o :: rest) a w := by
  obtain ⟨i0, hi, hz0, hz1, hz2⟩ := info_parts info_string
  exact wpList_append_many w hgd s x 45 ho w0.heap.size 9 i0 (.string ByteArray.empty) 1 16 Tryz.underlying45 hi hz0 hz1 hz2 rfl (by decide) A n c (cT xs) hs hown L B m c2 (cT ys) hx hr (cT_one ys) (by unfold maxLen; omega) (by omega) hb.size
    fun A' c' w' h2 h3 h4 => h A' c' w' (by unfold OwnT cT; rw [List.map_append]; exact h2) (hown.grow hb (Nat.le_refl _) hb.size h3)
theorem RT.one (w : World) (x : ByteArray) : RT (w.alloc (.cells #[.string x] 9)) (w.heap.size + 1) (some ⟨w.heap.size, 0, none⟩) 1 [x] := Reads.one (cellNew w _ _)

set_option maxHeartbeats 1000000 in
set_option maxRecDepth 100000 in
theorem l1Split_any (s : ByteArray) (b : UInt8) (w : World) (hs : s.size ≤ 1048576) :
    Calls Tryz.prog 36 #[.string s, .int .u8 b.toNat] w (RetT w (splitA b s)) := by
  go_enter Tryz.func36, Tryz.ntmps36
  go_wp2_with fail
  have HO0 : Hid (OwnT (w.alloc (.cells #[] 9)) w.heap.size (some ⟨w.heap.size, 0, none⟩) 0 0 []) := OwnT.empty w (Nat.le_refl _)
  have HB0 : Hid (Below w.heap.size w (w.alloc (.cells #[] 9))) := (Below.refl _ w).alloc (Nat.le_refl _) _
  generalize w.alloc (.cells #[] 9) = w0 at HO0 HB0 ⊢
  go_loopw [5, 6, 7] (fun v fr i wr => ∃ (k f : Nat) (A : Option Addr) (n c : Nat) (ys : List ByteArray), f ≤ k ∧ k ≤ s.size ∧ n ≤ f ∧ i = .int .i64 k ∧ fr = .int .i64 f ∧ v = .slice A n c ∧ Hid (OwnT wr w.heap.size A n c ys) ∧ Hid (splitA b s = ys ++ splitA b (s.extract f s.size)) ∧ Hid (b ∉ (s.data.toList.drop f).take (k - f)) ∧ Hid (Below w.heap.size w wr)) (fun _ _ i _ => s.size - (intOf i).toNat)
  case atStart => exact ⟨0, 0, _, 0, 0, [], by omega, by omega, by omega, rfl, rfl, rfl, HO0, by unfold Hid; rw [List.nil_append]; exact congrArg _ (bytes_ext (by rw [extract_end]; rfl)), by simp [Hid], HB0⟩
  case round =>
    obtain ⟨k, f, A, n, c, ys, hf, hk, hn, rfl, rfl, rfl, hO, hE, hN, hB⟩ := hrel
    by_cases hlt : k < s.size
    · by_cases hc : s[k] = b
      · have ht : ((s[k].toNat : Int) == (b.toNat : Int)) = true := by rw [hc]; simp
        have HE2 : Hid (splitA b s = ys ++ [s.extract f k] ++ splitA b (s.extract (k + 1) s.size)) := by
          unfold Hid
          rw [unhide hE, splitA_hit hf hlt (unhide hN) hc, List.append_assoc]
          rfl
        clear hc hE hN
        have l1 : k ≤ s.size := by omega
        go_wp2_with (at_builtin; refine append_strs _ rfl _ _ rfl w A n c ys rfl ((unhide hO).alloc _) ((unhide hB).alloc (unhide hB).size _) (some ⟨wr.heap.size, 0, none⟩) 1 1 (wr.heap.size + 1) [s.extract f k] rfl (RT.one wr _) (by omega) ?_; intro A2 c2 w2 hO2 hB2)
        have HO2 := hide hO2
        have HB2 := hide hB2
        clear hO2 hB2
        go_wp2_with fail
        go_roundw
        case rel => exact ⟨k + 1, k + 1, A2, n + 1, c2, _, by omega, by omega, by omega, by go_num, by go_num, rfl, HO2, HE2, by simp [Hid], HB2⟩
        case measure => simp [intOf]; omega
      · have ht : ((s[k].toNat : Int) == (b.toNat : Int)) = false := u8_ne hc
        have HN2 := hide (no_byte_step hf hlt (unhide hN) hc)
        clear hc hN
        go_wp2_with fail
        go_roundw
        case rel => exact ⟨k + 1, f, A, n, c, ys, by omega, by omega, by omega, by go_num, rfl, rfl, hO, hE, HN2, hB⟩
        case measure => simp [intOf]; omega
    · obtain rfl : k = s.size := by omega
      have HE2 : Hid (splitA b s = ys ++ [s.extract f s.size]) := by
        unfold Hid
        have h9 := unhide hN
        rw [List.take_of_length_le (by rw [List.length_drop, ← Lib.size_eq]; exact Nat.le_refl _)] at h9
        rw [unhide hE]
        congr 1
        refine splitA_none ?_
        rw [extract_end]
        exact h9
      clear hE hN
      go_wp2_with (at_builtin; refine append_strs _ rfl _ _ rfl w A n c ys rfl ((unhide hO).alloc _) ((unhide hB).alloc (unhide hB).size _) (some ⟨wr.heap.size, 0, none⟩) 1 1 (wr.heap.size + 1) [s.extract f s.size] rfl (RT.one wr _) (by omega) ?_; intro A2 c2 w2 hO2 hB2)
      have HO2 := hide hO2
      have HB2 := hide hB2
      clear hO2 hB2
      go_wp2_with fail
      go_ret
      rw [unhide HE2]
      exact ⟨A2, n + 1, c2, rfl, unhide HO2, unhide HB2⟩
end Go.Proofs.YtdpmpdhhjmbbcaaGreatDoor
