/- Chapter 2, plain: what the law of traces says: two parts that are joined again are the whole; a text is read back. -/
import Derived.Test.YtdpmpdhhjmbbcaaGreatDoorProg
import Derived.Test.YtdpmpdhhjmbbcaaGreatDoorParPlain
import Derived.Test.YtdpmpdhhjmbbcaaGreatDoorTraceG
import Derived.Test.YtdpmpdhhjmbbcaaGreatDoorTraceI
namespace Go.Proofs.YtdpmpdhhjmbbcaaGreatDoor
open Go.RowKit

theorem smpB_sub {xs ys : List Int} (h : smpB xs = true) (hs : ∀ y ∈ ys, y ∈ xs) (hl : ys.length ≤ xs.length) : smpB ys = true := by
  have h1 := smpB_len h
  unfold smpB at h ⊢
  rw [Bool.and_eq_true, List.all_eq_true] at h ⊢
  exact ⟨decide_eq_true (by omega), fun y hy => h.2 y (hs y hy)⟩
theorem goodB_of {st sa : Int} {xs : List Int} (h1 : 1 ≤ st ∧ st ≤ 99) (h2 : 0 ≤ sa ∧ sa ≤ 1000000) (h3 : smpB xs = true) (h4 : sa + xs.length ≤ 1000001) : goodB st sa xs = true := by
  unfold goodB
  rw [inB_iff.2 h1, inB_iff.2 h2, h3, decide_eq_true h4]
  rfl
/-- the first half, the second, the whole -/
theorem cut_halves {st sa : Int} {xs : List Int} {n m : Nat} (hg : goodB st sa xs = true) (hn : xs.length = n) (h2 : 1 < n) (hm : m = n / 2) :
    cutR st sa xs sa (sa + (m : Int) - 1) = (st, sa, xs.take m, true) ∧ cutR st sa xs (sa + (m : Int)) (sa + (n : Int) - 1) = (st, sa + (m : Int), xs.drop m, true) ∧ joinR st sa (xs.take m) st (sa + (m : Int)) (xs.drop m) = (st, sa, xs, true) := by
  obtain ⟨g1, g2, g3, g4⟩ := goodB_parts hg
  rw [hn] at g4
  have hm1 : 1 ≤ m := by omega
  have hm2 : m < n := by omega
  have lt : (xs.take m).length = m := by rw [List.length_take, hn]; omega
  have ld : (xs.drop m).length = n - m := by rw [List.length_drop, hn]
  have ga : goodB st sa (xs.take m) = true := goodB_of g1 g2 (smpB_sub g3 (fun y hy => List.mem_of_mem_take hy) (by omega)) (by omega)
  have gb : goodB st (sa + (m : Int)) (xs.drop m) = true := goodB_of g1 (by omega) (smpB_sub g3 (fun y hy => List.mem_of_mem_drop hy) (by omega)) (by omega)
  refine ⟨?_, ?_, ?_⟩
  · unfold cutR
    rw [hg, hn, inB_iff.2 (show sa ≤ sa ∧ sa ≤ sa + (n : Int) - 1 by omega), inB_iff.2 (show sa ≤ sa + (m : Int) - 1 ∧ sa + (m : Int) - 1 ≤ sa + (n : Int) - 1 by omega), decide_eq_true (show sa ≤ sa + (m : Int) - 1 by omega)]
    have e1 : (sa - sa : Int).toNat = 0 := by omega
    have e2 : (sa + (m : Int) - 1 - sa + 1).toNat = m := by omega
    rw [e1, e2]
    rfl
  · unfold cutR
    rw [hg, hn, inB_iff.2 (show sa ≤ sa + (m : Int) ∧ sa + (m : Int) ≤ sa + (n : Int) - 1 by omega), inB_iff.2 (show sa ≤ sa + (n : Int) - 1 ∧ sa + (n : Int) - 1 ≤ sa + (n : Int) - 1 by omega), decide_eq_true (show sa + (m : Int) ≤ sa + (n : Int) - 1 by omega)]
    have e1 : (sa + (m : Int) - sa).toNat = m := by omega
    have e2 : (sa + (n : Int) - 1 - sa + 1).toNat = n := by omega
    rw [e1, e2, List.take_of_length_le (by omega)]
    rfl
  · have hj : xs.take m ++ xs.drop m = xs := List.take_append_drop m xs
    unfold joinR
    rw [ga, gb, hj, hg, lt, decide_eq_false (by omega : ¬ m = 0)]
    simp
/-- a text that is read is the text of what is read -/
theorem prR_yes {s : ByteArray} {st sa : Int} {xs : List Int} (h : prR s = (st, sa, xs, true)) : trxR st sa xs = (s, true) := by
  unfold prR at h
  split at h
  · rename_i h9
    rw [Bool.and_eq_true] at h9
    have h8 := of_decide_eq_true h9.2
    injection h with e1 e2
    injection e2 with e2 e3
    injection e3 with e3 _
    subst e1 e2 e3
    unfold trxR
    rw [if_pos h9.1, h8]
  · cases h
theorem trx_yes {st sa : Int} {xs : List Int} {tx : ByteArray} (h : trxR st sa xs = (tx, true)) : goodB st sa xs = true ∧ prR tx = (st, sa, xs, true) := by
  unfold trxR at h
  split at h
  · rename_i hg
    injection h with e _
    exact ⟨hg, prR_hit hg e⟩
  · cases h
theorem trx_good {st sa : Int} {xs : List Int} {tx : ByteArray} {ok : Bool} (h : trxR st sa xs = (tx, ok)) : goodB st sa xs = ok ∧ tx.size ≤ 220 := by
  unfold trxR at h
  split at h
  · rename_i hg
    injection h with e1 e2
    subst e1 e2
    exact ⟨hg, txt_220 hg⟩
  · rename_i hg
    injection h with e1 e2
    subst e1 e2
    exact ⟨by simpa using hg, by decide⟩
/-- a trace's text is read back -/
theorem trx_read {st sa : Int} {xs : List Int} (hg : goodB st sa xs = true) : trxR st sa xs = (txtN st sa xs xs.length, true) ∧ prR (txtN st sa xs xs.length) = (st, sa, xs, true) :=
  ⟨by unfold trxR; rw [if_pos hg], prR_hit hg rfl⟩
end Go.Proofs.YtdpmpdhhjmbbcaaGreatDoor
