/- Chapter 1: strings joined by a separator: the program's and the reference's. -/
import Derived.Test.YtibnindjdbkmcaaDoorProg
import Derived.Test.YtibnindjdbkmcaaDoorTxt
import Derived.Test.YtibnindjdbkmcaaDoorHas
import Derived.Test.YtibnindjdbkmcaaDoorShelf
import Derived.Lib.IndexAny
import Derived.Lib.Join
import Derived.Deep.QuietTactic
import Derived.BigQuiet
namespace Go.Proofs.YtibnindjdbkmcaaDoor
open Go.RowKit

/-- strings with a separator between them -/
def joinB (sep : ByteArray) (xs : List ByteArray) : ByteArray := ⟨(Lib.join (xs.map (·.data.toList)) sep.data.toList).toArray⟩
theorem joinB_data (sep : ByteArray) (xs : List ByteArray) : (joinB sep xs).data.toList = Lib.join (xs.map (·.data.toList)) sep.data.toList := by simp [joinB]
theorem join_snoc (x : List UInt8) (r : List (List UInt8)) (y sep : List UInt8) : Lib.join (x :: r ++ [y]) sep = Lib.join (x :: r) sep ++ sep ++ y := by
  rw [List.cons_append, Lib.join_cons, Lib.join_cons]
  simp [Lib.joinTail, List.append_assoc]
theorem joinB_first {sep : ByteArray} {xs : List ByteArray} {x : ByteArray} (h : xs[0]? = some x) : joinB sep (xs.take 1) = x := by
  rcases xs with _ | ⟨z, r⟩
  · cases h
  · obtain rfl : z = x := by simpa using h
    apply bytes_ext
    rw [joinB_data]
    simp [Lib.join_one]
theorem joinB_next {sep : ByteArray} {xs : List ByteArray} {k : Nat} {x : ByteArray} (hk : 0 < k) (h : xs[k]? = some x) : joinB sep (xs.take (k + 1)) = joinB sep (xs.take k) ++ sep ++ x := by
  have hl : k < xs.length := (List.getElem?_eq_some_iff.1 h).1
  rcases xs with _ | ⟨z, r⟩
  · cases h
  · obtain ⟨k, rfl⟩ : ∃ j, k = j + 1 := ⟨k - 1, by omega⟩
    apply bytes_ext
    rw [List.take_add_one, h]
    rw [joinB_data, ByteArray.data_append, ByteArray.data_append, Array.toList_append, Array.toList_append, joinB_data]
    simp only [List.take_succ_cons, Option.toList_some, List.map_append, List.map_cons, List.map_nil]
    rw [join_snoc]
theorem lens_lenT (xs : List ByteArray) : Lib.lens (xs.map (·.data.toList)) = lenT xs := by
  unfold Lib.lens lenT
  rw [List.map_map]
  congr 1
theorem joinB_size {sep : ByteArray} {xs : List ByteArray} (hs : sep.size = 1) (hx : 0 < xs.length) : (joinB sep xs).size = xs.length - 1 + lenT xs := by
  rw [Lib.size_eq, joinB_data, ← lens_lenT]
  rcases xs with _ | ⟨z, r⟩
  · simp at hx
  · have e : sep.data.toList.length = 1 := by rw [← Lib.size_eq]; exact hs
    rw [List.map_cons, Lib.join_cons, List.length_append, Lib.joinTail_length, e]
    simp [Lib.lens]
    omega
theorem nil_app (x : ByteArray) : (⟨#[]⟩ : ByteArray) ++ x = x := by
  apply bytes_ext
  rw [ByteArray.data_append, Array.toList_append]
  rfl
/-- may they be joined? -/
def joinOk (c : UInt8) (xs : List ByteArray) : Bool := xs.all (fun s => !hasB s c) && decide (xs.length - 1 + lenT xs ≤ 4000)
/-- strings joined, whether they can be -/
def joinR (xs : List ByteArray) (sep : ByteArray) : ByteArray × Bool :=
  if sep.size = 1 ∧ xs ≠ [] ∧ joinOk (sep.data.toList.headD 0) xs = true then (joinB sep xs, true) else (ByteArray.empty, false)
theorem joinR_sep {xs : List ByteArray} {sep : ByteArray} (h : sep.size ≠ 1) : joinR xs sep = (ByteArray.empty, false) := if_neg fun h2 => h h2.1
theorem joinR_nil (sep : ByteArray) : joinR [] sep = (ByteArray.empty, false) := if_neg fun h2 => h2.2.1 rfl
theorem joinR_has {xs : List ByteArray} {c : UInt8} {x : ByteArray} {k : Nat} (hx : xs[k]? = some x) (h : hasB x c = true) : joinR xs ⟨#[c]⟩ = (ByteArray.empty, false) := by
  refine if_neg fun h2 => ?_
  have h3 := h2.2.2
  unfold joinOk at h3
  rw [Bool.and_eq_true, List.all_eq_true] at h3
  have := h3.1 x (List.mem_of_getElem? hx)
  simp at this
  rw [show (ByteArray.mk #[c]).data.toList.headD 0 = c from rfl] at *
  simp [h] at this
theorem joinR_long {xs : List ByteArray} {c : UInt8} {k : Nat} (h : 4000 < xs.length - 1 + lenT (xs.take k)) : joinR xs ⟨#[c]⟩ = (ByteArray.empty, false) := by
  refine if_neg fun h2 => ?_
  have h3 := h2.2.2
  unfold joinOk at h3
  rw [Bool.and_eq_true, decide_eq_true_iff] at h3
  have := lenT_take_le xs k
  omega
theorem joinR_ok {xs : List ByteArray} {c : UInt8} (hx : 0 < xs.length) (h : ∀ x ∈ xs, hasB x c = false) (h2 : xs.length - 1 + lenT xs ≤ 4000) : joinR xs ⟨#[c]⟩ = (joinB ⟨#[c]⟩ xs, true) := by
  refine if_pos ⟨rfl, by rintro rfl; simp at hx, ?_⟩
  unfold joinOk
  rw [Bool.and_eq_true, List.all_eq_true, decide_eq_true_iff]
  refine ⟨fun x hm => ?_, h2⟩
  have := h x hm
  rw [show (ByteArray.mk #[c]).data.toList.headD 0 = c from rfl, this]
  rfl
theorem has_step {xs : List ByteArray} {k : Nat} {x : ByteArray} {c : UInt8} (h : ∀ y ∈ xs.take k, hasB y c = false) (hx : xs[k]? = some x) (h2 : hasB x c = false) : ∀ y ∈ xs.take (k + 1), hasB y c = false := by
  intro y hy
  rw [List.take_add_one, hx] at hy
  rcases List.mem_append.1 hy with hy | hy
  · exact h y hy
  · obtain rfl : y = x := by simpa using hy
    exact h2

set_option maxHeartbeats 1000000 in
theorem specJoin_any (A : Option Addr) (n c : Nat) (xs : List ByteArray) (sep : ByteArray) (w : World) (hr : RT w w.heap.size A n xs) (hn : n ≤ 1048576) (hsep : sep.size ≤ 1048576) (hS : ∀ x ∈ xs, x.size ≤ 1048576) :
    Calls Tryd.prog 14 #[.slice A n c, .string sep] w (RetSB w (joinR xs sep).1 (joinR xs sep).2) := by
  have HL := hide hr.len
  have HR := hide hr
  have HS := hide hS
  clear hr hS
  by_cases h1 : sep.size = 1
  · obtain ⟨b, rfl⟩ := one_byte h1
    by_cases h0 : n = 0
    · subst h0
      have HRR : Hid (joinR xs ⟨#[b]⟩ = (ByteArray.empty, false)) := by
        obtain rfl : xs = [] := List.eq_nil_of_length_eq_zero (unhide HL)
        exact joinR_nil _
      clear h1
      go_enter Tryd.func14, Tryd.ntmps14
      go_wp2
      go_ret2
      rw [unhide HRR]
      exact ⟨rfl, Below.refl _ _⟩
    · have hn0 : 0 < n := by omega
      have hn1 : ((n : Int) == 0) = false := by simp; omega
      clear h1 h0
      go_enter Tryd.func14, Tryd.ntmps14
      go_wp2
      go_loopw [6, 7] (fun v i wr => ∃ k : Nat, k ≤ n ∧ i = .int .i64 k ∧ v = .string (joinB ⟨#[b]⟩ (xs.take k)) ∧ Hid (∀ y ∈ xs.take k, hasB y b = false) ∧ Hid (0 < k → k - 1 + lenT (xs.take k) ≤ 4000) ∧ Hid (Below w.heap.size w wr)) (fun _ i _ => n - (intOf i).toNat)
      case atStart => exact ⟨0, Nat.zero_le _, rfl, by simp [joinB, Lib.join_nil], by simp [Hid], by simp [Hid], Below.refl _ _⟩
      case round =>
        obtain ⟨k, hk, rfl, rfl, hH, hM, hB⟩ := hrel
        by_cases hlt : k < n
        · obtain ⟨ad, x, rfl, _, hx, hc⟩ := ((unhide HR).below (unhide hB)).get hlt
          have hx1 := unhide HS x (List.mem_of_getElem? (unhide hx))
          have l1 : (k : Int) < (n : Int) := by omega
          have l2 : (0 : Int) ≤ (k : Int) := by omega
          rcases hb : hasB x b with _ | _
          · have HC : Hid (∀ W, Calls Tryd.prog 27 #[.string x, .int .u8 (((ByteArray.mk #[b])[0]'Nat.zero_lt_one).toNat)] W fun e w' => e = .returned (.bool false) ∧ w' = W) := fun W => (l1Stands_any x b W (by omega)).mono fun _ _ ⟨a, h⟩ => ⟨by rw [a, hb], h.symm⟩
            have HH2 := hide (has_step (unhide hH) (unhide hx) hb)
            have HT : Hid (lenT (xs.take (k + 1)) = lenT (xs.take k) + x.size) := lenT_take_succ (unhide hx)
            have HSZ : Hid ((joinB ⟨#[b]⟩ (xs.take (k + 1))).size = k + lenT (xs.take (k + 1))) := by
              unfold Hid
              rw [joinB_size rfl (by have := unhide HL; simp; omega)]
              have : (xs.take (k + 1)).length = k + 1 := by have := unhide HL; simp; omega
              rw [this, Nat.add_sub_cancel]
            clear hb hH
            by_cases hbig : k + lenT (xs.take (k + 1)) ≤ 4000
            · have HM2 : Hid (0 < k + 1 → k + 1 - 1 + lenT (xs.take (k + 1)) ≤ 4000) := fun _ => by omega
              by_cases h0 : k = 0
              · subst h0
                have HJ : Hid (joinB ⟨#[b]⟩ (xs.take 1) = x) := joinB_first (unhide hx)
                have hc' : wr.cell? ad = some (.string x) := hc
                have hsz : x.size ≤ 4000 := by have := unhide HSZ; rw [show 0 + 1 = 1 from rfl, unhide HJ] at this; rw [this]; exact hbig
                have HJ0 : Hid (joinB ⟨#[b]⟩ (xs.take 0) = ⟨#[]⟩) := by simp [Hid, joinB, Lib.join_nil]
                rw [unhide HJ0]
                clear hc hx hM HT HSZ hbig HJ0
                go_wp2
                go_quiet ((go_at_call 27; exact Calls.quiet_of_same (unhide HC _)))
                go_wp2
                go_roundw
                case rel => exact ⟨1, by omega, rfl, by rw [unhide HJ, nil_app], HH2, HM2, below_drewN (unhide hB) _⟩
                case measure => simp [intOf]; omega
              · have HJ : Hid (joinB ⟨#[b]⟩ (xs.take (k + 1)) = joinB ⟨#[b]⟩ (xs.take k) ++ ⟨#[b]⟩ ++ x) := joinB_next (by omega) (unhide hx)
                have hsj : (joinB ⟨#[b]⟩ (xs.take k)).size + 1 + x.size = k + lenT (xs.take (k + 1)) := by
                  have h9 := unhide HSZ
                  rw [unhide HJ, ByteArray.size_append, ByteArray.size_append] at h9
                  exact h9
                generalize joinB ⟨#[b]⟩ (xs.take k) = J at HJ hsj
                have hs1 : (J.size : Int) + 1 + (x.size : Int) ≤ 4000 := by omega
                have hs2 : J.size + 1 + x.size ≤ 4000 := by omega
                have h0' : (0 : Int) < (k : Int) := by omega
                clear hx hM HT HSZ hbig hsj
                go_wp2
                go_quiet ((go_at_call 27; exact Calls.quiet_of_same (unhide HC _)))
                go_wp2
                go_roundw
                case rel => exact ⟨k + 1, by omega, by go_num, by rw [unhide HJ], HH2, HM2, below_drewN (unhide hB) _⟩
                case measure => simp [intOf]; omega
            · have HRR : Hid (joinR xs ⟨#[b]⟩ = (ByteArray.empty, false)) := joinR_long (k := k + 1) (by have := unhide HL; omega)
              by_cases h0 : k = 0
              · subst h0
                have HJ : Hid (joinB ⟨#[b]⟩ (xs.take 1) = x) := joinB_first (unhide hx)
                have hc' : wr.cell? ad = some (.string x) := hc
                have hsz : 4000 < x.size := by have := unhide HSZ; simp only [Nat.zero_add] at this hbig; rw [unhide HJ] at this; omega
                have HJ0 : Hid (joinB ⟨#[b]⟩ (xs.take 0) = ⟨#[]⟩) := by simp [Hid, joinB, Lib.join_nil]
                rw [unhide HJ0]
                clear hc hx hM HT HSZ hbig HJ0
                go_wp2
                go_quiet ((go_at_call 27; exact Calls.quiet_of_same (unhide HC _)))
                go_wp2
                go_ret2
                rw [unhide HRR]
                exact ⟨rfl, below_drewN (unhide hB) _⟩
              · have HJ : Hid (joinB ⟨#[b]⟩ (xs.take (k + 1)) = joinB ⟨#[b]⟩ (xs.take k) ++ ⟨#[b]⟩ ++ x) := joinB_next (by omega) (unhide hx)
                have hsj : (joinB ⟨#[b]⟩ (xs.take k)).size + 1 + x.size = k + lenT (xs.take (k + 1)) := by
                  have h9 := unhide HSZ
                  rw [unhide HJ, ByteArray.size_append, ByteArray.size_append] at h9
                  exact h9
                have hm9 := unhide hM (by omega)
                have ht9 := unhide HT
                generalize joinB ⟨#[b]⟩ (xs.take k) = J at HJ hsj
                have hs1 : (4000 : Int) < (J.size : Int) + 1 + (x.size : Int) := by omega
                have hs2 : J.size ≤ 4001 := by omega
                have h0' : (0 : Int) < (k : Int) := by omega
                clear hx hM HT HSZ hbig hsj hm9 ht9
                go_wp2
                go_quiet ((go_at_call 27; exact Calls.quiet_of_same (unhide HC _)))
                go_wp2
                go_ret2
                rw [unhide HRR]
                exact ⟨rfl, below_drewN (unhide hB) _⟩
          · have HRR : Hid (joinR xs ⟨#[b]⟩ = (ByteArray.empty, false)) := joinR_has (unhide hx) hb
            have HC : Hid (∀ W, Calls Tryd.prog 27 #[.string x, .int .u8 (((ByteArray.mk #[b])[0]'Nat.zero_lt_one).toNat)] W fun e w' => e = .returned (.bool true) ∧ w' = W) := fun W => (l1Stands_any x b W (by omega)).mono fun _ _ ⟨a, h⟩ => ⟨by rw [a, hb], h.symm⟩
            clear hb hx hH hM
            by_cases h0 : k = 0
            · subst h0
              have hc' : wr.cell? ad = some (.string x) := hc
              clear hc
              go_wp2
              go_quiet ((go_at_call 27; exact Calls.quiet_of_same (unhide HC _)))
              go_wp2
              go_ret2
              rw [unhide HRR]
              exact ⟨rfl, below_drewN (unhide hB) _⟩
            · go_wp2
              go_quiet ((go_at_call 27; exact Calls.quiet_of_same (unhide HC _)))
              go_wp2
              go_ret2
              rw [unhide HRR]
              exact ⟨rfl, below_drewN (unhide hB) _⟩
        · obtain rfl : n = k := by omega
          have HRR : Hid (joinR xs ⟨#[b]⟩ = (joinB ⟨#[b]⟩ xs, true)) := by
            have h1 := unhide hH
            have h2 := unhide hM (by omega)
            rw [List.take_of_length_le (by have := unhide HL; omega)] at h1 h2
            exact joinR_ok (by have := unhide HL; omega) h1 (by rw [unhide HL]; exact h2)
          rw [List.take_of_length_le (by have := unhide HL; omega)]
          clear hH hM
          go_wp2
          go_ret2
          rw [unhide HRR]
          exact ⟨rfl, unhide hB⟩
  · have HRR : Hid (joinR xs sep = (ByteArray.empty, false)) := joinR_sep h1
    have ht : ((sep.size : Int) != 1) = true := by simp; omega
    go_enter Tryd.func14, Tryd.ntmps14
    go_wp2
    go_ret2
    rw [unhide HRR]
    exact ⟨rfl, Below.refl _ _⟩

set_option maxHeartbeats 1000000 in
theorem implJoin_any (A : Option Addr) (n c : Nat) (xs : List ByteArray) (sep : ByteArray) (w : World) (hr : RT w w.heap.size A n xs) (hA : 0 < n → ∃ g, A = some ⟨g, 0, none⟩) (hc : n ≤ c) (hn : n ≤ 1048576) (hsep : sep.size ≤ 1048576) (hS : ∀ x ∈ xs, x.size ≤ 1048576) :
    Calls Tryd.prog 13 #[.slice A n c, .string sep] w (RetSB w (joinR xs sep).1 (joinR xs sep).2) := by
  have HL := hide hr.len
  have HR := hide hr
  have HS := hide hS
  clear hr hS
  by_cases h0 : n = 0
  · subst h0
    have HRR : Hid (joinR xs sep = (ByteArray.empty, false)) := by
      obtain rfl : xs = [] := List.eq_nil_of_length_eq_zero (unhide HL)
      exact joinR_nil _
    go_enter Tryd.func13, Tryd.ntmps13
    go_wp2
    go_ret2
    rw [unhide HRR]
    exact ⟨rfl, Below.refl _ _⟩
  have hn0 : 0 < n := by omega
  have hn1 : ((n : Int) == 0) = false := by simp; omega
  obtain ⟨g, rfl⟩ := hA hn0
  clear h0
  by_cases h1 : sep.size = 1
  · obtain ⟨b, rfl⟩ := one_byte h1
    clear h1
    go_enter Tryd.func13, Tryd.ntmps13
    go_wp2
    go_loop [6, 22] (fun v i => ∃ k : Nat, k ≤ n ∧ i = .int .i64 k ∧ v = .int .i64 ((n : Int) - 1 + lenT (xs.take k)) ∧ Hid (∀ y ∈ xs.take k, hasB y b = false) ∧ Hid (0 < k → n - 1 + lenT (xs.take k) ≤ 4000) ∧ lenT (xs.take k) ≤ 4000) (fun _ i => n - (intOf i).toNat)
    case atStart => exact ⟨0, Nat.zero_le _, rfl, by simp [lenT], by simp [Hid], by simp [Hid], by simp [lenT]⟩
    case round =>
      obtain ⟨k, hk, rfl, rfl, hH, hM, hl4⟩ := hrel
      by_cases hlt : k < n
      · obtain ⟨ad, x, hA, _, hx, hcx⟩ := (unhide HR).get hlt
        obtain rfl : ⟨g, 0, none⟩ = ad := by injection hA
        have hc' : w.cell? ⟨g, k, none⟩ = some (.string x) := by
          have e : (⟨g, 0, none⟩ : Addr).add k = ⟨g, k, none⟩ := by simp [Addr.add]; omega
          rw [← e]; exact hcx
        clear hcx hA
        have hx1 := unhide HS x (List.mem_of_getElem? (unhide hx))
        have HT : Hid (lenT (xs.take (k + 1)) = lenT (xs.take k) + x.size) := lenT_take_succ (unhide hx)
        by_cases hbig : n - 1 + lenT (xs.take (k + 1)) ≤ 4000
        · have hT := unhide HT
          rcases hb : hasB x b with _ | _
          · have HC : Hid (∀ W, Calls Tryd.prog 25 #[.string x, .string ⟨#[b]⟩] W fun e w' => e = .returned (.bool false) ∧ w' = W) := fun W => (Tryd.strings_Contains_one x b W).mono fun _ _ ⟨a, h⟩ => ⟨by rw [a, ← Lib.contains_iff_indexByte]; exact congrArg _ (congrArg _ hb), h⟩
            have HH2 := hide (has_step (unhide hH) (unhide hx) hb)
            have HM2 : Hid (0 < k + 1 → n - 1 + lenT (xs.take (k + 1)) ≤ 4000) := fun _ => hbig
            clear hb hH hM hx hT
            have hbig2 : (n : Int) - 1 + (lenT (xs.take k) : Int) + (x.size : Int) ≤ 4000 := by have := unhide HT; omega
            have hl5 : lenT (xs.take k) + x.size ≤ 4000 := by omega
            generalize lenT (xs.take k) = m at *
            clear hbig
            go_wp2_with (go_at_call 25; refine (unhide HC _).mono ?_; rintro e w' ⟨rfl, rfl⟩)
            go_round
            case rel => exact ⟨k + 1, by omega, by go_num, by rw [unhide HT]; go_num, HH2, HM2, by rw [unhide HT]; exact hl5⟩
            case measure => simp [intOf]; omega
          · have HRR : Hid (joinR xs ⟨#[b]⟩ = (ByteArray.empty, false)) := joinR_has (unhide hx) hb
            have HC : Hid (∀ W, Calls Tryd.prog 25 #[.string x, .string ⟨#[b]⟩] W fun e w' => e = .returned (.bool true) ∧ w' = W) := fun W => (Tryd.strings_Contains_one x b W).mono fun _ _ ⟨a, h⟩ => ⟨by rw [a, ← Lib.contains_iff_indexByte]; exact congrArg _ (congrArg _ hb), h⟩
            clear hb hH hM hx HT
            generalize lenT (xs.take (k + 1)) = m' at *
            generalize lenT (xs.take k) = m at *
            subst hT
            go_wp2_with (go_at_call 25; refine (unhide HC _).mono ?_; rintro e w' ⟨rfl, rfl⟩)
            go_ret2
            rw [unhide HRR]
            exact ⟨rfl, Below.refl _ _⟩
        · have HRR : Hid (joinR xs ⟨#[b]⟩ = (ByteArray.empty, false)) := joinR_long (k := k + 1) (by have := unhide HL; omega)
          have hT := unhide HT
          clear hH hM hx HT
          generalize lenT (xs.take (k + 1)) = m' at *
          generalize lenT (xs.take k) = m at *
          subst hT
          have hb4 : (4000 : Int) < (n : Int) - 1 + (m : Int) + (x.size : Int) := by omega
          go_wp2_with fail
          go_ret2
          rw [unhide HRR]
          exact ⟨rfl, Below.refl _ _⟩
      · obtain rfl : n = k := by omega
        have HRR : Hid (joinR xs ⟨#[b]⟩ = (joinB ⟨#[b]⟩ xs, true)) := by
          have h1 := unhide hH
          have h2 := unhide hM (by omega)
          rw [List.take_of_length_le (by have := unhide HL; omega)] at h1 h2
          exact joinR_ok (by have := unhide HL; omega) h1 (by rw [unhide HL]; exact h2)
        have HC : Hid (∀ W, W = w → Calls Tryd.prog 26 #[.slice (some ⟨g, 0, none⟩) n c, .string ⟨#[b]⟩] W fun e w' => e = .returned (.string (joinB ⟨#[b]⟩ xs)) ∧ Below W.heap.size W w') := by
          rintro W rfl
          have hl := unhide HL
          subst hl
          obtain ⟨ad, hA, hbk, hcell⟩ := (unhide HR).2 (by omega)
          obtain rfl : ⟨g, 0, none⟩ = ad := by injection hA
          refine Tryd.strings_Join g 0 c xs ⟨#[b]⟩ W (fun j x hx => ?_) hbk (by omega) hc ?_
          · have h9 := hcell j (.string x) (by rw [cT_get, hx]; rfl)
            have e : (⟨g, 0, none⟩ : Addr).add j = ⟨g, 0 + j, none⟩ := by simp [Addr.add]; omega
            rw [← e]; exact h9
          · have h9 := joinB_size (sep := ⟨#[b]⟩) (xs := xs) rfl (by omega)
            have h2 := unhide hM (by omega)
            rw [List.take_of_length_le (Nat.le_refl _)] at h2
            rw [Lib.size_eq, joinB_data] at h9
            omega
        clear hH hM hl4
        go_wp2_with fail
        refine (unhide HC _ rfl).mono ?_
        rintro e w2 ⟨rfl, hb⟩
        have HB := hide hb
        clear hb
        go_wp2_with fail
        go_ret2
        rw [unhide HRR]
        exact ⟨rfl, unhide HB⟩
  · have HRR : Hid (joinR xs sep = (ByteArray.empty, false)) := joinR_sep h1
    have ht : ((sep.size : Int) != 1) = true := by simp; omega
    go_enter Tryd.func13, Tryd.ntmps13
    go_wp2
    go_ret2
    rw [unhide HRR]
    exact ⟨rfl, Below.refl _ _⟩
end Go.Proofs.YtibnindjdbkmcaaDoor
