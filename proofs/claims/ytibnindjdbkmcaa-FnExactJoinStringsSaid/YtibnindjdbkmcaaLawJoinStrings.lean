/- The walk of the law FnExactJoinStrings: it says true, at every input; what was there stays as it was. -/
import Derived.Test.YtibnindjdbkmcaaProg
import Derived.Test.YtibnindjdbkmcaaJoin
namespace Go.Proofs.Ytibnindjdbkmcaa
open Go.RowKit
set_option linter.unusedVariables false

theorem size_le_lenT {xs : List ByteArray} {x : ByteArray} (h : x ∈ xs) : x.size ≤ lenT xs := by
  induction xs with
  | nil => cases h
  | cons y l ih =>
    simp only [lenT, List.map_cons, List.sum_cons] at ih ⊢
    rcases List.mem_cons.1 h with rfl | h
    · omega
    · have := ih h; omega
theorem ownT_cap {w : World} {lo n c : Nat} {A : Option Addr} {xs : List ByteArray} (h : OwnT w lo A n c xs) : n ≤ c := by
  rcases h.2 with ⟨hv, h0⟩ | ⟨g, cap, cur, hv, hg, hh, hle, hm, _⟩
  · omega
  · injection hv with _ _ h3
    omega
set_option maxHeartbeats 2000000 in
set_option maxRecDepth 100000 in
theorem law_JoinStrings (A : Option Addr) (n c : Nat) (xs : List ByteArray) (sep : ByteArray) (w : World) (hr : RT w w.heap.size A n xs) (hm : n ≤ 9223372036854775807) (hs : ∀ x ∈ xs, x.size ≤ 9223372036854775807) (hq : sep.size ≤ 9223372036854775807) :
    Calls Try.prog 6 #[.slice A n c, .string sep] w fun e w' => e = .returned (.bool true) ∧ Below w.heap.size w w' := by
  by_cases hb : 1048576 < sep.size
  · clear hr hs
    go_enter Try.func6, Try.ntmps6
    go_wp2_with fail
    go_ret
    exact ⟨rfl, Below.refl _ _⟩
  have hb2 : sep.size ≤ 1048576 := by omega
  clear hb
  have HL := hide hr.len
  by_cases hbig : (1048576 : Int) - n - lenT xs < 0
  · have HZ : Hid (∀ W, W = w → Calls Try.prog 11 #[.slice A n c, .int .i64 1048576] W fun e w' => e = .returned (.int .i64 (-1)) ∧ W = w') := by
      rintro W rfl
      have Z := szStringS_any A n c xs 1048576 W hr hm (by omega) (by omega) hs
      have e : szT 1048576 xs = -1 := by unfold szT; rw [unhide HL, if_pos hbig]
      rw [e] at Z
      exact Z
    clear hr hs hbig
    go_enter Try.func6, Try.ntmps6
    go_wp2_with fail
    refine (unhide HZ _ rfl).mono ?_
    rintro e w1 ⟨rfl, rfl⟩
    go_wp2_with fail
    go_ret
    exact ⟨rfl, Below.refl _ _⟩
  obtain ⟨r, hr0, HZ⟩ : ∃ r : Int, 0 ≤ r ∧ Hid (∀ W, W = w → Calls Try.prog 11 #[.slice A n c, .int .i64 1048576] W fun e w' => e = .returned (.int .i64 r) ∧ W = w') := by
    refine ⟨1048576 - n - lenT xs, by omega, ?_⟩
    rintro W rfl
    have Z := szStringS_any A n c xs 1048576 W hr hm (by omega) (by omega) hs
    have e : szT 1048576 xs = 1048576 - n - lenT xs := by unfold szT; rw [unhide HL, if_neg hbig]
    rw [e] at Z
    exact Z
  have hn : n ≤ 1048576 := by omega
  have HS : Hid (∀ x ∈ xs, x.size ≤ 1048576) := fun x hx => by have := size_le_lenT hx; omega
  have HR := hide hr
  clear hr hs hbig
  obtain ⟨s1, b1, HSp, HIm⟩ : ∃ (s1 : ByteArray) (b1 : Bool), Hid (∀ (W : World) (A' : Option Addr) (n' c' : Nat), OwnT W 0 A' n' c' xs → n' = n → Calls Try.prog 12 #[.slice A' n' c', .string sep] W (RetSB W s1 b1)) ∧ Hid (∀ (W : World) (A' : Option Addr) (n' c' : Nat), OwnT W 0 A' n' c' xs → n' = n → Calls Try.prog 14 #[.slice A' n' c', .string sep] W (RetSB W s1 b1)) :=
    ⟨_, _, fun W A' n' c' h e => specJoin_any A' n' c' xs sep W h.rt (by omega) hb2 (unhide HS), fun W A' n' c' h e => implJoin_any A' n' c' xs sep W h.rt (fun h0 => by obtain ⟨g, hg, _⟩ := h.form h0; exact ⟨g, hg⟩) (ownT_cap h) (by omega) hb2 (unhide HS)⟩
  have HB0 := hide (Below.refl w.heap.size w)
  go_enter Try.func6, Try.ntmps6
  go_wp2_with fail
  refine (unhide HZ _ rfl).mono ?_
  rintro e wz ⟨rfl, rfl⟩
  go_wp2_with fail
  refine (toStringS_any A n c xs _ (unhide HR) hn).mono ?_
  rintro e w1 ⟨A1, n1, c1, rfl, hO, hb1⟩
  have hn1 : n1 = n := by have := hO.len; have := unhide HL; omega
  have HO1 := hide (hO.less (Nat.zero_le _))
  have HN1 := hide hn1
  have HB1 := hide (below_next (unhide HB0) hb1)
  clear hO hb1 hn1
  go_wp2_with fail
  refine (unhide HSp _ A1 n1 c1 (unhide HO1) (unhide HN1)).mono ?_
  rintro e w2 ⟨rfl, hb⟩
  have HB2 := hide (below_next (unhide HB1) hb)
  clear hb HO1 HN1
  go_wp2_with fail
  refine (toStringS_any A n c xs _ (((unhide HR).below (unhide HB2)).more (unhide HB2).size) hn).mono ?_
  rintro e w3 ⟨A3, n3, c3, rfl, hO, hb⟩
  have hn3 : n3 = n := by have := hO.len; have := unhide HL; omega
  have HO3 := hide (hO.less (Nat.zero_le _))
  have HN3 := hide hn3
  have HB3 := hide (below_next (unhide HB2) hb)
  clear hO hb hn3
  go_wp2_with fail
  refine (unhide HIm _ A3 n3 c3 (unhide HO3) (unhide HN3)).mono ?_
  rintro e w4 ⟨rfl, hb⟩
  have HB4 := hide (below_next (unhide HB3) hb)
  have HO4 := hide ((unhide HO3).below hb (Nat.le_refl _))
  clear hb HO3
  have t1 : (s1.toList == s1.toList) = true := by simp
  go_wp2_with fail
  refine (toStringS_any A n c xs _ (((unhide HR).below (unhide HB4)).more (unhide HB4).size) hn).mono ?_
  rintro e w5 ⟨A5, n5, c5, rfl, hO, hb⟩
  have hn5 : n5 = n := by have := hO.len; have := unhide HL; omega
  have HO5 := hide hO
  have HN5 := hide hn5
  have HB5 := hide (below_next (unhide HB4) hb)
  have HO6 := hide ((unhide HO4).below hb (Nat.le_refl _))
  clear hO hb hn5 HO4
  go_wp2_with fail
  refine (eqStringS_any A3 A5 n3 n5 c3 c5 _ _ xs xs _ (unhide HO6).rt (unhide HO5).rt (unhide HO6).max (unhide HO5).max).mono ?_
  rintro e w7 ⟨rfl, hb⟩
  have HB7 := hide (below_next (unhide HB5) hb)
  clear hb
  have t2 : decide (xs = xs) = true := by simp
  go_wp2_with fail
  go_ret
  exact ⟨rfl, unhide HB7⟩
end Go.Proofs.Ytibnindjdbkmcaa
