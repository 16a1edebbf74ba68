/- Chapter 5, the walks: the marks and ticks that the reference draws: some fresh track, some number. -/
import Derived.Test.YtmpgafanlgnpeaaProg
import Derived.Test.YtmpgafanlgnpeaaDraw
import Derived.Test.YtmpgafanlgnpeaaAddB
import Derived.Deep.RegionHeld3
namespace Go.Proofs.Ytmpgafanlgnpeaa
open Go.RowKit

section
variable {w w' : World} {g lo : Nat} {E : TypeId} {ys : List (Int × Int)} {B : Option Addr} {k d : Nat}
theorem OwnP.gr (h : OwnP w lo E B k d ys) (hg : w.grownBy w' (some g)) (hl : g < lo) : OwnP w' lo E B k d ys := by
  refine h.kept hg ?_
  rcases hv : (Value.slice B k d).ownBlock with _ | r
  · exact .inl rfl
  · exact .inr fun e => by have := (h.lt hv).1; injection e with e; omega
theorem OwnP.dr (h : OwnP w lo E B k d ys) : OwnP w.drew lo E B k d ys := h
/-- a row lies in another block than one that is known whole (of another type or below) -/
theorem OwnP.far (h : OwnP w lo E B k d ys) {p : Addr} (hp : ∀ r, (Value.slice B k d).ownBlock = some r → r ≠ p.block) (u : Value) : OwnP (w.setCell p u) lo E B k d ys := by
  refine h.kept (grown_set w p u) ?_
  rcases hv : (Value.slice B k d).ownBlock with _ | r
  · exact .inl rfl
  · exact .inr fun e => by injection e with e; exact hp r hv e
end
/-- an append of a mark at any row of one's own -/
theorem append_mark1 (w : World) {ops : Array Oper} {rest : List Oper} {o : Oper} {a : Act} {Q : Exit → Act → World → Prop} (hgd : o.guard = none) (s x : Operand)
    (ho : o.op = .call { callee := .builtin .append, args := #[s, x], argTypes := #[25, 25] })
    (lo : Nat) (A : Option Addr) (n c : Nat) (xs : List (Int × Int)) (hs : a.eval s = .slice A n c) (hown : OwnP w lo 43 A n c xs) (hlo : lo ≤ w.heap.size)
    (B : Option Addr) (m c2 L : Nat) (ys : List (Int × Int)) (hx : a.eval x = .slice B m c2) (hr : RP w L B m ys) (hn : n + m ≤ 1000000000)
    (h : ∀ A' c' w', OwnP w' lo 43 A' (n + m) c' (xs ++ ys) → w.grownBy w' (Value.slice A n c).ownBlock → ((Value.slice A' (n + m) c').ownBlock = (Value.slice A n c).ownBlock ∨ (Value.slice A' (n + m) c').ownBlock = some w.heap.size) → wpList Try.prog ops Q rest (a.put o.dst (.slice A' (n + m) c')) w') : wpList Try.prog ops Q (o :: rest) a w := by
  obtain ⟨i0, hi, hz0, hz1, hz2⟩ := info_parts info_ClockMark
  exact wpList_append_many w hgd s x 25 ho lo 43 i0 (.agg #[.int .i64 0, .int .i64 0]) 2 16 Try.underlying25 hi hz0 hz1 hz2 rfl (by decide) A n c (cP xs) hs hown L B m c2 (cP ys) hx hr (cP_one ys) (by unfold maxLen; omega) (by omega) hlo
    fun A' c' w' h2 h3 h4 => h A' c' w' (by unfold OwnP; rw [cP_append]; exact h2) h3 h4

/-- a block that a growth elsewhere doesn't touch -/
theorem Whl.off {w w' : World} {m : Nat} {t : TypeId} {cs : Array Value} {row : Option Nat} (h : Whl w m t cs) (hg : w.grownBy w' row) (hne : ∀ r, row = some r → r ≠ m) : Whl w' m t cs := (hg.block m h.lt (fun e => hne m e.symm rfl)).trans h
def lenS : Value → Nat
  | .slice _ m _ => m
  | _ => 0
/-- some fresh marks, one at least, and the cursor -/
def RetTr (w : World) (g : Nat) (A : Option Addr) (n c : Nat) (xs : List Int) (b : Nat) (e : Ending) (w' : World) : Prop :=
  ∃ (A' : Option Addr) (n' c' : Nat) (ts : List (Int × Int)), e = .returned (.slice A' n' c') ∧ OwnP w' w.heap.size 43 A' n' c' ts ∧ (1 ≤ n' ∧ n' ≤ 12) ∧ Cur w' g A n c xs b ∧ w.grownBy w' (some g)

set_option maxHeartbeats 4000000 in
set_option maxRecDepth 100000 in
theorem track_any (g n c b : Nat) (A : Option Addr) (xs : List Int) (w : World) (h : Cur w g A n c xs b) (hn : n ≤ 1048576) (hb : b ≤ 1000000) :
    Calls Try.prog 84 #[.pointer (some ⟨g, 0, none⟩)] w (RetTr w g A n c xs (b + 100)) := by
  have HC := hide h
  have hgl := h.lt
  clear h
  go_enter Try.func84, Try.ntmps84
  go_wp2_with fail
  refine (among_lit g n c b _ A xs (w.alloc (.cells #[] 43)) (by simp) [0, 0, 100, 900000] 4 _ (fun x => 0 ≤ x ∧ x ≤ 900000) rfl rfl (by omega) (by omega) (by simp) ((unhide HC).alloc _) hn (by omega)).mono ?_
  rintro e w1 ⟨m0, rfl, ⟨m00, m01⟩, hC, hg⟩
  have HC1 := hide hC
  have HG1 := hide (grownBy_trans (grown_alloc (World.grownBy.refl w _) _) hg)
  have z1 : w.heap.size + 1 ≤ w1.heap.size := by have := hg.size; simpa using this
  have HO1 := hide ((OwnP.empty (lo := w.heap.size) w 43 (Nat.le_refl _)).gr hg hgl)
  clear hC hg
  go_wp2_with fail
  refine (among_lit g n c (b + 2) _ A xs w1 rfl [0, 5, 100, 899990] 4 _ (fun x => 0 ≤ x ∧ x ≤ 900000) rfl rfl (by omega) (by omega) (by simp) (unhide HC1) hn (by omega)).mono ?_
  rintro e w2 ⟨m1, rfl, ⟨m10, m11⟩, hC, hg⟩
  have HC2 := hide hC
  have HG2 := hide (grownBy_trans (unhide HG1) hg)
  have HO2 := hide ((unhide HO1).gr hg hgl)
  have z2 : w.heap.size + 1 ≤ w2.heap.size := Nat.le_trans z1 hg.size
  clear hC hg HC1 HG1 HO1
  go_wp2_with fail
  refine (pick_any g n c (b + 4) A xs 4 _ ((unhide HC2).alloc _) hn (by omega) (by omega) (by omega)).mono ?_
  rintro e w3 ⟨x, rfl, ⟨x0, x1⟩, hC, hg⟩
  obtain ⟨p, rfl⟩ : ∃ k : Nat, x = (k : Int) := ⟨x.toNat, by omega⟩
  have hlw : w.heap.size < w2.heap.size := z2
  have hgm : g ≠ w2.heap.size := by omega
  have HC3 := hide hC
  have HK3 := hide ((Whl.here w2 43 #[.int .i64 m0, .int .i64 m1]).gr hg hgm)
  have HG3 := hide (grownBy_trans (unhide HG2) (grownBy_trans (grown_alloc (World.grownBy.refl w2 _) _) hg))
  have HO3 := hide (((unhide HO2).alloc (.cells #[.int .i64 m0, .int .i64 m1] 43)).gr hg hgl)
  have HD3 : Hid (∀ r, (Value.slice (some ⟨w.heap.size, 0, none⟩) 0 0).ownBlock = some r → r ≠ w2.heap.size) := fun r e => by simp [Value.ownBlock] at e; omega
  have hp : p ≤ 3 := by omega
  clear hC hg x0 x1 HC2 HG2 HO2 z1 z2
  generalize w2.heap.size = km at *
  go_wp2_with fail
  go_loopw [3, 5] (fun v i wr => ∃ (k m : Nat) (A' : Option Addr) (c' q : Nat) (ts : List (Int × Int)) (a d : Int), v = .slice A' m c' ∧ i = .int .i64 k ∧ (2 ≤ m + k ∧ m + k ≤ 5) ∧ q + 4 * k ≤ b + 30 ∧ Hid (OwnP wr w.heap.size 43 A' m c' ts) ∧ Hid (∀ r, (Value.slice A' m c').ownBlock = some r → r ≠ km) ∧ Hid (Whl wr km 43 #[.int .i64 a, .int .i64 d]) ∧ Hid (Cur wr g A n c xs q) ∧ Hid (w.grownBy wr (some g))) (fun _ i _ => (intOf i).toNat)
  case atStart => exact ⟨2 + p, 0, _, _, b + 6, [], m0, m1, rfl, by go_num, by omega, by omega, HO3, HD3, HK3, HC3, HG3⟩
  case round =>
    obtain ⟨k, m, A', c', q, ts, a, d, rfl, rfl, hmk, hqk, hO, hD, hK, hC, hG⟩ := hrel
    clear HO3 HD3 HK3 HC3 HG3
    rcases k with _ | k
    · go_wp2_with fail
      refine (pick_any g n c q A xs m wr (unhide hC) hn (by omega) (by omega) (by omega)).mono ?_
      rintro e w4 ⟨x, rfl, ⟨x0, x1⟩, hC4, hg⟩
      obtain ⟨j, rfl⟩ : ∃ k : Nat, x = (k : Int) := ⟨x.toNat, by omega⟩
      have hj : j < m := by omega
      have HC4 := hide hC4
      have HG4 := hide (grownBy_trans (unhide hG) hg)
      have HO4 := hide ((unhide hO).gr hg hgl)
      have HK4 := hide ((unhide hK).gr hg hgm)
      obtain ⟨gb, rfl, hgb, hgb2, hmc⟩ := (unhide HO4).form (by omega)
      have hgk : gb ≠ km := unhide hD gb rfl
      have hm5 : m ≤ 5 := by omega
      have hm2 : 2 ≤ m := by omega
      have hq5 : q ≤ b + 30 := by omega
      clear hC4 hg hO hK hC hG hmk hqk x0 x1 hD
      obtain ⟨p0, p1, hx, c0, c1, _, _⟩ := (unhide HO4).el hj
      have l1 : (j : Int) < (m : Int) := by omega
      have l2 : (0 : Int) ≤ (j : Int) := by omega
      clear hx
      go_wp2_with fail
      --TAIL
      refine (pick_any g n c (q + 2) A xs 60 _ ((unhide HC4).alloc _) hn (by omega) (by omega) (by omega)).mono ?_
      rintro e w5 ⟨y, rfl, ⟨y0, y1⟩, hC, hg⟩
      have hgx : g ≠ w4.heap.size := by have := (unhide HC4).lt; omega
      have hbx : gb ≠ w4.heap.size := by omega
      have hkx : km ≠ w4.heap.size := by have := (unhide HK4).lt; omega
      have hwx : w.heap.size < w4.heap.size := by have := (unhide HK4).lt; omega
      have HC5 := hide hC
      have HX5 := hide ((Whl.here w4 43 #[.int .i64 p0, .int .i64 p1]).gr hg hgx)
      have HG5 := hide (grownBy_trans (unhide HG4) (grownBy_trans (grown_alloc (World.grownBy.refl w4 _) _) hg))
      have HO5 := hide (((unhide HO4).alloc (.cells #[.int .i64 p0, .int .i64 p1] 43)).gr hg hgl)
      have HK5 := hide (((unhide HK4).alloc (.cells #[.int .i64 p0, .int .i64 p1] 43)).gr hg hgm)
      clear hC hg HC4 HG4 HO4 HK4 c0 c1
      generalize w4.heap.size = kx at *
      have hcs : y = 0 ∨ y = 1 ∨ y = 2 ∨ y = 3 ∨ (y == 0) = false ∧ (y == 1) = false ∧ (y == 2) = false ∧ (y == 3) = false := by
        simp only [beq_eq_false_iff_ne, ne_eq]
        omega
      rcases hcs with rfl | rfl | rfl | rfl | ⟨n0, n1, n2, n3⟩
      · go_wp2_with fail
        refine (among_lit g n c (q + 2 + 2) _ A xs w5 rfl [-1, 1000001, 50] 3 _ (fun _ => True) rfl rfl (by omega) (by omega) (by simp) (unhide HC5) hn (by omega)).mono ?_
        rintro e w6 ⟨z, rfl, _, hC, hg⟩
        have HX6 := hide ((unhide HX5).gr hg hgx)
        have HC6 := hide ((unhide HC5).alloc (.cells #[.int .i64 0] 3))
        have f6 : w6.frozen? ⟨kx, 0, none⟩ = false := (unhide HX6).frozen 0
        have HC7 := hide (hC.set (p := ⟨kx, 0, none⟩) (Nat.lt_trans hgl hwx) (.int .i64 z))
        have HG7 := hide (grown_set' (grownBy_trans (unhide HG5) hg) (p := ⟨kx, 0, none⟩) (Nat.le_of_lt hwx) (.int .i64 z))
        have HO7 := hide (((unhide HO5).gr hg hgl).far (p := ⟨kx, 0, none⟩) (fun r e => by injection e with e; subst e; exact hbx) (.int .i64 z))
        have HX7 : Hid (Whl (w6.setCell ⟨kx, 0, none⟩ (.int .i64 z)) kx 43 #[.int .i64 z, .int .i64 p1]) := hide ((unhide HX6).store 0 (.int .i64 z))
        clear hC hg HC6 HC5 HG5 HO5 HK5 HX5
        have c60 : w6.cell? ⟨kx, 0, none⟩ = some (.int .i64 p0) := (unhide HX6).cell 0
        have c61 : w6.cell? ⟨kx, 1, none⟩ = some (.int .i64 p1) := (unhide HX6).cell 1
        obtain ⟨gc, hgc, hgc1, hgc2, _, _, f0, f1, hO2, hgr⟩ := (unhide HO7).store (k := j) (by omega) z p1
        obtain rfl : gb = gc := by simpa using hgc
        obtain ⟨q0, q1, _, c0, c1, _, _⟩ := (unhide HO7).el (j := j) (by omega)
        have x0 : (w6.setCell ⟨kx, 0, none⟩ (.int .i64 z)).cell? ⟨kx, 0, none⟩ = some (.int .i64 z) := (unhide HX7).cell 0
        have x1 : (w6.setCell ⟨kx, 0, none⟩ (.int .i64 z)).cell? ⟨kx, 1, none⟩ = some (.int .i64 p1) := (unhide HX7).cell 1
        have HO9 := hide hO2
        have HC9 := hide (((unhide HC7).grown hgr fun r e => by injection e with e; omega).more (b' := b + 100) (by omega))
        have HG9 := hide (grown_into (unhide HG7) hgr fun r e => by injection e with e; omega)
        clear hO2 hgr hgc
        have l9 : (j : Int) < (m : Int) := by omega
        go_wp2_with fail
        go_ret
        exact ⟨_, _, _, _, rfl, unhide HO9, ⟨by omega, by omega⟩, unhide HC9, unhide HG9⟩
      · go_wp2_with fail
        refine (among_lit g n c (q + 2 + 2) _ A xs w5 rfl [-1, 1000001, 50] 3 _ (fun _ => True) rfl rfl (by omega) (by omega) (by simp) (unhide HC5) hn (by omega)).mono ?_
        rintro e w6 ⟨z, rfl, _, hC, hg⟩
        have HX6 := hide ((unhide HX5).gr hg hgx)
        have HC6 := hide ((unhide HC5).alloc (.cells #[.int .i64 0] 3))
        have f6 : w6.frozen? ⟨kx, 1, none⟩ = false := (unhide HX6).frozen 1
        have HC7 := hide (hC.set (p := ⟨kx, 1, none⟩) (Nat.lt_trans hgl hwx) (.int .i64 z))
        have HG7 := hide (grown_set' (grownBy_trans (unhide HG5) hg) (p := ⟨kx, 1, none⟩) (Nat.le_of_lt hwx) (.int .i64 z))
        have HO7 := hide (((unhide HO5).gr hg hgl).far (p := ⟨kx, 1, none⟩) (fun r e => by injection e with e; subst e; exact hbx) (.int .i64 z))
        have HX7 : Hid (Whl (w6.setCell ⟨kx, 1, none⟩ (.int .i64 z)) kx 43 #[.int .i64 p0, .int .i64 z]) := hide ((unhide HX6).store 1 (.int .i64 z))
        clear hC hg HC6 HC5 HG5 HO5 HK5 HX5
        have c60 : w6.cell? ⟨kx, 0, none⟩ = some (.int .i64 p0) := (unhide HX6).cell 0
        have c61 : w6.cell? ⟨kx, 1, none⟩ = some (.int .i64 p1) := (unhide HX6).cell 1
        obtain ⟨gc, hgc, hgc1, hgc2, _, _, f0, f1, hO2, hgr⟩ := (unhide HO7).store (k := j) (by omega) p0 z
        obtain rfl : gb = gc := by simpa using hgc
        obtain ⟨q0, q1, _, c0, c1, _, _⟩ := (unhide HO7).el (j := j) (by omega)
        have x0 : (w6.setCell ⟨kx, 1, none⟩ (.int .i64 z)).cell? ⟨kx, 0, none⟩ = some (.int .i64 p0) := (unhide HX7).cell 0
        have x1 : (w6.setCell ⟨kx, 1, none⟩ (.int .i64 z)).cell? ⟨kx, 1, none⟩ = some (.int .i64 z) := (unhide HX7).cell 1
        have HO9 := hide hO2
        have HC9 := hide (((unhide HC7).grown hgr fun r e => by injection e with e; omega).more (b' := b + 100) (by omega))
        have HG9 := hide (grown_into (unhide HG7) hgr fun r e => by injection e with e; omega)
        clear hO2 hgr hgc
        have l9 : (j : Int) < (m : Int) := by omega
        go_wp2_with fail
        go_ret
        exact ⟨_, _, _, _, rfl, unhide HO9, ⟨by omega, by omega⟩, unhide HC9, unhide HG9⟩
      · have hcap := (unhide HO5).cap
        have HO6 := hide (ownP_cut (unhide HO5) (k := 1) (by omega))
        have l8 : (1 : Int) ≤ (m : Int) := by omega
        have l9 : (1 : Nat) ≤ c' := by omega
        go_wp2_with fail
        go_ret
        exact ⟨_, _, _, _, rfl, unhide HO6, ⟨by omega, by omega⟩, (unhide HC5).more (by omega), unhide HG5⟩
      · go_wp2_with fail
        go_loopw [3] (fun v wr => ∃ (m' : Nat) (gb' c'' q' : Nat) (ts' : List (Int × Int)) (a' d' : Int), v = .slice (some ⟨gb', 0, none⟩) m' c'' ∧ (j < m' ∧ m' ≤ 11) ∧ q' ≤ b + 40 + 2 * m' ∧ gb' ≠ km ∧ gb' ≠ kx ∧ Hid (OwnP wr w.heap.size 43 (some ⟨gb', 0, none⟩) m' c'' ts') ∧ Hid (Whl wr km 43 #[.int .i64 a', .int .i64 d']) ∧ Hid (Whl wr kx 43 #[.int .i64 p0, .int .i64 p1]) ∧ Hid (Cur wr g A n c xs q') ∧ Hid (w.grownBy wr (some g))) (fun v _ => 12 - lenS v)
        case atStart => exact ⟨m, gb, c', q + 2 + 2, ts, a, d, rfl, by omega, by omega, hgk, hbx, HO5, HK5, HX5, HC5, HG5⟩
        case round =>
          obtain ⟨m', gb', c'', q', ts', a', d', rfl, ⟨hjm, hm11⟩, hq', hgk', hbx', hO, hK, hX, hC, hG⟩ := hrel
          clear HO5 HK5 HX5 HC5 HG5
          go_wp2_with fail
          refine (pick_any g n c q' A xs 2 _ (unhide hC) hn (by omega) (by omega) (by omega)).mono ?_
          rintro e w6 ⟨z, rfl, ⟨z0, z1⟩, hC6, hg⟩
          have HC6 := hide hC6
          have HG6 := hide (grownBy_trans (unhide hG) hg)
          have HO6 := hide ((unhide hO).gr hg hgl)
          have HK6 := hide ((unhide hK).gr hg hgm)
          have HX6 := hide ((unhide hX).gr hg hgx)
          clear hC6 hg hO hK hX hC hG
          by_cases hmz : (m' : Int) < 10 + z
          · have k0 : w6.cell? ⟨km, 0, none⟩ = some (.int .i64 a') := (unhide HK6).cell 0
            have k1 : w6.cell? ⟨km, 1, none⟩ = some (.int .i64 d') := (unhide HK6).cell 1
            have hls : w.heap.size ≤ w6.heap.size := (unhide HG6).size
            have HNE : Hid (∀ r, (Value.slice (some ⟨gb', 0, none⟩) m' c'').ownBlock = some r → r ≠ km ∧ r ≠ kx ∧ g < r ∧ w.heap.size ≤ r) := fun r e => by
              have h9 := (OwnP.lt (unhide HO6) e).1
              injection e with e
              subst e
              exact ⟨hgk', hbx', Nat.lt_of_lt_of_le hgl h9, h9⟩
            have HKL := hide (unhide HK6).lt
            have HXL := hide (unhide HX6).lt
            go_wp2_with (at_builtin; refine append_mark1 _ rfl _ _ rfl w.heap.size (some ⟨gb', 0, none⟩) m' c'' ts' rfl ((unhide HO6).alloc _) ?_ _ 1 1 _ [(a', d')] rfl (rp_one (T := 43) (Whl.here _ _ _) (Nat.lt_succ_self _)) ?_ ?_; (simp; omega); omega; intro A2 c2 w7 hO4 hg4 hl4; have HK7 := hide (((unhide HK6).alloc _).off hg4 fun r e => (unhide HNE r e).1); have HX7 := hide (((unhide HX6).alloc _).off hg4 fun r e => (unhide HNE r e).2.1); have HC7 := hide (((unhide HC6).alloc _).grown hg4 fun r e => (unhide HNE r e).2.2.1); have HG7 := hide (grown_into (grown_alloc (unhide HG6) _) hg4 fun r e => (unhide HNE r e).2.2.2); have HO7 := hide hO4; have HL7 := hide hl4; clear hO4 hg4 hl4; have k0' : w7.cell? ⟨km, 0, none⟩ = some (.int .i64 a') := (unhide HK7).cell 0; have k1' : w7.cell? ⟨km, 1, none⟩ = some (.int .i64 d') := (unhide HK7).cell 1; have f0' : w7.frozen? ⟨km, 0, none⟩ = false := (unhide HK7).frozen 0; have f1' : w7.frozen? ⟨km, 1, none⟩ = false := (unhide HK7).frozen 1)
            obtain ⟨gd, rfl, hgd, hgd2, _⟩ := (unhide HO7).form (by omega)
            have hD7 : gd ≠ km ∧ gd ≠ kx := by
              have h1 := unhide HKL
              have h2 := unhide HXL
              rcases unhide HL7 with h9 | h9
              · have e1 : (some gd : Option Nat) = some gb' := h9
                injection e1 with e1
                subst e1
                exact ⟨hgk', hbx'⟩
              · have e1 : (some gd : Option Nat) = some (w6.alloc (.cells #[.int .i64 a', .int .i64 d'] 43)).heap.size := h9
                injection e1 with e1
                simp at e1
                omega
            have hgw : g < km := Nat.lt_trans hgl hlw
            generalize RowKit.wrap64 (a' + 2) = a2
            generalize RowKit.wrap64 (d' + 3) = d2
            go_roundw
            case rel => exact ⟨m' + 1, gd, c2, q' + 2, _, a2, d2, rfl, by omega, by omega, hD7.1, hD7.2, ((unhide HO7).far (p := ⟨km, 0, none⟩) (fun r e => by injection e with e; subst e; exact hD7.1) _).far (p := ⟨km, 1, none⟩) (fun r e => by injection e with e; subst e; exact hD7.1) _, ((unhide HK7).store 0 _).store 1 _, ((unhide HX7).far (p := ⟨km, 0, none⟩) hkx.symm _).far (p := ⟨km, 1, none⟩) hkx.symm _, ((unhide HC7).set (p := ⟨km, 0, none⟩) hgw _).set (p := ⟨km, 1, none⟩) hgw _, grown_set' (grown_set' (unhide HG7) (p := ⟨km, 0, none⟩) (Nat.le_of_lt hlw) _) (p := ⟨km, 1, none⟩) (Nat.le_of_lt hlw) _⟩
            case measure => simp [lenS] <;> omega
          · skip
            obtain ⟨gc, hgc, hgc1, hgc2, _, _, f0, f1, hO2, hgr⟩ := (unhide HO6).store (k := j) (by omega) p0 p1
            obtain rfl : gb' = gc := by simpa using hgc
            obtain ⟨q0, q1, _, c0, c1, _, _⟩ := (unhide HO6).el (j := j) (by omega)
            have x0 : w6.cell? ⟨kx, 0, none⟩ = some (.int .i64 p0) := (unhide HX6).cell 0
            have x1 : w6.cell? ⟨kx, 1, none⟩ = some (.int .i64 p1) := (unhide HX6).cell 1
            have HO9 := hide hO2
            have HC9 := hide (((unhide HC6).grown hgr fun r e => by injection e with e; omega).more (b' := b + 100) (by omega))
            have HG9 := hide (grown_into (unhide HG6) hgr fun r e => by injection e with e; omega)
            clear hO2 hgr hgc
            have l9 : (j : Int) < (m' : Int) := by omega
            go_wp2_with fail
            go_ret
            exact ⟨_, _, _, _, rfl, unhide HO9, ⟨by omega, by omega⟩, unhide HC9, unhide HG9⟩
      · skip
        obtain ⟨gc, hgc, hgc1, hgc2, _, _, f0, f1, hO2, hgr⟩ := (unhide HO5).store (k := j) (by omega) p0 p1
        obtain rfl : gb = gc := by simpa using hgc
        obtain ⟨q0, q1, _, c0, c1, _, _⟩ := (unhide HO5).el (j := j) (by omega)
        have x0 : w5.cell? ⟨kx, 0, none⟩ = some (.int .i64 p0) := (unhide HX5).cell 0
        have x1 : w5.cell? ⟨kx, 1, none⟩ = some (.int .i64 p1) := (unhide HX5).cell 1
        have HO9 := hide hO2
        have HC9 := hide (((unhide HC5).grown hgr fun r e => by injection e with e; omega).more (b' := b + 100) (by omega))
        have HG9 := hide (grown_into (unhide HG5) hgr fun r e => by injection e with e; omega)
        clear hO2 hgr hgc
        have l9 : (j : Int) < (m : Int) := by omega
        go_wp2_with fail
        go_ret
        exact ⟨_, _, _, _, rfl, unhide HO9, ⟨by omega, by omega⟩, unhide HC9, unhide HG9⟩
    · have k0 : wr.cell? ⟨km, 0, none⟩ = some (.int .i64 a) := (unhide hK).cell 0
      have k1 : wr.cell? ⟨km, 1, none⟩ = some (.int .i64 d) := (unhide hK).cell 1
      have hls : w.heap.size ≤ wr.heap.size := (unhide hG).size
      go_wp2_with (at_builtin; refine append_mark1 _ rfl _ _ rfl w.heap.size A' m c' ts rfl ((unhide hO).alloc _) ?_ _ 1 1 _ [(a, d)] rfl (rp_one (T := 43) (Whl.here _ _ _) (Nat.lt_succ_self _)) ?_ ?_; (simp; omega); omega; intro A2 c2 w4 hO4 hg4 hl4)
      have hrow : ∀ r, (Value.slice A' m c').ownBlock = some r → w.heap.size ≤ r := fun r e => ((unhide hO).lt e).1
      have HO4 := hide hO4
      have HK4 := hide (((unhide hK).alloc _).off hg4 (unhide hD))
      have HC4 := hide (((unhide hC).alloc _).grown hg4 fun r e => Nat.lt_of_lt_of_le hgl (hrow r e))
      have HG4 := hide (grown_into (grown_alloc (unhide hG) _) hg4 hrow)
      have HD4 : Hid (∀ r, (Value.slice A2 (m + 1) c2).ownBlock = some r → r ≠ km) := fun r e => by
        have hk := (unhide hK).lt
        rcases hl4 with h9 | h9
        · exact unhide hD r (h9.symm.trans e)
        · rw [h9] at e
          injection e with e
          simp at e
          omega
      clear hO4 hg4 hl4 hrow hO hD hK hC hG k0 k1 hls
      refine (among_lit g n c q _ A xs w4 rfl [1, 10, 100, 7000] 4 _ (fun _ => True) rfl rfl (by omega) (by omega) (by simp) (unhide HC4) hn (by omega)).mono ?_
      rintro e w5 ⟨s5, rfl, _, hC, hg⟩
      have HC5 := hide hC
      have HG5 := hide (grownBy_trans (unhide HG4) hg)
      have HO5 := hide ((unhide HO4).gr hg hgl)
      have HK5 := hide ((unhide HK4).gr hg hgm)
      clear hC hg HC4 HG4 HO4 HK4
      have k0 : w5.cell? ⟨km, 0, none⟩ = some (.int .i64 a) := (unhide HK5).cell 0
      have f0 : w5.frozen? ⟨km, 0, none⟩ = false := (unhide HK5).frozen 0
      go_wp2_with fail
      generalize RowKit.wrap64 (a + s5) = a'
      have HC6 := hide ((unhide HC5).set (p := ⟨km, 0, none⟩) (Nat.lt_trans hgl hlw) (.int .i64 a'))
      have HG6 := hide (grown_set' (unhide HG5) (p := ⟨km, 0, none⟩) (Nat.le_of_lt hlw) (.int .i64 a'))
      have HO6 := hide ((unhide HO5).far (p := ⟨km, 0, none⟩) (unhide HD4) (.int .i64 a'))
      have HK6 : Hid (Whl (w5.setCell ⟨km, 0, none⟩ (.int .i64 a')) km 43 #[.int .i64 a', .int .i64 d]) := hide ((unhide HK5).store 0 (.int .i64 a'))
      clear k0 f0 HC5 HG5 HO5 HK5
      generalize w5.setCell ⟨km, 0, none⟩ (.int .i64 a') = w6 at *
      have k1 : w6.cell? ⟨km, 1, none⟩ = some (.int .i64 d) := (unhide HK6).cell 1
      have k1a : ∀ o, (w6.alloc o).cell? ⟨km, 1, none⟩ = some (.int .i64 d) := fun o => cell_on k1 o
      go_region_law (first
        | (go_simp; go_at_call 87; refine (among_at g n c (q + 2) _ A xs _ [-1, 0, 0, 1, 3] 5 (fun _ => True) ?_ (new_ne_cur (unhide HC6)) ?_ ?_ ?_ ?_ ?_ hn ?_).mono ?_; (repeat (with_reducible refine Whl.drew ?_)); (exact Whl.here _ _ _); rfl; omega; omega; (simp); (repeat (first | with_reducible exact unhide HC6 | with_reducible refine Cur.drew ?_ | with_reducible refine Cur.alloc ?_ _)); omega; rintro e wz ⟨sz, rfl, _, hC, hg⟩; have HC7 := hide hC; have HG7 : Hid (w.grownBy wz (some g)) := hide (grownBy_trans (by (repeat (first | with_reducible exact unhide HG6 | with_reducible refine grown_dr ?_ | with_reducible refine grown_alloc ?_ _))) hg); have HK7 : Hid (Whl wz km 43 #[.int .i64 a', .int .i64 d]) := hide (Whl.gr (by (repeat (first | with_reducible exact unhide HK6 | with_reducible refine Whl.drew ?_ | with_reducible refine Whl.alloc ?_ _))) hg hgm); have HO7 : Hid (OwnP wz w.heap.size 43 A2 (m + 1) c2 (ts ++ [(a, d)])) := hide (OwnP.gr (by (repeat (first | with_reducible exact unhide HO6 | with_reducible refine OwnP.dr ?_ | with_reducible refine OwnP.alloc ?_ _))) hg hgl); clear hC hg; have k1' : wz.cell? ⟨km, 1, none⟩ = some (.int .i64 d) := (unhide HK7).cell 1; have f1' : wz.frozen? ⟨km, 1, none⟩ = false := (unhide HK7).frozen 1)
        | (go_simp; go_at_call 77; refine (l1Most_any _ _ _).mono ?_; rintro e wm ⟨rfl, rfl⟩))
      all_goals
        go_wp2_with fail
        go_roundw
        case rel => exact ⟨k, m + 1, A2, c2, q + 2 + 2, ts ++ [(a, d)], a', _, rfl, by go_num, by omega, by omega, (unhide HO7).far (p := ⟨km, 1, none⟩) (unhide HD4) _, HD4, (unhide HK7).store 1 _, (unhide HC7).set (p := ⟨km, 1, none⟩) (Nat.lt_trans hgl hlw) _, grown_set' (unhide HG7) (p := ⟨km, 1, none⟩) (Nat.le_of_lt hlw) _⟩
        case measure => simp [intOf] <;> omega
end Go.Proofs.Ytmpgafanlgnpeaa
