/- slices.Grow at nil and slices.Concat of two lists of ints. -/
import Derived.Test.YtdpmpdhhjmbbcaaGreatDoorProg
import Derived.Test.YtdpmpdhhjmbbcaaGreatDoorOwn
import Derived.Lib.AppendZerosOnto
namespace Go.Proofs.YtdpmpdhhjmbbcaaGreatDoor
open Go.RowKit

/-- the builtin append by its run -/
theorem wpList_append_run {P : Program} (w w' : World) {ops : Array Oper} {rest : List Oper} {o : Oper} {a : Act} {Q : Exit → Act → World → Prop} (hgd : o.guard = none) (s x : Operand) (t t2 : TypeId)
    (ho : o.op = .call { callee := .builtin .append, args := #[s, x], argTypes := #[t, t2] }) (v1 v2 v : Value) (hs : a.eval s = v1) (hx : a.eval x = v2)
    (hrun : ∀ ty, (Builtin.append_ #[t, t2] ty #[v1, v2]).run P w = .ok v w') (h : wpList P ops Q rest (a.put o.dst v) w') : wpList P ops Q (o :: rest) a w :=
  wpList_plain hgd fun _ hK => by
    unfold Oper.wp execOp
    simp only [ho, resolve, invoke, builtin, Sem.run_bind, Sem.run_pure, Result.andThen_ok, List.map_toArray, List.map_cons, List.map_nil, hs, hx, hrun]
    exact hK _ _ h

set_option maxHeartbeats 1000000 in
/-- slices.Grow(nil, n): no elements, room for n -/
theorem Grow_nil (n : Nat) (w : World) (h1 : 1 ≤ n) (h2 : n ≤ 4194304) : Calls Tryz.prog 56 #[.slice none 0 0, .int .i64 n] w (RetI w []) := by
  obtain ⟨i0, hi, hz0, hz1, hz2⟩ := info_parts info_int
  have hold : (Builtin.firstCells i0.size 0 (.slice none 0 0)).run Tryz.prog w.drew = .ok ([] : List Value).toArray w.drew := by
    simp [Builtin.firstCells]
  have hap : ∀ ty, (Builtin.append_ #[24, 3] ty #[.slice none 0 0, .int .i64 n]).run Tryz.prog w = .ok (.slice (some ⟨w.heap.size, 0, none⟩) (0 + n) (grownCap w (0 + n) 0 3)) (w.drew.alloc (.cells (([] : List Value).toArray ++ Builtin.zeroCells (Value.int .i64 0).cells n ++ Builtin.zeroCells (Value.int .i64 0).cells (grownCap w (0 + n) 0 3 - (0 + n))) 3)) := fun ty =>
    Lib.run_append_grow_zeros w 24 3 ty 3 i0 (.int .i64 0) .i64 .i64 Tryz.underlying24 Tryz.underlying3 hi hz0 none 0 0 [] hold n (by omega) (by omega) (by omega) (by omega) (by rw [hz2]; omega) (growslice_fits (by omega) (by rw [hz2]; omega))
  have hge := grownCap_ge w (0 + n) 0 3
  have hle := grownCap_le_maxLen w (0 + n) 0 3 (by unfold maxLen; omega)
  simp only [Nat.zero_add] at hap hge hle
  generalize grownCap w n 0 3 = G at *
  have hn0 : ¬ ((n : Int) < 0) := by omega
  have hn1 : (0 : Int) < (n : Int) := by omega
  have HLE := hide hle
  have hG63 : G ≤ 9223372036854775807 := by unfold maxLen at hle; omega
  have HOWN : Hid (OwnI (w.drew.alloc (.cells (([] : List Value).toArray ++ Builtin.zeroCells (Value.int .i64 0).cells n ++ Builtin.zeroCells (Value.int .i64 0).cells (G - n)) 3)) w.heap.size (some ⟨w.heap.size, 0, none⟩) 0 G []) :=
    ⟨by simp [cI], .inr ⟨w.heap.size, G, _, rfl, Nat.le_refl _, heap_alloc_new w.drew _, Nat.zero_le _, unhide HLE, by simp [Builtin.zeroCells, Value.cells]; omega, by simp [cI]⟩⟩
  have HB : Hid (Below w.heap.size w (w.drew.alloc (.cells (([] : List Value).toArray ++ Builtin.zeroCells (Value.int .i64 0).cells n ++ Builtin.zeroCells (Value.int .i64 0).cells (G - n)) 3))) := (Below.refl _ w).drew.alloc (Nat.le_refl _) _
  generalize (Obj.cells (([] : List Value).toArray ++ Builtin.zeroCells (Value.int .i64 0).cells n ++ Builtin.zeroCells (Value.int .i64 0).cells (G - n)) 3) = O at *
  clear hold hle hz0 hz1 hz2 hi
  go_enter Tryz.func56, Tryz.ntmps56
  have HAP := hide hap
  clear hap
  go_wp2_with (at_builtin; refine wpList_append_run w _ rfl _ _ _ _ rfl _ _ _ rfl rfl (unhide HAP) ?_)
  go_ret
  exact ⟨_, _, _, rfl, unhide HOWN, unhide HB⟩

/-- the first k of two lists, joined -/
def con2 (xs ys : List Int) : Nat → List Int
  | 0 => []
  | 1 => xs
  | _ => xs ++ ys

set_option maxHeartbeats 4000000 in
set_option maxRecDepth 100000 in
theorem Concat_two (ad : Addr) (A B : Option Addr) (n m c d : Nat) (xs ys : List Int) (w : World) (hx : RI w w.heap.size A n xs) (hy : RI w w.heap.size B m ys) (hn : 1 ≤ n) (hn2 : n ≤ 1048576) (hm2 : m ≤ 1048576)
    (hb : ad.block < w.heap.size) (h0 : w.cell? ad = some (.slice A n c)) (h1 : w.cell? ⟨ad.block, ad.off + 1, none⟩ = some (.slice B m d)) :
    Calls Tryz.prog 32 #[.slice (some ad) 2 2] w (RetI w (xs ++ ys)) := by
  have HX := hide hx; have HY := hide hy; clear hx hy
  have z0 : ad.add 0 = ad := rfl
  go_enter Tryz.func32, Tryz.ntmps32
  go_wp2_with fail
  go_loop [3, 11] (fun s i => ∃ k : Nat, k ≤ 2 ∧ i = .int .i64 k ∧ s = .int .i64 (if k = 0 then 0 else if k = 1 then (n : Int) else (n : Int) + m)) (fun _ i => 2 - (intOf i).toNat)
  case atStart => exact ⟨0, by omega, rfl, rfl⟩
  case round =>
    obtain ⟨k, hk, rfl, rfl⟩ := hrel
    rcases (show k = 0 ∨ k = 1 ∨ k = 2 by omega) with rfl | rfl | rfl
    · go_wp2
      go_round
      case rel => exact ⟨1, by omega, rfl, by simp⟩
      case measure => simp [intOf]
    · go_wp2
      go_round
      case rel => exact ⟨2, by omega, rfl, by simp⟩
      case measure => simp [intOf]
    · have HG := hide (fun W => Grow_nil (n + m) W (by omega) (by omega))
      have ec : ((n + m : Nat) : Int) = (n : Int) + m := by omega
      rw [ec] at HG
      clear ec
      go_wp2_with fail
      refine (unhide HG _).mono ?_
      rintro e w1 ⟨A1, n1, c1, rfl, hO, hb1⟩
      have e1 : n1 = 0 := by have := hO.len; simpa using this.symm
      subst e1
      have HO1 := hide hO; have HB1 := hide hb1; clear hO hb1
      go_wp2_with fail
      go_loopw [6, 27] (fun v i wr => ∃ (k p : Nat) (A' : Option Addr) (c' : Nat), k ≤ 2 ∧ i = .int .i64 k ∧ v = .slice A' p c' ∧ Hid (OwnI wr w.heap.size A' p c' (con2 xs ys k)) ∧ Hid (Below w.heap.size w wr)) (fun _ i _ => 2 - (intOf i).toNat)
      case atStart => exact ⟨0, 0, A1, c1, by omega, rfl, rfl, HO1, HB1⟩
      case round =>
        obtain ⟨k, p, A', c', hk, rfl, rfl, hO, hB⟩ := hrel
        have q0 : wr.cell? ad = some (.slice A n c) := ((unhide hB).cell hb).trans h0
        have q1 : wr.cell? ⟨ad.block, ad.off + 1, none⟩ = some (.slice B m d) := ((unhide hB).cell (p := ⟨ad.block, ad.off + 1, none⟩) hb).trans h1
        rcases (show k = 0 ∨ k = 1 ∨ k = 2 by omega) with rfl | rfl | rfl
        · have hp : p = 0 := by have := (unhide hO).len; simpa [con2] using this.symm
          subst hp
          go_wp2_with (at_builtin; refine append_ints _ rfl _ _ rfl w A' 0 c' [] rfl (unhide hO) (unhide hB) A n c _ xs rfl ((unhide HX).below (unhide hB)) (by omega) ?_; intro A2 c2 w2 hO2 hB2 _ _)
          have HO2 := hide hO2; have HB2 := hide hB2; clear hO2 hB2 hO hB
          go_wp2_with fail
          go_roundw
          case rel => exact ⟨1, n, A2, c2, by omega, rfl, rfl, by simpa [con2, Hid] using HO2, HB2⟩
          case measure => simp [intOf]
        · have hp : p = n := by have h9 := (unhide hO).len; have := (unhide HX).len; simp [con2] at h9; omega
          subst hp
          go_wp2_with (at_builtin; refine append_ints _ rfl _ _ rfl w A' p c' xs rfl (unhide hO) (unhide hB) B m d _ ys rfl ((unhide HY).below (unhide hB)) (by omega) ?_; intro A2 c2 w2 hO2 hB2 _ _)
          have HO2 := hide hO2; have HB2 := hide hB2; clear hO2 hB2 hO hB
          go_wp2_with fail
          go_roundw
          case rel => exact ⟨2, p + m, A2, c2, by omega, rfl, rfl, HO2, HB2⟩
          case measure => simp [intOf]
        · go_wp2_with fail
          go_ret
          exact ⟨A', p, c', rfl, unhide hO, unhide hB⟩
end Go.Proofs.YtdpmpdhhjmbbcaaGreatDoor
