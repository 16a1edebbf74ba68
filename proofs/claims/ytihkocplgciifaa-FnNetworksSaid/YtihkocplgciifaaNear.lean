/- Chapter 3, the walks: the nearest stations: the program's and the reference's. (By gen_near.py.) -/
import Derived.Test.YtihkocplgciifaaProg
import Derived.Test.YtihkocplgciifaaSortS
namespace Go.Proofs.Ytihkocplgciifaa
open Go.RowKit

/-- the numbers of the nearest stations -/
def nearR (xs : List St) (X Y m : Int) : List Int × Bool := if (stsB xs && (inB X 0 999 && inB Y 0 999) && inB m 1 10) = true then (idsI ((isort (sqK X Y) xs).take m.toNat), true) else ([], false)
theorem sts_short {xs : List St} (h : stsB xs = true) : xs.length ≤ 10 := by
  unfold stsB lstB at h
  rw [Bool.and_eq_true, Bool.and_eq_true] at h
  exact of_decide_eq_true h.1.2
theorem nearR_len (xs : List St) (X Y m : Int) : (nearR xs X Y m).1.length ≤ 2097152 := by
  unfold nearR
  split
  · rename_i h
    rw [Bool.and_eq_true, Bool.and_eq_true] at h
    have h1 := sts_short h.1.1
    have h2 := isort_len (key := sqK X Y) xs
    simp only [idsI, List.length_map, List.length_take]
    omega
  · simp
theorem insNil (A : Option Addr) (c : Nat) (p1 p2 : Addr) (w : World) : Calls Try.prog 119 #[.slice A 0 c, .int .i64 0, .int .i64 0, .func (.func 83) #[] #[.pointer (some p1), .pointer (some p2)]] w fun e w' => e = .returned (.tuple #[]) ∧ w = w' := by
  go_enter Try.func119, Try.ntmps119
  go_wp2_with fail
  go_loopw [8] (fun i wr => i = .int .i64 1 ∧ wr = w) (fun _ _ => 0)
  case atStart => exact ⟨rfl, rfl⟩
  case round =>
    obtain ⟨rfl, rfl⟩ := hrel
    go_wp2_with fail
    go_end0
    exact ⟨rfl, rfl⟩
theorem stableNil (A : Option Addr) (c : Nat) (p1 p2 : Addr) (w : World) : Calls Try.prog 112 #[.slice A 0 c, .int .i64 0, .func (.func 83) #[] #[.pointer (some p1), .pointer (some p2)]] w fun e w' => e = .returned (.tuple #[]) ∧ w = w' := by
  have HC := hide (insNil A c p1 p2 w)
  go_enter Try.func112, Try.ntmps112
  go_wp2_with fail
  go_loopw [7, 8] (fun a b wr => a = .int .i64 0 ∧ b = .int .i64 20 ∧ wr = w) (fun _ _ _ => 0)
  case atStart => exact ⟨rfl, rfl, rfl⟩
  case round =>
    obtain ⟨rfl, rfl, rfl⟩ := hrel
    go_wp2_with fail
    refine (unhide HC).mono ?_
    rintro e w1 ⟨rfl, rfl⟩
    obtain ⟨wo, rfl⟩ : ∃ wo : World, wo = wr := ⟨_, rfl⟩
    go_wp2_with fail
    go_loopw [6] (fun z wj => z = .int .i64 20 ∧ wj = wo) (fun _ _ => 0)
    case atStart => exact ⟨rfl, rfl⟩
    case round =>
      obtain ⟨rfl, rfl⟩ := hrel
      go_wp2_with fail
      go_end0
      exact ⟨rfl, rfl⟩
theorem sortNil (A : Option Addr) (c : Nat) (p1 p2 : Addr) (w : World) : Calls Try.prog 82 #[.slice A 0 c, .func (.func 83) #[] #[.pointer (some p1), .pointer (some p2)]] w fun e w' => e = .returned (.tuple #[]) ∧ w = w' := by
  have HC := hide (stableNil A c p1 p2 w)
  go_enter Try.func82, Try.ntmps82
  go_wp2_with fail
  refine (unhide HC).mono ?_
  rintro e w1 ⟨rfl, rfl⟩
  go_wp2_with fail
  go_end0
  exact ⟨rfl, rfl⟩
/-- a row of one's own is put in order -/
theorem sortNear (X Y : Int) (p1 p2 : Addr) (lo n c : Nat) (A : Option Addr) (xs : List St) (w : World) (h : OwnS w lo A n c xs) (hn : n < 20) (h1 : w.cell? p1 = some (.int .i64 X)) (h2 : w.cell? p2 = some (.int .i64 Y)) (hp1 : p1.block < lo) (hp2 : p2.block < lo) (hlo : lo ≤ w.heap.size) :
    Calls Try.prog 82 #[.slice A n c, .func (.func 83) #[] #[.pointer (some p1), .pointer (some p2)]] w fun e w' => e = .returned (.tuple #[]) ∧ OwnS w' lo A n c (isort (sqK X Y) xs) ∧ Below lo w w' := by
  rcases Nat.eq_zero_or_pos n with hn0 | hn0
  · subst hn0
    have e : xs = [] := List.eq_nil_of_length_eq_zero h.len
    subst e
    refine (sortNil A c p1 p2 w).mono ?_
    rintro e w1 ⟨rfl, rfl⟩
    exact ⟨rfl, h, Below.refl _ _⟩
  · obtain ⟨g, rfl, hlg, hg, _⟩ := h.form hn0
    refine (sortStableS X Y p1 p2 lo g n c xs w h hn (fun W hW s t => cmp_near X Y p1 p2 s t W (grown_cell hW (by omega) h1) (grown_cell hW (by omega) h2))).mono ?_
    rintro e w1 ⟨ys, rfl, hO, hgr, hs, ht⟩
    rw [isort_of h.len hs ht] at hO
    exact ⟨rfl, hO, (Below.refl lo w).grown hgr hlo (fun k hk => by injection hk with hk; omega)⟩
set_option maxHeartbeats 4000000 in
set_option maxRecDepth 100000 in
theorem implNear_any (A : Option Addr) (n c : Nat) (xs : List St) (X Y m : Int) (w : World) (hr : RS w w.heap.size A n xs) (hn : n ≤ 2097152) (hs : ∀ x ∈ xs, x.nm.size ≤ 9223372036854775807) :
    Calls Try.prog 27 #[.slice A n c, .int .i64 X, .int .i64 Y, .int .i64 m] w (RetIB w (nearR xs X Y m).1 (nearR xs X Y m).2) := by
  have HG := hide (fun (W : World) (hb : Below w.heap.size w W) => implAre_any A n c xs W ((hr.below hb).more hb.size) (by omega) hs)
  have HR := hide (fun (W : World) (hb : Below w.heap.size w W) => (hr.below hb).more hb.size)
  have HL := hide hr.len
  clear hr hs
  go_enter Try.func27, Try.ntmps27
  go_wp2_with fail
  have B0 : Hid (Below w.heap.size w ((w.alloc (.cells #[.int .i64 X] 3)).alloc (.cells #[.int .i64 Y] 3))) := ((Below.refl _ w).alloc (Nat.le_refl _) _).alloc (by simp) _
  have K1 : Hid (Whl ((w.alloc (.cells #[.int .i64 X] 3)).alloc (.cells #[.int .i64 Y] 3)) w.heap.size 3 #[.int .i64 X]) := (Whl.here w _ _).alloc _
  have K2 : Hid (Whl ((w.alloc (.cells #[.int .i64 X] 3)).alloc (.cells #[.int .i64 Y] 3)) (w.heap.size + 1) 3 #[.int .i64 Y]) := Whl.here' _ _ _ (by simp)
  generalize (w.alloc (.cells #[.int .i64 X] 3)).alloc (.cells #[.int .i64 Y] 3) = w0 at B0 K1 K2 ⊢
  have HG0 := hide (unhide HG w0 (unhide B0))
  clear HG
  rcases h1 : stsB xs with _ | _
  · have HRR : Hid (nearR xs X Y m = ([], false)) := by unfold Hid nearR; rw [h1]; rfl
    rw [h1] at HG0
    refine (unhide HG0).mono ?_
    rintro e w1 ⟨rfl, hb⟩
    have HB1 := hide (below_next (unhide B0) hb)
    clear hb HG0 HR K1 K2 B0
    go_wp2_with fail
    go_ret2
    exact ⟨none, 0, 0, by rw [unhide HRR]; rfl, by rw [unhide HRR]; exact OwnI.nil _ _, unhide HB1⟩
  · rw [h1] at HG0
    have hn10 : n ≤ 10 := by have := sts_short h1; have := unhide HL; omega
    refine (unhide HG0).mono ?_
    rintro e w1 ⟨rfl, hb⟩
    have HB1 := hide (below_next (unhide B0) hb)
    have K3 := hide ((unhide K1).below hb)
    have K4 := hide ((unhide K2).below hb)
    clear hb HG0 K1 K2 B0
    have k3 : w1.cell? ⟨w.heap.size, 0, none⟩ = some (.int .i64 X) := (unhide K3).cell 0
    have k4 : w1.cell? ⟨w.heap.size + 1, 0, none⟩ = some (.int .i64 Y) := (unhide K4).cell 0
    have HP := hide (isPlace_any X Y w1)
    rcases h2 : (inB X 0 999 && inB Y 0 999) with _ | _
    · have HRR : Hid (nearR xs X Y m = ([], false)) := by unfold Hid nearR; rw [h1, h2]; rfl
      rw [h2] at HP
      go_wp2_with fail
      refine (unhide HP).mono ?_
      rintro e w2 ⟨rfl, rfl⟩
      go_wp2_with fail
      go_ret2
      exact ⟨none, 0, 0, by rw [unhide HRR]; rfl, by rw [unhide HRR]; exact OwnI.nil _ _, unhide HB1⟩
    · rw [h2] at HP
      have HI := hide (in_any m 1 10 w1)
      rcases h3 : inB m 1 10 with _ | _
      · have HRR : Hid (nearR xs X Y m = ([], false)) := by unfold Hid nearR; rw [h1, h2, h3]; rfl
        rw [h3] at HI
        go_wp2_with fail
        refine (unhide HP).mono ?_
        rintro e w2 ⟨rfl, rfl⟩
        go_wp2_with fail
        refine (unhide HI).mono ?_
        rintro e w2 ⟨rfl, rfl⟩
        go_wp2_with fail
        go_ret2
        exact ⟨none, 0, 0, by rw [unhide HRR]; rfl, by rw [unhide HRR]; exact OwnI.nil _ _, unhide HB1⟩
      · have HRR : Hid (nearR xs X Y m = (idsI ((isort (sqK X Y) xs).take m.toNat), true)) := by unfold Hid nearR; rw [h1, h2, h3]; rfl
        rw [h3] at HI
        have hm := inB_iff.1 h3
        obtain ⟨q, rfl⟩ : ∃ q : Nat, m = (q : Int) := ⟨m.toNat, by omega⟩
        clear h1 h2 h3
        go_wp2_with fail
        refine (unhide HP).mono ?_
        rintro e w2 ⟨rfl, rfl⟩
        go_wp2_with fail
        refine (unhide HI).mono ?_
        rintro e w2 ⟨rfl, rfl⟩
        clear HP HI k3 k4
        have HR1 := hide (unhide HR w1 (unhide HB1))
        clear HR
        have HLB := hide (unhide K4).lt
        go_wp2_with fail
        refine (copyS_any A n c w1.heap.size xs w1 (unhide HR1) (Nat.le_refl _) hn).mono ?_
        rintro e w3 ⟨A2, n2, c2, rfl, hO, hb⟩
        obtain rfl : n2 = n := by have := hO.len; have := unhide HL; omega
        have HB3 := hide (below_next (unhide HB1) hb)
        have K5 := hide ((unhide K3).below hb)
        have K6 := hide ((unhide K4).below hb)
        have hs3 := hb.size
        have HO3 := hide hO
        clear hO hb K3 K4 HR1
        have HSRT := hide (sortNear X Y ⟨w.heap.size, 0, none⟩ ⟨w.heap.size + 1, 0, none⟩ w1.heap.size n2 c2 A2 xs w3 (unhide HO3) (by omega) ((unhide K5).cell 0) ((unhide K6).cell 0) (by have := unhide HLB; show w.heap.size < _; omega) (unhide HLB) hs3)
        go_wp2_with fail
        refine (unhide HSRT).mono ?_
        rintro e w4 ⟨rfl, hO4, hb4⟩
        have HO4 := hide hO4
        have HB4 := hide ((unhide HB3).trans (hb4.mono (unhide HB1).size))
        have hcap := hO4.cap
        clear hO4 hb4 HSRT HO3 K5 K6 HB3
        have HLI := hide (isort_len (key := sqK X Y) xs)
        by_cases hlt : (n2 : Int) < (q : Int)
        · have HTK : Hid ((isort (sqK X Y) xs).take (q : Int).toNat = isort (sqK X Y) xs) := List.take_of_length_le (by have := unhide HLI; have := unhide HL; omega)
          go_wp2_with fail
          refine (idsOf_any A2 n2 c2 w4.heap.size _ w4 (unhide HO4).rs (Nat.le_refl _) hn).mono ?_
          rintro e w5 ⟨A5, n5, c5, rfl, hO, hb⟩
          have hO5 := OwnI.less hO (unhide HB4).size
          go_wp2_with fail
          go_ret2
          exact ⟨A5, n5, c5, by rw [unhide HRR]; rfl, by rw [unhide HRR, unhide HTK]; exact hO5, below_next (unhide HB4) hb⟩
        · have hq1 : (q : Int) ≤ (n2 : Int) := by omega
          have hq2 : q ≤ n2 := by omega
          have hq3 : q ≤ c2 := by omega
          have hq4 : (0 : Int) ≤ (q : Int) := by omega
          go_wp2_with fail
          refine (idsOf_any A2 q c2 w4.heap.size _ w4 ((unhide HO4).rs.take hq2) (Nat.le_refl _) (by omega)).mono ?_
          rintro e w5 ⟨A5, n5, c5, rfl, hO, hb⟩
          have hO5 := OwnI.less hO (unhide HB4).size
          go_wp2_with fail
          go_ret2
          exact ⟨A5, n5, c5, by rw [unhide HRR]; rfl, by rw [unhide HRR]; simpa using hO5, below_next (unhide HB4) hb⟩
theorem l3Square_any (s : St) (X Y : Int) (w : World) : Calls Try.prog 80 #[.agg #[.int .i64 s.id, .string s.nm, .int .i64 s.x, .int .i64 s.y, .int .i64 s.gn, .int .i64 s.lw, .int .i64 s.hg, .int .i64 s.ut], .int .i64 X, .int .i64 Y] w fun e w' => e = .returned (.int .i64 (sqK X Y s)) ∧ Below w.heap.size w w' := by
  have hq : sqK X Y s = RowKit.wrap64 (RowKit.wrap64 (RowKit.wrap64 (s.x - X) * RowKit.wrap64 (s.x - X)) + RowKit.wrap64 (RowKit.wrap64 (s.y - Y) * RowKit.wrap64 (s.y - Y))) := by simp only [sqK, sqI, IntWalk.i64_left]
  rw [hq]
  clear hq
  go_enter Try.func80, Try.ntmps80
  go_wp2_with fail
  go_ret
  exact ⟨rfl, (Below.refl _ _).alloc (Nat.le_refl _) _⟩
/-- the same append of stations, handing over which block grew -/
theorem step_append_sts3 {w : World} {ops : Array Oper} {o : Oper} {a : Act} {K : Act → World → Prop} {Q : Exit → Act → World → Prop} {E : Prop} (hgd : o.guard = none) (s x : Operand)
    (ho : o.op = .call { callee := .builtin .append, args := #[s, x], argTypes := #[32, 32] })
    (w0 : World) (A : Option Addr) (n c : Nat) (xs : List St) (hs : a.eval s = .slice A n c) (hown : OwnS w w0.heap.size A n c xs) (hb : Below w0.heap.size w0 w)
    (B : Option Addr) (m c2 L : Nat) (ys : List St) (hx : a.eval x = .slice B m c2) (hr : RS w L B m ys) (p : Nat) (hp : n + m = p) (hn : p ≤ 1000000000)
    (h : ∀ A' c' w', OwnS w' w0.heap.size A' p c' (xs ++ ys) → Below w0.heap.size w0 w' → w.grownBy w' (Value.slice A n c).ownBlock → K (a.put o.dst (.slice A' p c')) w') : if Region.wanted o (yielded ops a.tmps) = true then Oper.wp Try.prog o a w K Q else E := by
  subst hp
  obtain ⟨i0, hi, hz0, hz1, hz2⟩ := info_parts info_Station
  exact step_append_many w (by simp [Region.wanted, hgd]) s x 32 ho w0.heap.size 26 i0 (.agg #[.int .i64 0, .string ByteArray.empty, .int .i64 0, .int .i64 0, .int .i64 0, .int .i64 0, .int .i64 0, .int .i64 0]) 8 72 Try.underlying32 hi hz0 hz1 hz2 rfl (by decide) A n c (cS xs) hs hown L B m c2 (cS ys) hx hr (cS_one ys) (by unfold maxLen; omega) (by omega) hb.size
    fun A' c' w' h2 h3 h4 => h A' c' w' (by unfold OwnS; rw [cS_append]; exact h2) (hown.grow hb (Nat.le_refl _) hb.size h3) h3
theorem OwnS.whl {w : World} {lo g n c : Nat} {xs : List St} (h : OwnS w lo (some ⟨g, 0, none⟩) n c xs) : ∃ cur, Whl w g 26 cur := by
  rcases h.2 with ⟨hv, _⟩ | ⟨g', cap, cur, hv, _, hh, _⟩
  · cases hv
  · injection hv with hv
    injection hv with hv
    injection hv with hv
    subst hv
    exact ⟨cur, hh⟩
theorem ownS_empty' (w : World) {g lo : Nat} (hg : g = w.heap.size) (hl : lo ≤ g) : OwnS (w.alloc (.cells #[] 26)) lo (some ⟨g, 0, none⟩) 0 0 [] := by
  subst hg
  exact OwnS.empty w hl
theorem Whl.grown {w w' : World} {g b c n : Nat} {T : TypeId} {cs : Array Value} (h : Whl w g T cs) (hgr : w.grownBy w' (Value.slice (some ⟨b, 0, none⟩) n c).ownBlock) (hne : b ≠ g) : Whl w' g T cs :=
  (hgr.block g h.lt (fun e => hne (Option.some.inj e).symm)).trans h
theorem rs_one {w : World} {g : Nat} {T : TypeId} {s : St} (h : Whl w g T #[.int .i64 s.id, .string s.nm, .int .i64 s.x, .int .i64 s.y, .int .i64 s.gn, .int .i64 s.lw, .int .i64 s.hg, .int .i64 s.ut]) {L : Nat} (hL : g < L) : RS w L (some ⟨g, 0, none⟩) 1 [s] := by
  refine ⟨rfl, fun _ => ⟨_, rfl, hL, fun j u hu => ?_⟩⟩
  have e : (⟨g, 0, none⟩ : Addr).add j = ⟨g, j, none⟩ := by simp [Addr.add]; omega
  rw [e, h.cell j, ← hu]
  match j with
  | 0 => rfl
  | 1 => rfl
  | 2 => rfl
  | 3 => rfl
  | 4 => rfl
  | 5 => rfl
  | 6 => rfl
  | 7 => rfl
  | j + 8 => simp [cS, fS]
theorem row8_cells {w : World} {a : Addr} {s : St} (h : Row8 w a s) : w.cell? a = some (.int .i64 s.id) ∧ w.cell? ⟨(a).block, (a).off + 1, none⟩ = some (.string s.nm) ∧ w.cell? ⟨(a).block, (a).off + 2, none⟩ = some (.int .i64 s.x) ∧ w.cell? ⟨(a).block, (a).off + 3, none⟩ = some (.int .i64 s.y) ∧ w.cell? ⟨(a).block, (a).off + 4, none⟩ = some (.int .i64 s.gn) ∧ w.cell? ⟨(a).block, (a).off + 5, none⟩ = some (.int .i64 s.lw) ∧ w.cell? ⟨(a).block, (a).off + 6, none⟩ = some (.int .i64 s.hg) ∧ w.cell? ⟨(a).block, (a).off + 7, none⟩ = some (.int .i64 s.ut) := ⟨h.c0, h.c1, h.c2, h.c3, h.c4, h.c5, h.c6, h.c7⟩
set_option maxHeartbeats 8000000 in
set_option maxRecDepth 100000 in
theorem specNear_any (A : Option Addr) (n c : Nat) (xs : List St) (X Y m : Int) (w : World) (hr : RS w w.heap.size A n xs) (hn : n ≤ 2097152) (hs : ∀ x ∈ xs, x.nm.size ≤ 9223372036854775807) :
    Calls Try.prog 26 #[.slice A n c, .int .i64 X, .int .i64 Y, .int .i64 m] w (RetIB w (nearR xs X Y m).1 (nearR xs X Y m).2) := by
  have B00 : Hid (Below w.heap.size w (w.alloc (.cells #[] 3))) := (Below.refl _ w).alloc (Nat.le_refl _) _
  have HG := hide (fun (W : World) (hb : Below w.heap.size w W) => l3Good_any A n c xs W ((hr.below hb).more hb.size) (by omega) hs)
  have HR := hide (fun (W : World) (hb : Below w.heap.size w W) => (hr.below hb).more hb.size)
  have HL := hide hr.len
  clear hr hs
  go_enter Try.func26, Try.ntmps26
  go_wp2_with fail
  have OUT : Hid (OwnI (w.alloc (.cells #[] 3)) w.heap.size (some ⟨w.heap.size, 0, none⟩) 0 0 []) := OwnI.empty w (Nat.le_refl _)
  generalize w.alloc (.cells #[] 3) = w0 at *
  have HG0 := hide (unhide HG w0 (unhide B00))
  clear HG
  rcases h1 : stsB xs with _ | _
  · have HRR : Hid (nearR xs X Y m = ([], false)) := by unfold Hid nearR; rw [h1]; rfl
    rw [h1] at HG0
    refine (unhide HG0).mono ?_
    rintro e w1 ⟨rfl, hb⟩
    go_wp2_with fail
    go_ret2
    exact ⟨_, 0, 0, by rw [unhide HRR]; rfl, by rw [unhide HRR]; exact (unhide OUT).below hb (Nat.le_refl _), below_next (unhide B00) hb⟩
  · rw [h1] at HG0
    have hn10 : n ≤ 10 := by have := sts_short h1; have := unhide HL; omega
    refine (unhide HG0).mono ?_
    rintro e w1 ⟨rfl, hb⟩
    have HB1 := hide hb
    clear hb HG0
    have HP := hide (l2Place_any X Y w1)
    rcases h2 : (inB X 0 999 && inB Y 0 999) with _ | _
    · have HRR : Hid (nearR xs X Y m = ([], false)) := by unfold Hid nearR; rw [h1, h2]; rfl
      rw [h2] at HP
      go_wp2_with fail
      refine (unhide HP).mono ?_
      rintro e w2 ⟨rfl, rfl⟩
      go_wp2_with fail
      go_ret2
      exact ⟨_, 0, 0, by rw [unhide HRR]; rfl, by rw [unhide HRR]; exact (unhide OUT).below (unhide HB1) (Nat.le_refl _), below_next (unhide B00) (unhide HB1)⟩
    · rw [h2] at HP
      have HI := hide (l1In_any m 1 10 w1)
      rcases h3 : inB m 1 10 with _ | _
      · have HRR : Hid (nearR xs X Y m = ([], false)) := by unfold Hid nearR; rw [h1, h2, h3]; rfl
        rw [h3] at HI
        go_wp2_with fail
        refine (unhide HP).mono ?_
        rintro e w2 ⟨rfl, rfl⟩
        go_wp2_with fail
        refine (unhide HI).mono ?_
        rintro e w2 ⟨rfl, rfl⟩
        go_wp2_with fail
        go_ret2
        exact ⟨_, 0, 0, by rw [unhide HRR]; rfl, by rw [unhide HRR]; exact (unhide OUT).below (unhide HB1) (Nat.le_refl _), below_next (unhide B00) (unhide HB1)⟩
      · have HRR : Hid (nearR xs X Y m = (idsI ((isort (sqK X Y) xs).take m.toNat), true)) := by unfold Hid nearR; rw [h1, h2, h3]; rfl
        rw [h3] at HI
        have hm := inB_iff.1 h3
        obtain ⟨mq, rfl⟩ : ∃ q : Nat, m = (q : Int) := ⟨m.toNat, by omega⟩
        clear h1 h2 h3
        go_wp2_with fail
        refine (unhide HP).mono ?_
        rintro e w2 ⟨rfl, rfl⟩
        go_wp2_with fail
        refine (unhide HI).mono ?_
        rintro e w2 ⟨rfl, rfl⟩
        clear HP HI
        go_wp2_with fail
        go_loopw [11, 12] (fun v i wr => ∃ (k g c' : Nat), k ≤ n ∧ i = .int .i64 k ∧ v = .slice (some ⟨g, 0, none⟩) k c' ∧ Hid (OwnS wr w0.heap.size (some ⟨g, 0, none⟩) k c' (isort (sqK X Y) (xs.take k))) ∧ Hid (Below w0.heap.size w0 wr)) (fun _ i _ => n - (intOf i).toNat)
        case atStart => exact ⟨0, w1.heap.size, 0, Nat.zero_le _, rfl, rfl, OwnS.empty w1 (unhide HB1).size, (unhide HB1).alloc (unhide HB1).size _⟩
        case round =>
          obtain ⟨k, g, c', hk, rfl, rfl, hO, hB⟩ := hrel
          clear HB1
          obtain ⟨ys, hys⟩ : ∃ l, isort (sqK X Y) (xs.take k) = l := ⟨_, rfl⟩
          have HYS := hide hys
          rw [hys] at hO
          clear hys
          by_cases hlt : k < n
          · obtain ⟨wo, rfl⟩ : ∃ wo : World, wo = wr := ⟨_, rfl⟩
            have hbw : Hid (RS wo wo.heap.size A n xs) := hide (unhide HR wo (below_next (unhide B00) (unhide hB)))
            obtain ⟨ad, s, rfl, hbx, hx, hrow⟩ := (unhide hbw).get hlt
            have HROW := hide hrow
            have hblo : (ad.add (k * 8)).block < wo.heap.size := by rw [block_of_add]; exact hbx
            have l1 : (k : Int) < (n : Int) := by omega
            have l2 : (0 : Int) ≤ (k : Int) := by omega
            clear hrow hbw hbx
            go_wp2_with fail
            go_loopw [13] (fun j wj => ∃ q : Nat, q ≤ k ∧ j = .int .i64 q ∧ Hid (∀ i y, q ≤ i → ys[i]? = some y → sqK X Y s < sqK X Y y) ∧ Hid (Below wo.heap.size wo wj)) (fun j _ => (intOf j).toNat)
            case atStart => exact ⟨k, Nat.le_refl _, rfl, (fun i y h8 h9 => by have h7 := (List.getElem?_eq_some_iff.1 h9).1; have := (unhide hO).len; omega), Below.refl _ _⟩
            case round =>
              obtain ⟨q, hqk, rfl, hQ, hW⟩ := hrel
              have HOr := hide ((unhide hO).below (unhide hW) (Nat.le_refl _))
              have HRr := hide ((unhide HROW).below (unhide hW) hblo)
              have hblr : (ad.add (k * 8)).block < wr.heap.size := Nat.lt_of_lt_of_le hblo (unhide hW).size
              have HBr := hide (below_next (unhide hB) (unhide hW))
              by_cases hq0 : q = 0
              · have HQ0 := hide hq0
                have l0 : ¬ (0 : Int) < (q : Int) := by omega
                have l3 : ¬ 0 < q := by omega
                have l4 : decide (0 < q) = false := decide_eq_false (by omega)
                have l5 : decide ((0 : Int) < (q : Int)) = false := decide_eq_false (by omega)
                clear hq0
                go_wp2_with fail
                go_quiet (fail)
                go_wp2_with fail
                have HOq := hide ((unhide HOr).below (below_drewN (Below.refl wr.heap.size wr) nq) (Nat.le_refl _))
                have HRq := hide ((unhide HRr).below (below_drewN (Below.refl wr.heap.size wr) nq) hblr)
                have hblk : (ad.add (k * 8)).block < (wr.drewN nq).heap.size := Nat.lt_of_lt_of_le hblr (below_drewN (Below.refl wr.heap.size wr) nq).size
                have HB0q := hide (below_next (unhide HBr) (below_drewN (Below.refl wr.heap.size wr) nq))
                have HIS : Hid (isort (sqK X Y) (xs.take (k + 1)) = ys.take q ++ s :: ys.drop q) := by
                  unfold Hid
                  rw [isort_step xs k (unhide hx), unhide HYS]
                  exact insG_at s ys q (by have := (unhide HOq).len; omega) (fun y h0 hy => by have := unhide HQ0; omega) (unhide hQ) (by rw [← unhide HYS]; exact isort_asc _)
                generalize (wr.drewN nq) = wq at *
                have HT := hide ((unhide HOq).rs.take (k := q) (by omega))
                have hkc := (unhide HOq).cap
                have m1 : (q : Int) ≤ (k : Int) := by omega
                have m2 : q ≤ c' := by omega
                have m3 : (0 : Int) ≤ (q : Int) := by omega
                have m4 : (k : Int) < (n : Int) := by omega
                have m5 : (0 : Int) ≤ (k : Int) := by omega
                clear l0 l3 l4 l5 HQ0
                by_cases hcq : c' = q
                · obtain rfl : q = k := by omega
                  subst hcq
                  have HDX : Hid (∀ Z, RS wq wq.heap.size Z 0 (ys.drop c')) := fun Z => by
                    rw [List.drop_of_length_le (by have := (unhide HOq).len; omega)]
                    exact ⟨by simp [cS], fun h => absurd h (by omega)⟩
                  clear hkc m2
                  go_wp2_with fail
                  go_region_held3 (fun w' => w'.cell? (ad.add (c' * 8)) = some (.int .i64 s.id) ∧ w'.cell? ⟨((ad.add (c' * 8))).block, ((ad.add (c' * 8))).off + 1, none⟩ = some (.string s.nm) ∧ w'.cell? ⟨((ad.add (c' * 8))).block, ((ad.add (c' * 8))).off + 2, none⟩ = some (.int .i64 s.x) ∧ w'.cell? ⟨((ad.add (c' * 8))).block, ((ad.add (c' * 8))).off + 3, none⟩ = some (.int .i64 s.y) ∧ w'.cell? ⟨((ad.add (c' * 8))).block, ((ad.add (c' * 8))).off + 4, none⟩ = some (.int .i64 s.gn) ∧ w'.cell? ⟨((ad.add (c' * 8))).block, ((ad.add (c' * 8))).off + 5, none⟩ = some (.int .i64 s.lw) ∧ w'.cell? ⟨((ad.add (c' * 8))).block, ((ad.add (c' * 8))).off + 6, none⟩ = some (.int .i64 s.hg) ∧ w'.cell? ⟨((ad.add (c' * 8))).block, ((ad.add (c' * 8))).off + 7, none⟩ = some (.int .i64 s.ut))
                    (((refine row8_cells ((unhide HRq).below (B := wq.heap.size) ?_ hblk)); (repeat (first | with_reducible exact unhide HB8 | with_reducible exact unhide HB7 | with_reducible exact unhide HB6 | with_reducible exact Below.refl _ _ | with_reducible refine Below.drew ?_ | refine Below.alloc ?_ (by first | omega | (simp <;> omega)) _))))
                    (first
                      | (refine step_append_sts3 (by rfl) _ _ (by rfl) wq _ 0 0 [] (by rfl) ?_ ?_ (some ⟨g, 0, none⟩) c' c' wq.heap.size (ys.take c') (by rfl) ((unhide HT).below (by (repeat (first | exact Below.refl _ _ | refine Below.drew ?_ | refine Below.alloc ?_ (by first | omega | (simp <;> omega)) _)))) c' (Nat.zero_add c') ?_ ?_; (first | exact ownS_empty' wq rfl (Nat.le_refl _) | exact (ownS_empty' wq rfl (Nat.le_refl _)).alloc _ | exact ownS_empty' (wq.alloc _) (by simp) (by simp)); (exact (by (repeat (first | exact Below.refl _ _ | refine Below.drew ?_ | refine Below.alloc ?_ (by first | omega | (simp <;> omega)) _)))); omega; intro A1 c1 w6 hO6 hB6 hg6; have HO6 := hide hO6; have HB6 := hide hB6; have hs6 := hB6.size; clear HT hO6 hB6; (first | (have U6 := hide (Whl.grown (b := wq.heap.size) (g := wq.heap.size + 1) (T := 26) (cs := #[.int .i64 s.id, .string s.nm, .int .i64 s.x, .int .i64 s.y, .int .i64 s.gn, .int .i64 s.lw, .int .i64 s.hg, .int .i64 s.ut]) (by first | exact Whl.drew (Whl.here' _ _ _ (by simp)) | exact Whl.here' _ _ _ (by simp)) hg6 (by omega))) | (have U6 := hide (Whl.grown (b := wq.heap.size + 1) (g := wq.heap.size) (T := 26) (cs := #[.int .i64 s.id, .string s.nm, .int .i64 s.x, .int .i64 s.y, .int .i64 s.gn, .int .i64 s.lw, .int .i64 s.hg, .int .i64 s.ut]) (by first | exact Whl.drew (Whl.alloc (Whl.here' wq _ _ rfl) _) | exact Whl.alloc (Whl.here' wq _ _ rfl) _) hg6 (by omega))) | skip))
                      | (refine step_append_sts3 (by rfl) _ _ (by rfl) wq A1 c' c1 (ys.take c') (by rfl) ?_ ?_ _ 1 1 _ [s] (by rfl) (rs_one (T := 26) ?_ (Nat.lt_succ_self _)) (c' + 1) (by rfl) ?_ ?_; (first | exact unhide HO6 | exact (unhide HO6).alloc _); (first | exact unhide HB6 | exact (unhide HB6).alloc (unhide HB6).size _); (first | exact unhide U6 | exact Whl.here _ _ _); omega; intro A2 c2 w7 hO7 hB7 hg7; have HO7 := hide hO7; have HB7 := hide hB7; have hs7 := hB7.size; clear hO7 hB7 hg7 HO6)
                      | (refine step_append_sts3 (by rfl) _ _ (by rfl) wq A2 (c' + 1) c2 (ys.take c' ++ [s]) (by rfl) (unhide HO7) (unhide HB7) _ _ _ wq.heap.size (ys.drop c') (by rfl) ?_ (c' + 1) ?_ ?_ ?_; (exact (unhide (hide (unhide HDX _))).below (unhide HB7)); omega; omega; intro A3 c3 w8 hO8 hB8 hg8; have HO8 := hide hO8; have HB8 := hide hB8; have hs8 := hB8.size; clear hO8 hB8 hg8))
                  all_goals
                    obtain ⟨g3, rfl, _, _, _⟩ := (unhide HO8).form (by omega)
                    have HO9 : Hid (OwnS w8 w0.heap.size (some ⟨g3, 0, none⟩) (c' + 1) c3 (isort (sqK X Y) (xs.take (c' + 1)))) := by
                      have h9 := OwnS.less (unhide HO8) (unhide HB0q).size
                      unfold Hid
                      rw [unhide HIS]
                      simpa using h9
                    go_wp2_with fail
                    go_roundw
                    case rel => exact ⟨c' + 1, g3, c3, by omega, by go_num, rfl, HO9, below_next (unhide HB0q) (unhide HB8)⟩
                    case measure => simp [intOf] <;> omega
                · skip
                  have HD : Hid (RS wq wq.heap.size (some ⟨g, q * 8, none⟩) (k - q) (ys.drop q)) := by
                    have h9 := (unhide HOq).rs.cut (k := q) (cap := c') (by omega) hkc
                    rw [if_neg hcq] at h9
                    have h8 : (⟨g, 0, none⟩ : Addr).add (q * 8) = ⟨g, q * 8, none⟩ := by simp [Addr.add]; omega
                    rw [← h8]
                    exact h9
                  go_wp2_with fail
                  go_region_held3 (fun w' => w'.cell? (ad.add (k * 8)) = some (.int .i64 s.id) ∧ w'.cell? ⟨((ad.add (k * 8))).block, ((ad.add (k * 8))).off + 1, none⟩ = some (.string s.nm) ∧ w'.cell? ⟨((ad.add (k * 8))).block, ((ad.add (k * 8))).off + 2, none⟩ = some (.int .i64 s.x) ∧ w'.cell? ⟨((ad.add (k * 8))).block, ((ad.add (k * 8))).off + 3, none⟩ = some (.int .i64 s.y) ∧ w'.cell? ⟨((ad.add (k * 8))).block, ((ad.add (k * 8))).off + 4, none⟩ = some (.int .i64 s.gn) ∧ w'.cell? ⟨((ad.add (k * 8))).block, ((ad.add (k * 8))).off + 5, none⟩ = some (.int .i64 s.lw) ∧ w'.cell? ⟨((ad.add (k * 8))).block, ((ad.add (k * 8))).off + 6, none⟩ = some (.int .i64 s.hg) ∧ w'.cell? ⟨((ad.add (k * 8))).block, ((ad.add (k * 8))).off + 7, none⟩ = some (.int .i64 s.ut))
                    (((refine row8_cells ((unhide HRq).below (B := wq.heap.size) ?_ hblk)); (repeat (first | with_reducible exact unhide HB8 | with_reducible exact unhide HB7 | with_reducible exact unhide HB6 | with_reducible exact Below.refl _ _ | with_reducible refine Below.drew ?_ | refine Below.alloc ?_ (by first | omega | (simp <;> omega)) _))))
                    (first
                      | (refine step_append_sts3 (by rfl) _ _ (by rfl) wq _ 0 0 [] (by rfl) ?_ ?_ (some ⟨g, 0, none⟩) q c' wq.heap.size (ys.take q) (by rfl) ((unhide HT).below (by (repeat (first | exact Below.refl _ _ | refine Below.drew ?_ | refine Below.alloc ?_ (by first | omega | (simp <;> omega)) _)))) q (Nat.zero_add q) ?_ ?_; (first | exact ownS_empty' wq rfl (Nat.le_refl _) | exact (ownS_empty' wq rfl (Nat.le_refl _)).alloc _ | exact ownS_empty' (wq.alloc _) (by simp) (by simp)); (exact (by (repeat (first | exact Below.refl _ _ | refine Below.drew ?_ | refine Below.alloc ?_ (by first | omega | (simp <;> omega)) _)))); omega; intro A1 c1 w6 hO6 hB6 hg6; have HO6 := hide hO6; have HB6 := hide hB6; have hs6 := hB6.size; clear HT hO6 hB6; (first | (have U6 := hide (Whl.grown (b := wq.heap.size) (g := wq.heap.size + 1) (T := 26) (cs := #[.int .i64 s.id, .string s.nm, .int .i64 s.x, .int .i64 s.y, .int .i64 s.gn, .int .i64 s.lw, .int .i64 s.hg, .int .i64 s.ut]) (by first | exact Whl.drew (Whl.here' _ _ _ (by simp)) | exact Whl.here' _ _ _ (by simp)) hg6 (by omega))) | (have U6 := hide (Whl.grown (b := wq.heap.size + 1) (g := wq.heap.size) (T := 26) (cs := #[.int .i64 s.id, .string s.nm, .int .i64 s.x, .int .i64 s.y, .int .i64 s.gn, .int .i64 s.lw, .int .i64 s.hg, .int .i64 s.ut]) (by first | exact Whl.drew (Whl.alloc (Whl.here' wq _ _ rfl) _) | exact Whl.alloc (Whl.here' wq _ _ rfl) _) hg6 (by omega))) | skip))
                      | (refine step_append_sts3 (by rfl) _ _ (by rfl) wq A1 q c1 (ys.take q) (by rfl) ?_ ?_ _ 1 1 _ [s] (by rfl) (rs_one (T := 26) ?_ (Nat.lt_succ_self _)) (q + 1) (by rfl) ?_ ?_; (first | exact unhide HO6 | exact (unhide HO6).alloc _); (first | exact unhide HB6 | exact (unhide HB6).alloc (unhide HB6).size _); (first | exact unhide U6 | exact Whl.here _ _ _); omega; intro A2 c2 w7 hO7 hB7 hg7; have HO7 := hide hO7; have HB7 := hide hB7; have hs7 := hB7.size; clear hO7 hB7 hg7 HO6)
                      | (refine step_append_sts3 (by rfl) _ _ (by rfl) wq A2 (q + 1) c2 (ys.take q ++ [s]) (by rfl) (unhide HO7) (unhide HB7) _ _ _ wq.heap.size (ys.drop q) (by rfl) ?_ (k + 1) ?_ ?_ ?_; (exact (unhide HD).below (unhide HB7)); omega; omega; intro A3 c3 w8 hO8 hB8 hg8; have HO8 := hide hO8; have HB8 := hide hB8; have hs8 := hB8.size; clear hO8 hB8 hg8))
                  all_goals
                    obtain ⟨g3, rfl, _, _, _⟩ := (unhide HO8).form (by omega)
                    have HO9 : Hid (OwnS w8 w0.heap.size (some ⟨g3, 0, none⟩) (k + 1) c3 (isort (sqK X Y) (xs.take (k + 1)))) := by
                      have h9 := OwnS.less (unhide HO8) (unhide HB0q).size
                      unfold Hid
                      rw [unhide HIS]
                      simpa using h9
                    go_wp2_with fail
                    go_roundw
                    case rel => exact ⟨k + 1, g3, c3, by omega, by go_num, rfl, HO9, below_next (unhide HB0q) (unhide HB8)⟩
                    case measure => simp [intOf] <;> omega
              · obtain ⟨r, hr⟩ : ∃ r, q = r + 1 := ⟨q - 1, by omega⟩
                have hgz : g < wr.heap.size := ((unhide HOr).form (by omega)).elim fun g' h9 => by obtain ⟨h8, _, h7, _⟩ := h9; injection h8 with h8; injection h8 with h8; omega
                obtain ⟨y, hy, hry, _⟩ := (unhide HOr).el (j := r) (by omega)
                have PX := hide (fun z : Abv wr => hry.abv hgz z)
                have PY := hide (fun z : Abv wr => (unhide HRr).abv hblr z)
                have c1 := hide (fun z : Abv wr => Calls.abv (l3Square_any y X Y z.w))
                have c2 := hide (fun z : Abv wr => Calls.abv (l3Square_any s X Y z.w))
                have px := unhide PX
                have py := unhide PY
                have px0 := fun z : Abv wr => (px z).c0
                have px1 := fun z : Abv wr => (px z).c1
                have px2 := fun z : Abv wr => (px z).c2
                have px3 := fun z : Abv wr => (px z).c3
                have px4 := fun z : Abv wr => (px z).c4
                have px5 := fun z : Abv wr => (px z).c5
                have px6 := fun z : Abv wr => (px z).c6
                have px7 := fun z : Abv wr => (px z).c7
                have py0 := fun z : Abv wr => (py z).c0
                have py1 := fun z : Abv wr => (py z).c1
                have py2 := fun z : Abv wr => (py z).c2
                have py3 := fun z : Abv wr => (py z).c3
                have py4 := fun z : Abv wr => (py z).c4
                have py5 := fun z : Abv wr => (py z).c5
                have py6 := fun z : Abv wr => (py z).c6
                have py7 := fun z : Abv wr => (py z).c7
                have l3 : (r : Int) < (k : Int) := by omega
                have l4 : (0 : Int) ≤ (r : Int) := by omega
                have l5 : (0 : Int) < (q : Int) := by omega
                have l6 : 0 < q := by omega
                have s1 : IntKind.i64.wrap ((q : Int) - 1) = (r : Int) := by rw [show (q : Int) - 1 = (r : Int) by omega]; exact IntWalk.i64_in _ (by omega)
                have HRQ := hide hr
                have HY1 : Hid (ys[q - 1]? = some y) := by unfold Hid; rw [show q - 1 = r by omega]; exact unhide hy
                have HSR : Hid (RowKit.wrap64 ((q : Int) - 1) = (r : Int)) := by unfold Hid; rw [← IntWalk.i64_left]; exact s1
                clear px py hry PX PY hr hq0
                rcases hd : decide (sqK X Y s < sqK X Y y) with _ | _
                · skip
                  have hns : ¬ sqK X Y s < sqK X Y y := of_decide_eq_false hd
                  have HNS := hide (show sqK X Y y ≤ sqK X Y s by omega)
                  generalize hk1 : sqK X Y y = K1 at c1
                  generalize hk2 : sqK X Y s = K2 at c2
                  have ht1 : ¬ K2 < K1 := by rw [← hk1, ← hk2]; exact hns
                  have ht2 : decide (K2 < K1) = false := by rw [← hk1, ← hk2]; exact hd
                  go_wp2_with fail
                  refine wp_region_abv wr (by kernel_rfl) (by kernel_rfl) (Below.refl _ _) ?_
                  repeat (go_big_quiet_step ((first | (go_at_call 80; first | with_reducible exact unhide c1 _ | with_reducible exact unhide c2 _))))
                  refine wpQuiet_nil ?_
                  intro _ hw'
                  obtain ⟨sv, hw''⟩ := hw'
                  subst hw''
                  go_wp2_with fail
                  clear ht1 ht2
                  subst hk1 hk2
                  clear px0 py0 px1 py1 px2 py2 px3 py3 px4 py4 px5 py5 px6 py6 px7 py7 c1 c2 l3 l4 l5 l6 s1 hd hns HSR
                  clear hy
                  have hbs := sv.h
                  have HOq := hide ((unhide HOr).below hbs (Nat.le_refl _))
                  have HRq := hide ((unhide HRr).below hbs hblr)
                  have hblk : (ad.add (k * 8)).block < sv.w.heap.size := Nat.lt_of_lt_of_le hblr hbs.size
                  have HB0q := hide (below_next (unhide HBr) hbs)
                  have HIS : Hid (isort (sqK X Y) (xs.take (k + 1)) = ys.take q ++ s :: ys.drop q) := by
                    unfold Hid
                    rw [isort_step xs k (unhide hx), unhide HYS]
                    exact insG_at s ys q (by have := (unhide HOq).len; omega) (fun y h0 hy => (by have h9 := unhide HY1; rw [hy] at h9; cases h9; exact unhide HNS)) (unhide hQ) (by rw [← unhide HYS]; exact isort_asc _)
                  generalize sv.w = wq at *
                  have HT := hide ((unhide HOq).rs.take (k := q) (by omega))
                  have hkc := (unhide HOq).cap
                  have m1 : (q : Int) ≤ (k : Int) := by omega
                  have m2 : q ≤ c' := by omega
                  have m3 : (0 : Int) ≤ (q : Int) := by omega
                  have m4 : (k : Int) < (n : Int) := by omega
                  have m5 : (0 : Int) ≤ (k : Int) := by omega

                  by_cases hcq : c' = q
                  · obtain rfl : q = k := by omega
                    subst hcq
                    have HDX : Hid (∀ Z, RS wq wq.heap.size Z 0 (ys.drop c')) := fun Z => by
                      rw [List.drop_of_length_le (by have := (unhide HOq).len; omega)]
                      exact ⟨by simp [cS], fun h => absurd h (by omega)⟩
                    clear hkc m2
                    go_wp2_with fail
                    go_region_held3 (fun w' => w'.cell? (ad.add (c' * 8)) = some (.int .i64 s.id) ∧ w'.cell? ⟨((ad.add (c' * 8))).block, ((ad.add (c' * 8))).off + 1, none⟩ = some (.string s.nm) ∧ w'.cell? ⟨((ad.add (c' * 8))).block, ((ad.add (c' * 8))).off + 2, none⟩ = some (.int .i64 s.x) ∧ w'.cell? ⟨((ad.add (c' * 8))).block, ((ad.add (c' * 8))).off + 3, none⟩ = some (.int .i64 s.y) ∧ w'.cell? ⟨((ad.add (c' * 8))).block, ((ad.add (c' * 8))).off + 4, none⟩ = some (.int .i64 s.gn) ∧ w'.cell? ⟨((ad.add (c' * 8))).block, ((ad.add (c' * 8))).off + 5, none⟩ = some (.int .i64 s.lw) ∧ w'.cell? ⟨((ad.add (c' * 8))).block, ((ad.add (c' * 8))).off + 6, none⟩ = some (.int .i64 s.hg) ∧ w'.cell? ⟨((ad.add (c' * 8))).block, ((ad.add (c' * 8))).off + 7, none⟩ = some (.int .i64 s.ut))
                      (((refine row8_cells ((unhide HRq).below (B := wq.heap.size) ?_ hblk)); (repeat (first | with_reducible exact unhide HB8 | with_reducible exact unhide HB7 | with_reducible exact unhide HB6 | with_reducible exact Below.refl _ _ | with_reducible refine Below.drew ?_ | refine Below.alloc ?_ (by first | omega | (simp <;> omega)) _))))
                      (first
                        | (refine step_append_sts3 (by rfl) _ _ (by rfl) wq _ 0 0 [] (by rfl) ?_ ?_ (some ⟨g, 0, none⟩) c' c' wq.heap.size (ys.take c') (by rfl) ((unhide HT).below (by (repeat (first | exact Below.refl _ _ | refine Below.drew ?_ | refine Below.alloc ?_ (by first | omega | (simp <;> omega)) _)))) c' (Nat.zero_add c') ?_ ?_; (first | exact ownS_empty' wq rfl (Nat.le_refl _) | exact (ownS_empty' wq rfl (Nat.le_refl _)).alloc _ | exact ownS_empty' (wq.alloc _) (by simp) (by simp)); (exact (by (repeat (first | exact Below.refl _ _ | refine Below.drew ?_ | refine Below.alloc ?_ (by first | omega | (simp <;> omega)) _)))); omega; intro A1 c1 w6 hO6 hB6 hg6; have HO6 := hide hO6; have HB6 := hide hB6; have hs6 := hB6.size; clear HT hO6 hB6; (first | (have U6 := hide (Whl.grown (b := wq.heap.size) (g := wq.heap.size + 1) (T := 26) (cs := #[.int .i64 s.id, .string s.nm, .int .i64 s.x, .int .i64 s.y, .int .i64 s.gn, .int .i64 s.lw, .int .i64 s.hg, .int .i64 s.ut]) (by first | exact Whl.drew (Whl.here' _ _ _ (by simp)) | exact Whl.here' _ _ _ (by simp)) hg6 (by omega))) | (have U6 := hide (Whl.grown (b := wq.heap.size + 1) (g := wq.heap.size) (T := 26) (cs := #[.int .i64 s.id, .string s.nm, .int .i64 s.x, .int .i64 s.y, .int .i64 s.gn, .int .i64 s.lw, .int .i64 s.hg, .int .i64 s.ut]) (by first | exact Whl.drew (Whl.alloc (Whl.here' wq _ _ rfl) _) | exact Whl.alloc (Whl.here' wq _ _ rfl) _) hg6 (by omega))) | skip))
                        | (refine step_append_sts3 (by rfl) _ _ (by rfl) wq A1 c' c1 (ys.take c') (by rfl) ?_ ?_ _ 1 1 _ [s] (by rfl) (rs_one (T := 26) ?_ (Nat.lt_succ_self _)) (c' + 1) (by rfl) ?_ ?_; (first | exact unhide HO6 | exact (unhide HO6).alloc _); (first | exact unhide HB6 | exact (unhide HB6).alloc (unhide HB6).size _); (first | exact unhide U6 | exact Whl.here _ _ _); omega; intro A2 c2 w7 hO7 hB7 hg7; have HO7 := hide hO7; have HB7 := hide hB7; have hs7 := hB7.size; clear hO7 hB7 hg7 HO6)
                        | (refine step_append_sts3 (by rfl) _ _ (by rfl) wq A2 (c' + 1) c2 (ys.take c' ++ [s]) (by rfl) (unhide HO7) (unhide HB7) _ _ _ wq.heap.size (ys.drop c') (by rfl) ?_ (c' + 1) ?_ ?_ ?_; (exact (unhide (hide (unhide HDX _))).below (unhide HB7)); omega; omega; intro A3 c3 w8 hO8 hB8 hg8; have HO8 := hide hO8; have HB8 := hide hB8; have hs8 := hB8.size; clear hO8 hB8 hg8))
                    all_goals
                      obtain ⟨g3, rfl, _, _, _⟩ := (unhide HO8).form (by omega)
                      have HO9 : Hid (OwnS w8 w0.heap.size (some ⟨g3, 0, none⟩) (c' + 1) c3 (isort (sqK X Y) (xs.take (c' + 1)))) := by
                        have h9 := OwnS.less (unhide HO8) (unhide HB0q).size
                        unfold Hid
                        rw [unhide HIS]
                        simpa using h9
                      go_wp2_with fail
                      go_roundw
                      case rel => exact ⟨c' + 1, g3, c3, by omega, by go_num, rfl, HO9, below_next (unhide HB0q) (unhide HB8)⟩
                      case measure => simp [intOf] <;> omega
                  · skip
                    have HD : Hid (RS wq wq.heap.size (some ⟨g, q * 8, none⟩) (k - q) (ys.drop q)) := by
                      have h9 := (unhide HOq).rs.cut (k := q) (cap := c') (by omega) hkc
                      rw [if_neg hcq] at h9
                      have h8 : (⟨g, 0, none⟩ : Addr).add (q * 8) = ⟨g, q * 8, none⟩ := by simp [Addr.add]; omega
                      rw [← h8]
                      exact h9
                    go_wp2_with fail
                    go_region_held3 (fun w' => w'.cell? (ad.add (k * 8)) = some (.int .i64 s.id) ∧ w'.cell? ⟨((ad.add (k * 8))).block, ((ad.add (k * 8))).off + 1, none⟩ = some (.string s.nm) ∧ w'.cell? ⟨((ad.add (k * 8))).block, ((ad.add (k * 8))).off + 2, none⟩ = some (.int .i64 s.x) ∧ w'.cell? ⟨((ad.add (k * 8))).block, ((ad.add (k * 8))).off + 3, none⟩ = some (.int .i64 s.y) ∧ w'.cell? ⟨((ad.add (k * 8))).block, ((ad.add (k * 8))).off + 4, none⟩ = some (.int .i64 s.gn) ∧ w'.cell? ⟨((ad.add (k * 8))).block, ((ad.add (k * 8))).off + 5, none⟩ = some (.int .i64 s.lw) ∧ w'.cell? ⟨((ad.add (k * 8))).block, ((ad.add (k * 8))).off + 6, none⟩ = some (.int .i64 s.hg) ∧ w'.cell? ⟨((ad.add (k * 8))).block, ((ad.add (k * 8))).off + 7, none⟩ = some (.int .i64 s.ut))
                      (((refine row8_cells ((unhide HRq).below (B := wq.heap.size) ?_ hblk)); (repeat (first | with_reducible exact unhide HB8 | with_reducible exact unhide HB7 | with_reducible exact unhide HB6 | with_reducible exact Below.refl _ _ | with_reducible refine Below.drew ?_ | refine Below.alloc ?_ (by first | omega | (simp <;> omega)) _))))
                      (first
                        | (refine step_append_sts3 (by rfl) _ _ (by rfl) wq _ 0 0 [] (by rfl) ?_ ?_ (some ⟨g, 0, none⟩) q c' wq.heap.size (ys.take q) (by rfl) ((unhide HT).below (by (repeat (first | exact Below.refl _ _ | refine Below.drew ?_ | refine Below.alloc ?_ (by first | omega | (simp <;> omega)) _)))) q (Nat.zero_add q) ?_ ?_; (first | exact ownS_empty' wq rfl (Nat.le_refl _) | exact (ownS_empty' wq rfl (Nat.le_refl _)).alloc _ | exact ownS_empty' (wq.alloc _) (by simp) (by simp)); (exact (by (repeat (first | exact Below.refl _ _ | refine Below.drew ?_ | refine Below.alloc ?_ (by first | omega | (simp <;> omega)) _)))); omega; intro A1 c1 w6 hO6 hB6 hg6; have HO6 := hide hO6; have HB6 := hide hB6; have hs6 := hB6.size; clear HT hO6 hB6; (first | (have U6 := hide (Whl.grown (b := wq.heap.size) (g := wq.heap.size + 1) (T := 26) (cs := #[.int .i64 s.id, .string s.nm, .int .i64 s.x, .int .i64 s.y, .int .i64 s.gn, .int .i64 s.lw, .int .i64 s.hg, .int .i64 s.ut]) (by first | exact Whl.drew (Whl.here' _ _ _ (by simp)) | exact Whl.here' _ _ _ (by simp)) hg6 (by omega))) | (have U6 := hide (Whl.grown (b := wq.heap.size + 1) (g := wq.heap.size) (T := 26) (cs := #[.int .i64 s.id, .string s.nm, .int .i64 s.x, .int .i64 s.y, .int .i64 s.gn, .int .i64 s.lw, .int .i64 s.hg, .int .i64 s.ut]) (by first | exact Whl.drew (Whl.alloc (Whl.here' wq _ _ rfl) _) | exact Whl.alloc (Whl.here' wq _ _ rfl) _) hg6 (by omega))) | skip))
                        | (refine step_append_sts3 (by rfl) _ _ (by rfl) wq A1 q c1 (ys.take q) (by rfl) ?_ ?_ _ 1 1 _ [s] (by rfl) (rs_one (T := 26) ?_ (Nat.lt_succ_self _)) (q + 1) (by rfl) ?_ ?_; (first | exact unhide HO6 | exact (unhide HO6).alloc _); (first | exact unhide HB6 | exact (unhide HB6).alloc (unhide HB6).size _); (first | exact unhide U6 | exact Whl.here _ _ _); omega; intro A2 c2 w7 hO7 hB7 hg7; have HO7 := hide hO7; have HB7 := hide hB7; have hs7 := hB7.size; clear hO7 hB7 hg7 HO6)
                        | (refine step_append_sts3 (by rfl) _ _ (by rfl) wq A2 (q + 1) c2 (ys.take q ++ [s]) (by rfl) (unhide HO7) (unhide HB7) _ _ _ wq.heap.size (ys.drop q) (by rfl) ?_ (k + 1) ?_ ?_ ?_; (exact (unhide HD).below (unhide HB7)); omega; omega; intro A3 c3 w8 hO8 hB8 hg8; have HO8 := hide hO8; have HB8 := hide hB8; have hs8 := hB8.size; clear hO8 hB8 hg8))
                    all_goals
                      obtain ⟨g3, rfl, _, _, _⟩ := (unhide HO8).form (by omega)
                      have HO9 : Hid (OwnS w8 w0.heap.size (some ⟨g3, 0, none⟩) (k + 1) c3 (isort (sqK X Y) (xs.take (k + 1)))) := by
                        have h9 := OwnS.less (unhide HO8) (unhide HB0q).size
                        unfold Hid
                        rw [unhide HIS]
                        simpa using h9
                      go_wp2_with fail
                      go_roundw
                      case rel => exact ⟨k + 1, g3, c3, by omega, by go_num, rfl, HO9, below_next (unhide HB0q) (unhide HB8)⟩
                      case measure => simp [intOf] <;> omega
                · skip
                  have hns : sqK X Y s < sqK X Y y := of_decide_eq_true hd
                  have HQ2 : Hid (∀ i z, r ≤ i → ys[i]? = some z → sqK X Y s < sqK X Y z) := fun i z h8 h9 => by
                    rcases Nat.lt_or_ge r i with h7 | h7
                    · exact unhide hQ i z (by have := unhide HRQ; omega) h9
                    · obtain rfl : i = r := by have := unhide HRQ; omega
                      rw [unhide hy] at h9
                      cases h9
                      exact hns
                  generalize hk1 : sqK X Y y = K1 at c1
                  generalize hk2 : sqK X Y s = K2 at c2
                  have ht1 : K2 < K1 := by rw [← hk1, ← hk2]; exact hns
                  have ht2 : decide (K2 < K1) = true := by rw [← hk1, ← hk2]; exact hd
                  go_wp2_with fail
                  refine wp_region_abv wr (by kernel_rfl) (by kernel_rfl) (Below.refl _ _) ?_
                  repeat (go_big_quiet_step ((first | (go_at_call 80; first | with_reducible exact unhide c1 _ | with_reducible exact unhide c2 _))))
                  refine wpQuiet_nil ?_
                  intro _ hw'
                  obtain ⟨sv, hw''⟩ := hw'
                  subst hw''
                  have h1q : (q : Int) - 1 = (r : Int) := by have := unhide HRQ; omega
                  go_wp2_with fail
                  clear ht1 ht2
                  subst hk1 hk2
                  go_roundw
                  case rel => exact ⟨r, by have := unhide HRQ; omega, by first | rfl | (rw [h1q]) | (simp only [h1q]), HQ2, below_next (unhide hW) sv.h⟩
                  case measure => have := unhide HRQ; simp [intOf] <;> omega
          · obtain rfl : k = n := by omega
            have HTK : Hid (xs.take k = xs) := List.take_of_length_le (by have := unhide HL; omega)
            rw [unhide HTK] at HYS
            have HRR2 : Hid (nearR xs X Y (mq : Int) = (idsI (ys.take mq), true)) := by unfold Hid; rw [unhide HRR, unhide HYS]; simp
            have HLY := hide (unhide hO).len
            have l1 : ¬ (k : Int) < (k : Int) := by omega
            have HB2 := hide (below_next (unhide B00) (unhide hB))
            have HOU := hide ((unhide OUT).below (unhide hB) (Nat.le_refl _))
            have hls := (unhide hB).size
            clear HYS HTK HRR hlt HR hk OUT
            obtain ⟨wo, rfl⟩ : ∃ wo : World, wo = wr := ⟨_, rfl⟩
            go_wp2_with fail
            go_loopw [10, 14] (fun v i wr => ∃ (j : Nat) (A' : Option Addr) (c2 : Nat), j ≤ k ∧ j ≤ mq ∧ i = .int .i64 j ∧ v = .slice A' j c2 ∧ Hid (OwnI wr w.heap.size A' j c2 (idsI (ys.take j))) ∧ Hid (OwnS wr w0.heap.size (some ⟨g, 0, none⟩) k c' ys) ∧ Hid (Below w.heap.size w wr)) (fun _ i _ => k - (intOf i).toNat)
            case atStart => exact ⟨0, _, _, Nat.zero_le _, Nat.zero_le _, rfl, rfl, HOU, hO, HB2⟩
            case round =>
              obtain ⟨j, A', c2, hjk, hjm, rfl, rfl, hOI, hOS, hBj⟩ := hrel
              clear hO HB2 HOU hB hls
              by_cases hj : j < k
              · by_cases hjq : j < mq
                · obtain ⟨y, hy, hry, _⟩ := (unhide hOS).el hj
                  obtain ⟨c0, _, _, _, _, _, _, _⟩ := hry
                  obtain ⟨cur, hcur⟩ := (unhide hOS).whl
                  have HI := hide (ids_step (unhide hy))
                  have hls := (unhide hBj).size
                  have HO1 := hide ((unhide hOI).alloc (.cells #[.int .i64 y.id] 3))
                  have HB9 := hide ((unhide hBj).alloc hls (.cells #[.int .i64 y.id] 3))
                  have HNE : Hid ((Value.slice A' j c2).ownBlock ≠ some g) := own_whl (unhide HO1) (hcur.alloc _) (by decide)
                  have l2 : (j : Int) < (k : Int) := by omega
                  have l3 : (0 : Int) ≤ (j : Int) := by omega
                  have l4 : (j : Int) < (mq : Int) := by omega
                  clear hy
                  go_wp2_with (at_builtin; refine append_int2 _ rfl _ _ rfl w.heap.size A' j c2 _ rfl (unhide HO1) ?_ _ y.id rfl ?_ (by omega) ?_; (simp; omega); (first | exact cellNew _ _ _ | simp); intro A3 c3 w3 hO3 hg3)
                  have HO3 : Hid (OwnI w3 w.heap.size A3 (j + 1) c3 (idsI (ys.take (j + 1)))) := by unfold Hid; rw [unhide HI]; exact hO3
                  have HS3 := hide (((unhide hOS).alloc (.cells #[.int .i64 y.id] 3)).kept hg3 (.inr fun h9 => unhide HNE h9.symm))
                  have HB3 := hide ((unhide HO1).grow (unhide HB9) (Nat.le_refl _) (by simp; omega) hg3)
                  clear hO3 hg3 HO1 HB9 HNE HI hOI hOS hBj hcur c0
                  go_wp2_with fail
                  go_roundw
                  case rel => exact ⟨j + 1, A3, c3, by omega, by omega, by go_num, rfl, HO3, HS3, HB3⟩
                  case measure => simp [intOf] <;> omega
                · obtain rfl : j = mq := by omega
                  have l2 : (j : Int) < (k : Int) := by omega
                  have l4 : ¬ (j : Int) < (j : Int) := by omega
                  go_wp2_with fail
                  go_ret2
                  exact ⟨A', j, c2, by rw [unhide HRR2]; rfl, by rw [unhide HRR2]; exact unhide hOI, unhide hBj⟩
              · obtain rfl : j = k := by omega
                have HTK : Hid (ys.take mq = ys.take j) := by
                  unfold Hid
                  rw [List.take_of_length_le (by have := unhide HLY; omega), List.take_of_length_le (by have := unhide HLY; omega)]
                have l2 : ¬ (j : Int) < (j : Int) := by omega
                go_wp2_with fail
                go_ret2
                exact ⟨A', j, c2, by rw [unhide HRR2]; rfl, by rw [unhide HRR2, unhide HTK]; exact unhide hOI, unhide hBj⟩
end Go.Proofs.Ytihkocplgciifaa
