/- Chapter 3, the walks: all pairs of stations by their distances: the reference's. (By gen_pairS.py.) -/
import Derived.Test.YtihkocplgciifaaProg
import Derived.Test.YtihkocplgciifaaPair
import Derived.Deep.RegionHeld3
import Derived.Deep.DeepCutAuto
import Derived.Deep.CutBlock
import Derived.WalkSpells
namespace Go.Proofs.Ytihkocplgciifaa
open Go.RowKit

theorem step_append_rows0 {w : World} {ops : Array Oper} {o : Oper} {a : Act} {K : Act → World → Prop} {Q : Exit → Act → World → Prop} {E : Prop} (hgd : o.guard = none) (s x : Operand)
    (ho : o.op = .call { callee := .builtin .append, args := #[s, x], argTypes := #[54, 54] })
    (lo : Nat) (A : Option Addr) (n c : Nat) (rs : List Tri) (hs : a.eval s = .slice A n c) (hown : w.ownsRow lo 39 1 (.slice A n c) n (cK rs)) (hlo : lo ≤ w.heap.size)
    (B : Option Addr) (m c2 L : Nat) (ys : List Tri) (hx : a.eval x = .slice B m c2) (hr : Reads w L 1 B m (cK ys)) (p : Nat) (hp : n + m = p) (hn : p ≤ 1000000000)
    (h : ∀ A' c' w', w'.ownsRow lo 39 1 (.slice A' p c') p (cK (rs ++ ys)) → w.grownBy w' (Value.slice A n c).ownBlock → K (a.put o.dst (.slice A' p c')) w') : if Region.wanted o (yielded ops a.tmps) = true then Oper.wp Try.prog o a w K Q else E := by
  subst hp
  obtain ⟨i0, hi, hz0, hz1, hz2⟩ := info_parts info_row
  refine step_append_many w (by simp [Region.wanted, hgd]) s x 54 ho lo 39 i0 (.slice none 0 0) 1 24 Try.underlying54 hi hz0 hz1 hz2 rfl (by decide) A n c (cK rs) hs hown L B m c2 (cK ys) hx hr (cK_one ys) (by unfold maxLen; omega) (by omega) hlo ?_
  intro A' c' w' h2 h3 _
  exact h A' c' w' (by rw [cK_append]; exact h2) h3
theorem rowE {w : World} {g lo : Nat} (h : Whl w g 39 #[]) (hl : lo ≤ g) : w.ownsRow lo 39 1 (.slice (some ⟨g, 0, none⟩) 0 0) 0 (cK []) :=
  ⟨rfl, .inr ⟨g, 0, #[], rfl, hl, h, Nat.le_refl _, by unfold maxLen; omega, rfl, rfl⟩⟩
theorem row_grow {w0 w w' : World} {n c : Nat} {A : Option Addr} {l : List Value} (h : w.ownsRow w0.heap.size 39 1 (.slice A n c) n l) (hb : Below w0.heap.size w0 w) (hs : w0.heap.size ≤ w.heap.size) (hg : w.grownBy w' (Value.slice A n c).ownBlock) : Below w0.heap.size w0 w' :=
  hb.grown hg hs fun k hk => (World.ownsRow.lt h k hk).1
theorem Whl.keptR {w w' : World} {b lo n c : Nat} {T : TypeId} {cs : Array Value} {A : Option Addr} {l : List Value} (h : Whl w b T cs) (hO : w.ownsRow lo 39 1 (.slice A n c) n l) (hne : T ≠ 39) (hg : w.grownBy w' (Value.slice A n c).ownBlock) : Whl w' b T cs := by
  refine (hg.block b h.lt (fun e => ?_)).trans h
  rcases hO.2 with ⟨hv, _⟩ | ⟨g', cap, cur, hv, _, hh, _⟩
  · rw [hv] at e; simp [Value.ownBlock] at e
  · rw [hv] at e
    have e1 : b = g' := by simpa [Value.ownBlock] using e
    subst e1
    unfold Whl at h
    rw [h] at hh
    injection hh with hh
    injection hh with _ ht
    exact hne ht
theorem Whl.keptN {w w' : World} {b : Nat} {T : TypeId} {cs : Array Value} {row : Option Nat} (h : Whl w b T cs) (hne : row ≠ some b) (hg : w.grownBy w' row) : Whl w' b T cs := (hg.block b h.lt (fun e => hne e.symm)).trans h
theorem two_below {w w' : World} {p1 p2 : Addr} {v1 v2 : Value} (h : w.cell? p1 = some v1 ∧ w.cell? p2 = some v2) (h1 : p1.block < w.heap.size) (h2 : p2.block < w.heap.size) (hb : Below w.heap.size w w') : w'.cell? p1 = some v1 ∧ w'.cell? p2 = some v2 := ⟨(hb.cell h1).trans h.1, (hb.cell h2).trans h.2⟩
/-- a row put in at its place -/
theorem rows_ins {ys : List Tri} {L : List (Int × Int × Int)} {r : Nat} {x : Tri} (hY : ys.map tri3 = isort k3 L) (hr : r ≤ ys.length) (h1 : ∀ y, 0 < r → ys[r - 1]? = some y → y.d ≤ x.d) (h2 : ∀ i y, r ≤ i → ys[i]? = some y → x.d < y.d) : (ys.take r ++ x :: ys.drop r).map tri3 = isort k3 (L ++ [tri3 x]) := by
  rw [isort_snoc, ← hY, insG_at (key := k3) (tri3 x) (ys.map tri3) r (by rw [List.length_map]; exact hr) (fun y h0 hy => ?_) (fun j y hj hy => ?_) (by rw [hY]; exact isort_asc _)]
  · rw [List.map_append, List.map_cons, List.map_take, List.map_drop]
  · rw [List.getElem?_map] at hy
    obtain ⟨z, hz, rfl⟩ := Option.map_eq_some_iff.1 hy
    exact h1 z h0 hz
  · rw [List.getElem?_map] at hy
    obtain ⟨z, hz, rfl⟩ := Option.map_eq_some_iff.1 hy
    exact h2 j z hj hz

set_option maxHeartbeats 64000000 in
set_option maxRecDepth 100000 in
theorem specPair_any (A : Option Addr) (n c : Nat) (xs : List St) (w : World) (hr : RS w w.heap.size A n xs) (hn : n ≤ 2097152) (hs : ∀ x ∈ xs, x.nm.size ≤ 9223372036854775807) :
    Calls Try.prog 43 #[.slice A n c] w (RetKB w (pairR xs).1 (pairR xs).2) := by
  have HG := hide (l3Good_any A n c xs (w.alloc (.cells #[] 39)) ((hr.below ((Below.refl _ w).alloc (Nat.le_refl _) _)).more (by simp)) (by omega) hs)
  have HR := hide (fun (W : World) (hb : Below w.heap.size w W) => (hr.below hb).more hb.size)
  have HL := hide hr.len
  have HE := hide (OwnK.empty (lo := w.heap.size) w (Nat.le_refl _))
  have HB0 := hide ((Below.refl _ w).alloc (Nat.le_refl _) (.cells #[] 39))
  clear hr hs
  rcases h1 : stsB xs with _ | _
  · have HRR : Hid (pairR xs = ([], false)) := by unfold Hid pairR; rw [h1]; rfl
    rw [h1] at HG
    go_enter Try.func43, Try.ntmps43
    go_wp2_with fail
    generalize w.alloc (.cells #[] 39) = w0 at *
    refine (unhide HG).mono ?_
    rintro e w1 ⟨rfl, hb⟩
    have HB1 := hide (below_next (unhide HB0) hb)
    have HE1 := hide ((unhide HE).below hb (Nat.le_refl _))
    clear hb HG
    go_wp2_with fail
    go_ret2
    exact ⟨_, 0, 0, [], by rw [unhide HRR]; rfl, unhide HE1, by rw [unhide HRR]; rfl, unhide HB1⟩
  · have HRR : Hid (pairR xs = (isort k3 (prs xs xs.length), true)) := by unfold Hid pairR; rw [h1]; rfl
    rw [h1] at HG
    have hn10 : n ≤ 10 := by have := sts_short h1; have := unhide HL; omega
    clear h1
    go_enter Try.func43, Try.ntmps43
    go_wp2_with fail
    generalize w.alloc (.cells #[] 39) = w0 at *
    refine (unhide HG).mono ?_
    rintro e w1 ⟨rfl, hb⟩
    have HB1 := hide (below_next (unhide HB0) hb)
    have HE1 := hide ((unhide HE).below hb (Nat.le_refl _))
    clear hb HG HE HB0
    go_wp2_with fail
    go_loopw [4, 5] (fun v i wr => ∃ (k g m c' : Nat) (ys : List Tri), k ≤ n ∧ i = .int .i64 (k : Int) ∧ v = .slice (some ⟨g, 0, none⟩) m c' ∧ m ≤ 10 * k ∧ Hid (OwnK wr w.heap.size (some ⟨g, 0, none⟩) m c' ys) ∧ Hid (ys.map tri3 = isort k3 (prs xs k)) ∧ Hid (Below w.heap.size w wr)) (fun _ i _ => n - (intOf i).toNat)
    case atStart => exact ⟨0, _, 0, 0, [], Nat.zero_le _, rfl, rfl, by omega, HE1, rfl, HB1⟩
    case round =>
      obtain ⟨k, g, m, c', ys, hk, rfl, rfl, hm, hO, hY, hB⟩ := hrel
      clear HB1 HE1
      by_cases hlt : k < n
      · have l1 : (k : Int) < (n : Int) := by omega
        have s1 : IntKind.i64.wrap ((k : Int) + 1) = ((k + 1 : Nat) : Int) := by rw [IntWalk.i64_in _ (by omega)]; push_cast; rfl
        go_wp2_with fail
        go_loopw [4, 6] (fun v j wj => ∃ (J g m c' : Nat) (ys : List Tri), k + 1 ≤ J ∧ J ≤ n ∧ j = .int .i64 (J : Int) ∧ v = .slice (some ⟨g, 0, none⟩) m c' ∧ m ≤ 10 * k + (J - (k + 1)) ∧ Hid (OwnK wj w.heap.size (some ⟨g, 0, none⟩) m c' ys) ∧ Hid (ys.map tri3 = isort k3 (prs xs k ++ rowP xs k (J - (k + 1)))) ∧ Hid (Below w.heap.size w wj)) (fun _ j _ => n - (intOf j).toNat)
        case atStart => exact ⟨k + 1, g, m, c', ys, Nat.le_refl _, by omega, rfl, rfl, by omega, hO, (by unfold Hid; rw [Nat.sub_self, rowP, List.append_nil]; exact unhide hY), hB⟩
        case round =>
          clear hO hY hB hm
          obtain ⟨J, g, m, c', ys, hJ1, hJ2, rfl, rfl, hm, hO, hY, hB⟩ := hrel
          by_cases hlq : J < n
          · obtain ⟨wo, rfl⟩ : ∃ wo : World, wo = wr := ⟨_, rfl⟩
            have HRr := hide (unhide HR wo (unhide hB))
            obtain ⟨ad, s, rfl, hbs, hxs, hrow⟩ := (unhide HRr).get hlt
            obtain ⟨ad2, t, had, hbt, hxt, hrowt⟩ := (unhide HRr).get hlq
            obtain rfl : ad = ad2 := by injection had
            have HX := hide (show stAt xs k = s from stAt_of (unhide hxs))
            have HT9 := hide (show stAt xs J = t from stAt_of (unhide hxt))
            have hb1 : (ad.add (k * 8)).block < wo.heap.size := by rw [block_of_add]; exact hbs
            have hb2 : (ad.add (J * 8)).block < wo.heap.size := by rw [block_of_add]; exact hbs
            have PX := hide (fun z : Abv wo => hrow.abv hb1 z)
            have PY := hide (fun z : Abv wo => hrowt.abv hb2 z)
            have HC0 := hide (show wo.cell? (ad.add (k * 8)) = some (.int .i64 s.id) ∧ wo.cell? (ad.add (J * 8)) = some (.int .i64 t.id) from ⟨hrow.c0, hrowt.c0⟩)
            have px := unhide PX
            have py := unhide PY
            have px0 := fun z : Abv wo => (px z).c0
            have px1 := fun z : Abv wo => (px z).c1
            have px2 := fun z : Abv wo => (px z).c2
            have px3 := fun z : Abv wo => (px z).c3
            have px4 := fun z : Abv wo => (px z).c4
            have px5 := fun z : Abv wo => (px z).c5
            have px6 := fun z : Abv wo => (px z).c6
            have px7 := fun z : Abv wo => (px z).c7
            have py2 := fun z : Abv wo => (py z).c2
            have py3 := fun z : Abv wo => (py z).c3
            have c1 := hide (fun z : Abv wo => Calls.abv (l3Square_any s t.x t.y z.w))
            have HTR : Hid (trP xs k J = (s.id, t.id, sqK t.x t.y s)) := by unfold Hid trP; rw [unhide HX, unhide HT9]
            generalize sqK t.x t.y s = D at c1 HTR
            have l2 : (J : Int) < (n : Int) := by omega
            have l3 : (0 : Int) ≤ (J : Int) := by omega
            have l4 : (0 : Int) ≤ (k : Int) := by omega
            clear hrow hrowt had hxs hxt px py PX PY HX HT9 HRr
            go_wp2_with fail
            refine wp_region_abv wo (by kernel_rfl) (by kernel_rfl) (Below.refl _ _) ?_
            repeat (go_big_quiet_step ((first | (go_at_call 80; with_reducible exact unhide c1 _))))
            refine wpQuiet_nil ?_
            intro _ hw'
            obtain ⟨sv, hw''⟩ := hw'
            subst hw''
            clear px0 px1 px2 px3 px4 px5 px6 px7 py2 py3 c1
            have HO2 := hide ((unhide hO).below sv.h (Nat.le_refl _))
            have HB2 := hide (below_next (unhide hB) sv.h)
            have HCQ := hide (two_below (unhide HC0) hb1 hb2 sv.h)
            have hbs1 : (ad.add (k * 8)).block < sv.w.heap.size := Nat.lt_of_lt_of_le hb1 sv.h.size
            have hbs2 : (ad.add (J * 8)).block < sv.w.heap.size := Nat.lt_of_lt_of_le hb2 sv.h.size
            clear hO hB HC0 hb1 hb2
            generalize sv.w = wq at *
            go_upto_block 4 with fail
            go_cut [7] (fun v wx => wx = wq ∧ ∃ r : Nat, v = .int .i64 (r : Int) ∧ r ≤ m ∧ Hid (∀ y, 0 < r → ys[r - 1]? = some y → y.d ≤ D) ∧ Hid (∀ i y, r ≤ i → ys[i]? = some y → D < y.d))
            case first =>
              go_wp2_with fail
              go_loopw [7] (fun i wj => wj = wq ∧ ∃ r : Nat, i = .int .i64 (r : Int) ∧ r ≤ m ∧ Hid (∀ i y, r ≤ i → ys[i]? = some y → D < y.d)) (fun i _ => (intOf i).toNat)
              case atStart => exact ⟨rfl, m, rfl, Nat.le_refl _, fun i y h8 h9 => by have h7 := (List.getElem?_eq_some_iff.1 h9).1; have := (unhide HO2).len; omega⟩
              case round =>
                obtain ⟨rfl, r, rfl, hrm, hQ⟩ := hrel
                by_cases hr0 : r = 0
                · subst hr0
                  go_wp2_with fail
                  go_meet
                  exact ⟨rfl, 0, rfl, Nat.zero_le _, fun y h0 => absurd h0 (by omega), hQ⟩
                · obtain ⟨r, rfl⟩ : ∃ z, r = z + 1 := ⟨r - 1, by omega⟩
                  obtain ⟨y, hy, c0, _⟩ := (unhide HO2).el (j := r) (by omega)
                  have c2 := (show World.cell? _ ⟨y.b, 2, none⟩ = some (.int .i64 y.d) from ((unhide HO2).mem y (List.mem_of_getElem? (unhide hy))).2.cell 2)
                  have l6 : (0 : Int) < ((r + 1 : Nat) : Int) := by omega
                  have l7 : (r : Int) < (m : Int) := by omega
                  have l8 : (0 : Int) ≤ (r : Int) := by omega
                  have s2 : IntKind.i64.wrap (((r + 1 : Nat) : Int) - 1) = (r : Int) := by rw [show ((r + 1 : Nat) : Int) - 1 = (r : Int) by omega]; exact IntWalk.i64_in _ (by omega)
                  have s3 : IntKind.i64.wrap ((r : Int) + 1 - 1) = (r : Int) := by rw [show (r : Int) + 1 - 1 = (r : Int) by omega]; exact IntWalk.i64_in _ (by omega)
                  rcases hd : decide (D < y.d) with _ | _
                  · have hq1 : Hid (∀ z, 0 < r + 1 → ys[r + 1 - 1]? = some z → z.d ≤ D) := fun z _ hz => by
                      have h9 := of_decide_eq_false hd
                      rw [show r + 1 - 1 = r by omega, unhide hy] at hz
                      cases hz
                      omega
                    have hnd : ¬ D < y.d := of_decide_eq_false hd
                    clear hy
                    go_wp2_with fail
                    go_meet
                    exact ⟨rfl, r + 1, rfl, hrm, hq1, hQ⟩
                  · have hq1 : Hid (∀ i z, r ≤ i → ys[i]? = some z → D < z.d) := fun i z hi hz => by
                      have h9 := of_decide_eq_true hd
                      rcases Nat.lt_or_ge r i with h8 | h8
                      · exact unhide hQ i z (by omega) hz
                      · obtain rfl : i = r := by omega
                        rw [unhide hy] at hz
                        cases hz
                        exact h9
                    have hnd : D < y.d := of_decide_eq_true hd
                    clear hy
                    go_wp2_with fail
                    go_roundw
                    case rel => exact ⟨trivial, r, by go_num, by omega, hq1⟩
                    case measure => simp [intOf] <;> omega
            case rest =>
              obtain ⟨rfl, r, hv7, hrm, hQ1, hQ2⟩ := hcut
              generalize wc = wq at *
              subst hv7
              have hcm := (unhide HO2).cap
              have hmx := (unhide HO2).max
              have hyl := (unhide HO2).len
              have HROWS := hide (unhide HO2).mem
              have HDST := hide (unhide HO2).dst
              have HT : Hid (Reads wq wq.heap.size 1 (some ⟨g, 0, none⟩) r (cK (ys.take r))) := by
                have h9 := (Reads.of_own (unhide HO2).row).take (k := r) hrm
                unfold Hid cK at *
                rwa [Nat.mul_one, ← List.map_take] at h9
              have hm100 : m ≤ 200 := by omega
              have m1 : (r : Int) ≤ (m : Int) := by omega
              have m2 : r ≤ c' := by omega
              have m3 : (0 : Int) ≤ (r : Int) := by omega
              have m4 : (m : Int) ≤ (c' : Int) := by omega
              have m5 : (r : Int) ≤ (c' : Int) := by omega
              have Fa : Hid (((wq.alloc (.cells #[] 39)).drew.ownsRow wq.heap.size 39 1 (.slice (some ⟨wq.heap.size, 0, none⟩) 0 0) 0 (cK [])) ∧ wq.heap.size ≤ (wq.alloc (.cells #[] 39)).drew.heap.size ∧ Below wq.heap.size wq (wq.alloc (.cells #[] 39)).drew) := ⟨rowE ((Whl.here' wq _ _ (by (first | (simp only [World.size_alloc]; done) | (simp only [World.size_alloc]; omega) | (simp only [World.size_alloc]; rfl) | rfl | omega))).drew) (by omega), (((Below.refl wq.heap.size wq).alloc (by (first | (simp only [World.size_alloc]; done) | (simp only [World.size_alloc]; omega) | (simp only [World.size_alloc]; rfl) | rfl | omega)) _)).drew.size, (((Below.refl wq.heap.size wq).alloc (by (first | (simp only [World.size_alloc]; done) | (simp only [World.size_alloc]; omega) | (simp only [World.size_alloc]; rfl) | rfl | omega)) _)).drew⟩
              have Fb : Hid ((((wq.alloc (.cells #[] 39)).alloc (.cells #[.int .i64 s.id, .int .i64 t.id, .int .i64 D] 3)).drew.ownsRow wq.heap.size 39 1 (.slice (some ⟨wq.heap.size, 0, none⟩) 0 0) 0 (cK [])) ∧ wq.heap.size ≤ ((wq.alloc (.cells #[] 39)).alloc (.cells #[.int .i64 s.id, .int .i64 t.id, .int .i64 D] 3)).drew.heap.size ∧ Below wq.heap.size wq ((wq.alloc (.cells #[] 39)).alloc (.cells #[.int .i64 s.id, .int .i64 t.id, .int .i64 D] 3)).drew ∧ Whl ((wq.alloc (.cells #[] 39)).alloc (.cells #[.int .i64 s.id, .int .i64 t.id, .int .i64 D] 3)).drew (wq.heap.size + 1) 3 #[.int .i64 s.id, .int .i64 t.id, .int .i64 D]) := ⟨rowE (((Whl.here' wq _ _ (by (first | (simp only [World.size_alloc]; done) | (simp only [World.size_alloc]; omega) | (simp only [World.size_alloc]; rfl) | rfl | omega))).alloc _).drew) (by omega), ((((Below.refl wq.heap.size wq).alloc (by (first | (simp only [World.size_alloc]; done) | (simp only [World.size_alloc]; omega) | (simp only [World.size_alloc]; rfl) | rfl | omega)) _).alloc (by (first | (simp only [World.size_alloc]; done) | (simp only [World.size_alloc]; omega) | (simp only [World.size_alloc]; rfl) | rfl | omega)) _)).drew.size, ((((Below.refl wq.heap.size wq).alloc (by (first | (simp only [World.size_alloc]; done) | (simp only [World.size_alloc]; omega) | (simp only [World.size_alloc]; rfl) | rfl | omega)) _).alloc (by (first | (simp only [World.size_alloc]; done) | (simp only [World.size_alloc]; omega) | (simp only [World.size_alloc]; rfl) | rfl | omega)) _)).drew, ((Whl.here' (wq.alloc (.cells #[] 39)) _ _ (by (first | (simp only [World.size_alloc]; done) | (simp only [World.size_alloc]; omega) | (simp only [World.size_alloc]; rfl) | rfl | omega))).drew)⟩
              have Fc : Hid (((((wq.alloc (.cells #[] 39)).alloc (.cells #[.int .i64 s.id, .int .i64 t.id, .int .i64 D] 3)).alloc (.cells #[.slice (some ⟨wq.heap.size + 1, 0, none⟩) 3 3] 39)).drew.ownsRow wq.heap.size 39 1 (.slice (some ⟨wq.heap.size, 0, none⟩) 0 0) 0 (cK [])) ∧ wq.heap.size ≤ (((wq.alloc (.cells #[] 39)).alloc (.cells #[.int .i64 s.id, .int .i64 t.id, .int .i64 D] 3)).alloc (.cells #[.slice (some ⟨wq.heap.size + 1, 0, none⟩) 3 3] 39)).drew.heap.size ∧ Below wq.heap.size wq (((wq.alloc (.cells #[] 39)).alloc (.cells #[.int .i64 s.id, .int .i64 t.id, .int .i64 D] 3)).alloc (.cells #[.slice (some ⟨wq.heap.size + 1, 0, none⟩) 3 3] 39)).drew ∧ Whl (((wq.alloc (.cells #[] 39)).alloc (.cells #[.int .i64 s.id, .int .i64 t.id, .int .i64 D] 3)).alloc (.cells #[.slice (some ⟨wq.heap.size + 1, 0, none⟩) 3 3] 39)).drew (wq.heap.size + 1) 3 #[.int .i64 s.id, .int .i64 t.id, .int .i64 D] ∧ Whl (((wq.alloc (.cells #[] 39)).alloc (.cells #[.int .i64 s.id, .int .i64 t.id, .int .i64 D] 3)).alloc (.cells #[.slice (some ⟨wq.heap.size + 1, 0, none⟩) 3 3] 39)).drew (wq.heap.size + 1 + 1) 39 #[.slice (some ⟨wq.heap.size + 1, 0, none⟩) 3 3]) := ⟨rowE ((((Whl.here' wq _ _ (by (first | (simp only [World.size_alloc]; done) | (simp only [World.size_alloc]; omega) | (simp only [World.size_alloc]; rfl) | rfl | omega))).alloc _).alloc _).drew) (by omega), (((((Below.refl wq.heap.size wq).alloc (by (first | (simp only [World.size_alloc]; done) | (simp only [World.size_alloc]; omega) | (simp only [World.size_alloc]; rfl) | rfl | omega)) _).alloc (by (first | (simp only [World.size_alloc]; done) | (simp only [World.size_alloc]; omega) | (simp only [World.size_alloc]; rfl) | rfl | omega)) _).alloc (by (first | (simp only [World.size_alloc]; done) | (simp only [World.size_alloc]; omega) | (simp only [World.size_alloc]; rfl) | rfl | omega)) _)).drew.size, (((((Below.refl wq.heap.size wq).alloc (by (first | (simp only [World.size_alloc]; done) | (simp only [World.size_alloc]; omega) | (simp only [World.size_alloc]; rfl) | rfl | omega)) _).alloc (by (first | (simp only [World.size_alloc]; done) | (simp only [World.size_alloc]; omega) | (simp only [World.size_alloc]; rfl) | rfl | omega)) _).alloc (by (first | (simp only [World.size_alloc]; done) | (simp only [World.size_alloc]; omega) | (simp only [World.size_alloc]; rfl) | rfl | omega)) _)).drew, (((Whl.here' (wq.alloc (.cells #[] 39)) _ _ (by (first | (simp only [World.size_alloc]; done) | (simp only [World.size_alloc]; omega) | (simp only [World.size_alloc]; rfl) | rfl | omega))).alloc _).drew), ((Whl.here' ((wq.alloc (.cells #[] 39)).alloc (.cells #[.int .i64 s.id, .int .i64 t.id, .int .i64 D] 3)) _ _ (by (first | (simp only [World.size_alloc]; done) | (simp only [World.size_alloc]; omega) | (simp only [World.size_alloc]; rfl) | rfl | omega))).drew)⟩
              have Fd : Hid ((((wq.alloc (.cells #[.int .i64 s.id, .int .i64 t.id, .int .i64 D] 3)).alloc (.cells #[] 39)).drew.ownsRow wq.heap.size 39 1 (.slice (some ⟨wq.heap.size + 1, 0, none⟩) 0 0) 0 (cK [])) ∧ wq.heap.size ≤ ((wq.alloc (.cells #[.int .i64 s.id, .int .i64 t.id, .int .i64 D] 3)).alloc (.cells #[] 39)).drew.heap.size ∧ Below wq.heap.size wq ((wq.alloc (.cells #[.int .i64 s.id, .int .i64 t.id, .int .i64 D] 3)).alloc (.cells #[] 39)).drew ∧ Whl ((wq.alloc (.cells #[.int .i64 s.id, .int .i64 t.id, .int .i64 D] 3)).alloc (.cells #[] 39)).drew (wq.heap.size) 3 #[.int .i64 s.id, .int .i64 t.id, .int .i64 D]) := ⟨rowE ((Whl.here' (wq.alloc (.cells #[.int .i64 s.id, .int .i64 t.id, .int .i64 D] 3)) _ _ (by (first | (simp only [World.size_alloc]; done) | (simp only [World.size_alloc]; omega) | (simp only [World.size_alloc]; rfl) | rfl | omega))).drew) (by omega), ((((Below.refl wq.heap.size wq).alloc (by (first | (simp only [World.size_alloc]; done) | (simp only [World.size_alloc]; omega) | (simp only [World.size_alloc]; rfl) | rfl | omega)) _).alloc (by (first | (simp only [World.size_alloc]; done) | (simp only [World.size_alloc]; omega) | (simp only [World.size_alloc]; rfl) | rfl | omega)) _)).drew.size, ((((Below.refl wq.heap.size wq).alloc (by (first | (simp only [World.size_alloc]; done) | (simp only [World.size_alloc]; omega) | (simp only [World.size_alloc]; rfl) | rfl | omega)) _).alloc (by (first | (simp only [World.size_alloc]; done) | (simp only [World.size_alloc]; omega) | (simp only [World.size_alloc]; rfl) | rfl | omega)) _)).drew, (((Whl.here' wq _ _ (by (first | (simp only [World.size_alloc]; done) | (simp only [World.size_alloc]; omega) | (simp only [World.size_alloc]; rfl) | rfl | omega))).alloc _).drew)⟩
              have Fe : Hid (((((wq.alloc (.cells #[.int .i64 s.id, .int .i64 t.id, .int .i64 D] 3)).alloc (.cells #[] 39)).alloc (.cells #[.slice (some ⟨wq.heap.size, 0, none⟩) 3 3] 39)).drew.ownsRow wq.heap.size 39 1 (.slice (some ⟨wq.heap.size + 1, 0, none⟩) 0 0) 0 (cK [])) ∧ wq.heap.size ≤ (((wq.alloc (.cells #[.int .i64 s.id, .int .i64 t.id, .int .i64 D] 3)).alloc (.cells #[] 39)).alloc (.cells #[.slice (some ⟨wq.heap.size, 0, none⟩) 3 3] 39)).drew.heap.size ∧ Below wq.heap.size wq (((wq.alloc (.cells #[.int .i64 s.id, .int .i64 t.id, .int .i64 D] 3)).alloc (.cells #[] 39)).alloc (.cells #[.slice (some ⟨wq.heap.size, 0, none⟩) 3 3] 39)).drew ∧ Whl (((wq.alloc (.cells #[.int .i64 s.id, .int .i64 t.id, .int .i64 D] 3)).alloc (.cells #[] 39)).alloc (.cells #[.slice (some ⟨wq.heap.size, 0, none⟩) 3 3] 39)).drew (wq.heap.size) 3 #[.int .i64 s.id, .int .i64 t.id, .int .i64 D] ∧ Whl (((wq.alloc (.cells #[.int .i64 s.id, .int .i64 t.id, .int .i64 D] 3)).alloc (.cells #[] 39)).alloc (.cells #[.slice (some ⟨wq.heap.size, 0, none⟩) 3 3] 39)).drew (wq.heap.size + 1 + 1) 39 #[.slice (some ⟨wq.heap.size, 0, none⟩) 3 3]) := ⟨rowE (((Whl.here' (wq.alloc (.cells #[.int .i64 s.id, .int .i64 t.id, .int .i64 D] 3)) _ _ (by (first | (simp only [World.size_alloc]; done) | (simp only [World.size_alloc]; omega) | (simp only [World.size_alloc]; rfl) | rfl | omega))).alloc _).drew) (by omega), (((((Below.refl wq.heap.size wq).alloc (by (first | (simp only [World.size_alloc]; done) | (simp only [World.size_alloc]; omega) | (simp only [World.size_alloc]; rfl) | rfl | omega)) _).alloc (by (first | (simp only [World.size_alloc]; done) | (simp only [World.size_alloc]; omega) | (simp only [World.size_alloc]; rfl) | rfl | omega)) _).alloc (by (first | (simp only [World.size_alloc]; done) | (simp only [World.size_alloc]; omega) | (simp only [World.size_alloc]; rfl) | rfl | omega)) _)).drew.size, (((((Below.refl wq.heap.size wq).alloc (by (first | (simp only [World.size_alloc]; done) | (simp only [World.size_alloc]; omega) | (simp only [World.size_alloc]; rfl) | rfl | omega)) _).alloc (by (first | (simp only [World.size_alloc]; done) | (simp only [World.size_alloc]; omega) | (simp only [World.size_alloc]; rfl) | rfl | omega)) _).alloc (by (first | (simp only [World.size_alloc]; done) | (simp only [World.size_alloc]; omega) | (simp only [World.size_alloc]; rfl) | rfl | omega)) _)).drew, ((((Whl.here' wq _ _ (by (first | (simp only [World.size_alloc]; done) | (simp only [World.size_alloc]; omega) | (simp only [World.size_alloc]; rfl) | rfl | omega))).alloc _).alloc _).drew), ((Whl.here' ((wq.alloc (.cells #[.int .i64 s.id, .int .i64 t.id, .int .i64 D] 3)).alloc (.cells #[] 39)) _ _ (by (first | (simp only [World.size_alloc]; done) | (simp only [World.size_alloc]; omega) | (simp only [World.size_alloc]; rfl) | rfl | omega))).drew)⟩
              have Ff : Hid (((((wq.alloc (.cells #[.int .i64 s.id, .int .i64 t.id, .int .i64 D] 3)).alloc (.cells #[.slice (some ⟨wq.heap.size, 0, none⟩) 3 3] 39)).alloc (.cells #[] 39)).drew.ownsRow wq.heap.size 39 1 (.slice (some ⟨wq.heap.size + 1 + 1, 0, none⟩) 0 0) 0 (cK [])) ∧ wq.heap.size ≤ (((wq.alloc (.cells #[.int .i64 s.id, .int .i64 t.id, .int .i64 D] 3)).alloc (.cells #[.slice (some ⟨wq.heap.size, 0, none⟩) 3 3] 39)).alloc (.cells #[] 39)).drew.heap.size ∧ Below wq.heap.size wq (((wq.alloc (.cells #[.int .i64 s.id, .int .i64 t.id, .int .i64 D] 3)).alloc (.cells #[.slice (some ⟨wq.heap.size, 0, none⟩) 3 3] 39)).alloc (.cells #[] 39)).drew ∧ Whl (((wq.alloc (.cells #[.int .i64 s.id, .int .i64 t.id, .int .i64 D] 3)).alloc (.cells #[.slice (some ⟨wq.heap.size, 0, none⟩) 3 3] 39)).alloc (.cells #[] 39)).drew (wq.heap.size) 3 #[.int .i64 s.id, .int .i64 t.id, .int .i64 D] ∧ Whl (((wq.alloc (.cells #[.int .i64 s.id, .int .i64 t.id, .int .i64 D] 3)).alloc (.cells #[.slice (some ⟨wq.heap.size, 0, none⟩) 3 3] 39)).alloc (.cells #[] 39)).drew (wq.heap.size + 1) 39 #[.slice (some ⟨wq.heap.size, 0, none⟩) 3 3]) := ⟨rowE ((Whl.here' ((wq.alloc (.cells #[.int .i64 s.id, .int .i64 t.id, .int .i64 D] 3)).alloc (.cells #[.slice (some ⟨wq.heap.size, 0, none⟩) 3 3] 39)) _ _ (by (first | (simp only [World.size_alloc]; done) | (simp only [World.size_alloc]; omega) | (simp only [World.size_alloc]; rfl) | rfl | omega))).drew) (by omega), (((((Below.refl wq.heap.size wq).alloc (by (first | (simp only [World.size_alloc]; done) | (simp only [World.size_alloc]; omega) | (simp only [World.size_alloc]; rfl) | rfl | omega)) _).alloc (by (first | (simp only [World.size_alloc]; done) | (simp only [World.size_alloc]; omega) | (simp only [World.size_alloc]; rfl) | rfl | omega)) _).alloc (by (first | (simp only [World.size_alloc]; done) | (simp only [World.size_alloc]; omega) | (simp only [World.size_alloc]; rfl) | rfl | omega)) _)).drew.size, (((((Below.refl wq.heap.size wq).alloc (by (first | (simp only [World.size_alloc]; done) | (simp only [World.size_alloc]; omega) | (simp only [World.size_alloc]; rfl) | rfl | omega)) _).alloc (by (first | (simp only [World.size_alloc]; done) | (simp only [World.size_alloc]; omega) | (simp only [World.size_alloc]; rfl) | rfl | omega)) _).alloc (by (first | (simp only [World.size_alloc]; done) | (simp only [World.size_alloc]; omega) | (simp only [World.size_alloc]; rfl) | rfl | omega)) _)).drew, ((((Whl.here' wq _ _ (by (first | (simp only [World.size_alloc]; done) | (simp only [World.size_alloc]; omega) | (simp only [World.size_alloc]; rfl) | rfl | omega))).alloc _).alloc _).drew), (((Whl.here' (wq.alloc (.cells #[.int .i64 s.id, .int .i64 t.id, .int .i64 D] 3)) _ _ (by (first | (simp only [World.size_alloc]; done) | (simp only [World.size_alloc]; omega) | (simp only [World.size_alloc]; rfl) | rfl | omega))).alloc _).drew)⟩
              have HFIN : Hid (∀ (w8 : World) (A3 : Option Addr) (c3 b7 : Nat), (w8.ownsRow wq.heap.size 39 1 (.slice A3 (m + 1) c3) (m + 1) (cK (([] ++ ys.take r ++ [(⟨b7, s.id, t.id, D⟩ : Tri)]) ++ ys.drop r))) → Whl w8 b7 3 #[.int .i64 s.id, .int .i64 t.id, .int .i64 D] → wq.heap.size ≤ b7 → Below wq.heap.size wq w8 → OwnK w8 w.heap.size A3 (m + 1) c3 (ys.take r ++ (⟨b7, s.id, t.id, D⟩ : Tri) :: ys.drop r) ∧ (ys.take r ++ (⟨b7, s.id, t.id, D⟩ : Tri) :: ys.drop r).map tri3 = isort k3 (prs xs k ++ rowP xs k (J + 1 - (k + 1))) ∧ Below w.heap.size w w8) := fun w8 A3 c3 b7 h1 h2 hb7 h4 => by
                have hsz := (unhide HB2).size
                refine ⟨?_, ?_, below_next (unhide HB2) h4⟩
                · rw [List.nil_append, List.append_assoc, List.singleton_append] at h1
                  refine ⟨⟨h1.1, ?_⟩, fun z hz => ?_, (unhide HDST).ins (fun z hz e => ?_) r⟩
                  · rcases h1.2 with h9 | ⟨g9, cap9, cur9, h91, h92, h93⟩
                    · exact .inl h9
                    · exact .inr ⟨g9, cap9, cur9, h91, by omega, h93⟩
                  · rcases List.mem_append.1 hz with h9 | h9
                    · have h8 := unhide HROWS z (List.mem_of_mem_take h9)
                      exact ⟨h8.1, (h4.block z.b h8.2.lt).trans h8.2⟩
                    · rcases List.mem_cons.1 h9 with rfl | h9
                      · exact ⟨by show w.heap.size ≤ b7; omega, h2⟩
                      · have h8 := unhide HROWS z (List.mem_of_mem_drop h9)
                        exact ⟨h8.1, (h4.block z.b h8.2.lt).trans h8.2⟩
                  · have h8 := (unhide HROWS z hz).2.lt
                    have h7 : z.b = b7 := e
                    omega
                · have h9 := rows_ins (x := ⟨b7, s.id, t.id, D⟩) (unhide hY) (by omega) (unhide hQ1) (unhide hQ2)
                  rw [h9, show J + 1 - (k + 1) = (J - (k + 1)) + 1 by omega, rowP, show k + 1 + (J - (k + 1)) = J by omega, unhide HTR, List.append_assoc]
                  rfl
              clear hQ1 hQ2 hY HROWS HDST HTR
              by_cases hcr : c' = r
              · obtain rfl : r = m := by omega
                subst hcr
                have HDX : Hid (∀ X, Reads wq wq.heap.size 1 X 0 (cK (ys.drop c'))) := fun X => by
                  rw [List.drop_of_length_le (by omega)]
                  exact ⟨rfl, fun h => absurd h (by omega)⟩
                clear m2 m5
                go_wp2_with fail
                go_region_held3 (fun w' => w'.cell? (ad.add (k * 8)) = some (.int .i64 s.id) ∧ w'.cell? (ad.add (J * 8)) = some (.int .i64 t.id))
                  ((first | exact unhide HCQ | exact two_below (unhide HCQ) hbs1 hbs2 (unhide HB8) | exact two_below (unhide HCQ) hbs1 hbs2 (unhide HB7) | exact two_below (unhide HCQ) hbs1 hbs2 ((unhide HB6).alloc hs6 _) | exact two_below (unhide HCQ) hbs1 hbs2 (((unhide HB6).alloc hs6 _).alloc (by simp only [World.size_alloc]; omega) _) | exact two_below (unhide HCQ) hbs1 hbs2 (unhide HB6) | exact two_below (unhide HCQ) hbs1 hbs2 (unhide Fa).2.2 | exact two_below (unhide HCQ) hbs1 hbs2 (unhide Fb).2.2.1 | exact two_below (unhide HCQ) hbs1 hbs2 (unhide Fc).2.2.1 | exact two_below (unhide HCQ) hbs1 hbs2 (unhide Fd).2.2.1 | exact two_below (unhide HCQ) hbs1 hbs2 (unhide Fe).2.2.1 | exact two_below (unhide HCQ) hbs1 hbs2 (unhide Ff).2.2.1 | exact two_below (unhide HCQ) hbs1 hbs2 ((Below.refl _ wq).alloc (Nat.le_refl _) _).drew | exact two_below (unhide HCQ) hbs1 hbs2 (((Below.refl _ wq).alloc (Nat.le_refl _) _).alloc (by simp only [World.size_alloc]; omega) _).drew))
                  (first
                    | (refine step_append_rows0 (by rfl) _ _ (by rfl) wq.heap.size (some ⟨wq.heap.size, 0, none⟩) 0 0 [] (by rfl) ?_ ?_ (some ⟨g, 0, none⟩) c' c' wq.heap.size (ys.take c') (by rfl) ?_ c' (by rw [Nat.zero_add]) (by omega) ?_; (with_reducible exact (unhide Fa).1); (with_reducible exact (unhide Fa).2.1); (with_reducible exact Reads.below (unhide HT) (unhide Fa).2.2); intro A1 c1 w6 hO6 hg6; have HO6 := hide hO6; have HB6 := hide (row_grow (unhide Fa).1 (unhide Fa).2.2 (unhide Fa).2.1 hg6); have hs6 := (unhide HB6).size; clear hO6 hg6)
                    | (refine step_append_rows0 (by rfl) _ _ (by rfl) wq.heap.size (some ⟨wq.heap.size, 0, none⟩) 0 0 [] (by rfl) ?_ ?_ (some ⟨g, 0, none⟩) c' c' wq.heap.size (ys.take c') (by rfl) ?_ c' (by rw [Nat.zero_add]) (by omega) ?_; (with_reducible exact (unhide Fb).1); (with_reducible exact (unhide Fb).2.1); (with_reducible exact Reads.below (unhide HT) (unhide Fb).2.2.1); intro A1 c1 w6 hO6 hg6; have HO6 := hide hO6; have HB6 := hide (row_grow (unhide Fb).1 (unhide Fb).2.2.1 (unhide Fb).2.1 hg6); have hs6 := (unhide HB6).size; have HR6 : Hid (Whl w6 (wq.heap.size + 1) 3 #[.int .i64 s.id, .int .i64 t.id, .int .i64 D]) := hide ((unhide Fb).2.2.2.keptR (unhide Fb).1 (by decide) hg6); clear hO6 hg6)
                    | (refine step_append_rows0 (by rfl) _ _ (by rfl) wq.heap.size (some ⟨wq.heap.size, 0, none⟩) 0 0 [] (by rfl) ?_ ?_ (some ⟨g, 0, none⟩) c' c' wq.heap.size (ys.take c') (by rfl) ?_ c' (by rw [Nat.zero_add]) (by omega) ?_; (with_reducible exact (unhide Fc).1); (with_reducible exact (unhide Fc).2.1); (with_reducible exact Reads.below (unhide HT) (unhide Fc).2.2.1); intro A1 c1 w6 hO6 hg6; have HO6 := hide hO6; have HB6 := hide (row_grow (unhide Fc).1 (unhide Fc).2.2.1 (unhide Fc).2.1 hg6); have hs6 := (unhide HB6).size; have HR6 : Hid (Whl w6 (wq.heap.size + 1) 3 #[.int .i64 s.id, .int .i64 t.id, .int .i64 D]) := hide ((unhide Fc).2.2.2.1.keptR (unhide Fc).1 (by decide) hg6); have HL6 : Hid (Whl w6 (wq.heap.size + 1 + 1) 39 #[.slice (some ⟨wq.heap.size + 1, 0, none⟩) 3 3]) := hide ((unhide Fc).2.2.2.2.keptN (fun h9 => absurd (Option.some.inj h9) (show ¬ wq.heap.size = wq.heap.size + 1 + 1 from by omega)) hg6); clear hO6 hg6)
                    | (refine step_append_rows0 (by rfl) _ _ (by rfl) wq.heap.size (some ⟨wq.heap.size + 1, 0, none⟩) 0 0 [] (by rfl) ?_ ?_ (some ⟨g, 0, none⟩) c' c' wq.heap.size (ys.take c') (by rfl) ?_ c' (by rw [Nat.zero_add]) (by omega) ?_; (with_reducible exact (unhide Fd).1); (with_reducible exact (unhide Fd).2.1); (with_reducible exact Reads.below (unhide HT) (unhide Fd).2.2.1); intro A1 c1 w6 hO6 hg6; have HO6 := hide hO6; have HB6 := hide (row_grow (unhide Fd).1 (unhide Fd).2.2.1 (unhide Fd).2.1 hg6); have hs6 := (unhide HB6).size; have HR6 : Hid (Whl w6 (wq.heap.size) 3 #[.int .i64 s.id, .int .i64 t.id, .int .i64 D]) := hide ((unhide Fd).2.2.2.keptR (unhide Fd).1 (by decide) hg6); clear hO6 hg6)
                    | (refine step_append_rows0 (by rfl) _ _ (by rfl) wq.heap.size (some ⟨wq.heap.size + 1, 0, none⟩) 0 0 [] (by rfl) ?_ ?_ (some ⟨g, 0, none⟩) c' c' wq.heap.size (ys.take c') (by rfl) ?_ c' (by rw [Nat.zero_add]) (by omega) ?_; (with_reducible exact (unhide Fe).1); (with_reducible exact (unhide Fe).2.1); (with_reducible exact Reads.below (unhide HT) (unhide Fe).2.2.1); intro A1 c1 w6 hO6 hg6; have HO6 := hide hO6; have HB6 := hide (row_grow (unhide Fe).1 (unhide Fe).2.2.1 (unhide Fe).2.1 hg6); have hs6 := (unhide HB6).size; have HR6 : Hid (Whl w6 (wq.heap.size) 3 #[.int .i64 s.id, .int .i64 t.id, .int .i64 D]) := hide ((unhide Fe).2.2.2.1.keptR (unhide Fe).1 (by decide) hg6); have HL6 : Hid (Whl w6 (wq.heap.size + 1 + 1) 39 #[.slice (some ⟨wq.heap.size, 0, none⟩) 3 3]) := hide ((unhide Fe).2.2.2.2.keptN (fun h9 => absurd (Option.some.inj h9) (show ¬ wq.heap.size + 1 = wq.heap.size + 1 + 1 from by omega)) hg6); clear hO6 hg6)
                    | (refine step_append_rows0 (by rfl) _ _ (by rfl) wq.heap.size (some ⟨wq.heap.size + 1 + 1, 0, none⟩) 0 0 [] (by rfl) ?_ ?_ (some ⟨g, 0, none⟩) c' c' wq.heap.size (ys.take c') (by rfl) ?_ c' (by rw [Nat.zero_add]) (by omega) ?_; (with_reducible exact (unhide Ff).1); (with_reducible exact (unhide Ff).2.1); (with_reducible exact Reads.below (unhide HT) (unhide Ff).2.2.1); intro A1 c1 w6 hO6 hg6; have HO6 := hide hO6; have HB6 := hide (row_grow (unhide Ff).1 (unhide Ff).2.2.1 (unhide Ff).2.1 hg6); have hs6 := (unhide HB6).size; have HR6 : Hid (Whl w6 (wq.heap.size) 3 #[.int .i64 s.id, .int .i64 t.id, .int .i64 D]) := hide ((unhide Ff).2.2.2.1.keptR (unhide Ff).1 (by decide) hg6); have HL6 : Hid (Whl w6 (wq.heap.size + 1) 39 #[.slice (some ⟨wq.heap.size, 0, none⟩) 3 3]) := hide ((unhide Ff).2.2.2.2.keptN (fun h9 => absurd (Option.some.inj h9) (show ¬ wq.heap.size + 1 + 1 = wq.heap.size + 1 from by omega)) hg6); clear hO6 hg6)
                    | (refine step_append_rows0 (by rfl) _ _ (by rfl) wq.heap.size A1 c' c1 ([] ++ ys.take c') (by rfl) ?_ ?_ (some ⟨w6.heap.size + 1, 0, none⟩) 1 1 _ [⟨w6.heap.size, s.id, t.id, D⟩] (by rfl) (reads_row (T := 39) ?_ (Nat.lt_succ_self _)) (c' + 1) (by rfl) (by omega) ?_; (exact (World.ownsRow.alloc (World.ownsRow.alloc (unhide HO6) (.cells #[.int .i64 s.id, .int .i64 t.id, .int .i64 D] 3)) (.cells #[.slice (some ⟨w6.heap.size, 0, none⟩) 3 3] 39))); ((first | (simp only [World.size_alloc]; done) | (simp only [World.size_alloc]; omega) | (simp only [World.size_alloc]; rfl) | rfl | omega)); (exact Whl.here' (w6.alloc (.cells #[.int .i64 s.id, .int .i64 t.id, .int .i64 D] 3)) 39 #[.slice (some ⟨w6.heap.size, 0, none⟩) 3 3] (by (first | (simp only [World.size_alloc]; done) | (simp only [World.size_alloc]; omega) | (simp only [World.size_alloc]; rfl) | rfl | omega))); intro A2 c2 w7 hO7 hg7; refine Exists.elim (show ∃ b : Nat, Hid (w7.ownsRow wq.heap.size 39 1 (.slice A2 (c' + 1) c2) (c' + 1) (cK ([] ++ ys.take c' ++ [(⟨b, s.id, t.id, D⟩ : Tri)]))) ∧ Hid (Whl w7 b 3 #[.int .i64 s.id, .int .i64 t.id, .int .i64 D]) ∧ wq.heap.size ≤ b from ⟨w6.heap.size, hO7, (((Whl.here w6 3 #[.int .i64 s.id, .int .i64 t.id, .int .i64 D]).alloc (.cells #[.slice (some ⟨w6.heap.size, 0, none⟩) 3 3] 39))).keptR (World.ownsRow.alloc (World.ownsRow.alloc (unhide HO6) (.cells #[.int .i64 s.id, .int .i64 t.id, .int .i64 D] 3)) (.cells #[.slice (some ⟨w6.heap.size, 0, none⟩) 3 3] 39)) (by decide) hg7, hs6⟩) ?_; rintro b7 ⟨HO7, HR7, hb7⟩; have HB7 := hide (row_grow (World.ownsRow.alloc (World.ownsRow.alloc (unhide HO6) (.cells #[.int .i64 s.id, .int .i64 t.id, .int .i64 D] 3)) (.cells #[.slice (some ⟨w6.heap.size, 0, none⟩) 3 3] 39)) (((unhide HB6).alloc hs6 (.cells #[.int .i64 s.id, .int .i64 t.id, .int .i64 D] 3)).alloc (by (first | (simp only [World.size_alloc]; done) | (simp only [World.size_alloc]; omega) | (simp only [World.size_alloc]; rfl) | rfl | omega)) (.cells #[.slice (some ⟨w6.heap.size, 0, none⟩) 3 3] 39)) (by (first | (simp only [World.size_alloc]; done) | (simp only [World.size_alloc]; omega) | (simp only [World.size_alloc]; rfl) | rfl | omega)) hg7); have hs7 := (unhide HB7).size; clear hO7 hg7)
                    | (refine step_append_rows0 (by rfl) _ _ (by rfl) wq.heap.size A1 c' c1 ([] ++ ys.take c') (by rfl) ?_ ?_ (some ⟨w6.heap.size, 0, none⟩) 1 1 _ [⟨wq.heap.size + 1, s.id, t.id, D⟩] (by rfl) (reads_row (T := 39) ?_ (Nat.lt_succ_self _)) (c' + 1) (by rfl) (by omega) ?_; (exact (World.ownsRow.alloc (unhide HO6) (.cells #[.slice (some ⟨wq.heap.size + 1, 0, none⟩) 3 3] 39))); ((first | (simp only [World.size_alloc]; done) | (simp only [World.size_alloc]; omega) | (simp only [World.size_alloc]; rfl) | rfl | omega)); (exact Whl.here w6 39 #[.slice (some ⟨wq.heap.size + 1, 0, none⟩) 3 3]); intro A2 c2 w7 hO7 hg7; refine Exists.elim (show ∃ b : Nat, Hid (w7.ownsRow wq.heap.size 39 1 (.slice A2 (c' + 1) c2) (c' + 1) (cK ([] ++ ys.take c' ++ [(⟨b, s.id, t.id, D⟩ : Tri)]))) ∧ Hid (Whl w7 b 3 #[.int .i64 s.id, .int .i64 t.id, .int .i64 D]) ∧ wq.heap.size ≤ b from ⟨wq.heap.size + 1, hO7, (((unhide HR6).alloc (.cells #[.slice (some ⟨wq.heap.size + 1, 0, none⟩) 3 3] 39))).keptR (World.ownsRow.alloc (unhide HO6) (.cells #[.slice (some ⟨wq.heap.size + 1, 0, none⟩) 3 3] 39)) (by decide) hg7, (by omega)⟩) ?_; rintro b7 ⟨HO7, HR7, hb7⟩; have HB7 := hide (row_grow (World.ownsRow.alloc (unhide HO6) (.cells #[.slice (some ⟨wq.heap.size + 1, 0, none⟩) 3 3] 39)) ((unhide HB6).alloc hs6 (.cells #[.slice (some ⟨wq.heap.size + 1, 0, none⟩) 3 3] 39)) (by (first | (simp only [World.size_alloc]; done) | (simp only [World.size_alloc]; omega) | (simp only [World.size_alloc]; rfl) | rfl | omega)) hg7); have hs7 := (unhide HB7).size; clear hO7 hg7)
                    | (refine step_append_rows0 (by rfl) _ _ (by rfl) wq.heap.size A1 c' c1 ([] ++ ys.take c') (by rfl) ?_ ?_ (some ⟨w6.heap.size, 0, none⟩) 1 1 _ [⟨wq.heap.size, s.id, t.id, D⟩] (by rfl) (reads_row (T := 39) ?_ (Nat.lt_succ_self _)) (c' + 1) (by rfl) (by omega) ?_; (exact (World.ownsRow.alloc (unhide HO6) (.cells #[.slice (some ⟨wq.heap.size, 0, none⟩) 3 3] 39))); ((first | (simp only [World.size_alloc]; done) | (simp only [World.size_alloc]; omega) | (simp only [World.size_alloc]; rfl) | rfl | omega)); (exact Whl.here w6 39 #[.slice (some ⟨wq.heap.size, 0, none⟩) 3 3]); intro A2 c2 w7 hO7 hg7; refine Exists.elim (show ∃ b : Nat, Hid (w7.ownsRow wq.heap.size 39 1 (.slice A2 (c' + 1) c2) (c' + 1) (cK ([] ++ ys.take c' ++ [(⟨b, s.id, t.id, D⟩ : Tri)]))) ∧ Hid (Whl w7 b 3 #[.int .i64 s.id, .int .i64 t.id, .int .i64 D]) ∧ wq.heap.size ≤ b from ⟨wq.heap.size, hO7, (((unhide HR6).alloc (.cells #[.slice (some ⟨wq.heap.size, 0, none⟩) 3 3] 39))).keptR (World.ownsRow.alloc (unhide HO6) (.cells #[.slice (some ⟨wq.heap.size, 0, none⟩) 3 3] 39)) (by decide) hg7, (by omega)⟩) ?_; rintro b7 ⟨HO7, HR7, hb7⟩; have HB7 := hide (row_grow (World.ownsRow.alloc (unhide HO6) (.cells #[.slice (some ⟨wq.heap.size, 0, none⟩) 3 3] 39)) ((unhide HB6).alloc hs6 (.cells #[.slice (some ⟨wq.heap.size, 0, none⟩) 3 3] 39)) (by (first | (simp only [World.size_alloc]; done) | (simp only [World.size_alloc]; omega) | (simp only [World.size_alloc]; rfl) | rfl | omega)) hg7); have hs7 := (unhide HB7).size; clear hO7 hg7)
                    | (refine step_append_rows0 (by rfl) _ _ (by rfl) wq.heap.size A1 c' c1 ([] ++ ys.take c') (by rfl) ?_ ?_ (some ⟨wq.heap.size + 1 + 1, 0, none⟩) 1 1 _ [⟨wq.heap.size + 1, s.id, t.id, D⟩] (by rfl) (reads_row (T := 39) ?_ (Nat.lt_succ_self _)) (c' + 1) (by rfl) (by omega) ?_; (exact (unhide HO6)); (omega); (exact (unhide HL6)); intro A2 c2 w7 hO7 hg7; refine Exists.elim (show ∃ b : Nat, Hid (w7.ownsRow wq.heap.size 39 1 (.slice A2 (c' + 1) c2) (c' + 1) (cK ([] ++ ys.take c' ++ [(⟨b, s.id, t.id, D⟩ : Tri)]))) ∧ Hid (Whl w7 b 3 #[.int .i64 s.id, .int .i64 t.id, .int .i64 D]) ∧ wq.heap.size ≤ b from ⟨wq.heap.size + 1, hO7, ((unhide HR6)).keptR (unhide HO6) (by decide) hg7, (by omega)⟩) ?_; rintro b7 ⟨HO7, HR7, hb7⟩; have HB7 := hide (row_grow (unhide HO6) (unhide HB6) (by omega) hg7); have hs7 := (unhide HB7).size; clear hO7 hg7)
                    | (refine step_append_rows0 (by rfl) _ _ (by rfl) wq.heap.size A1 c' c1 ([] ++ ys.take c') (by rfl) ?_ ?_ (some ⟨wq.heap.size + 1 + 1, 0, none⟩) 1 1 _ [⟨wq.heap.size, s.id, t.id, D⟩] (by rfl) (reads_row (T := 39) ?_ (Nat.lt_succ_self _)) (c' + 1) (by rfl) (by omega) ?_; (exact (unhide HO6)); (omega); (exact (unhide HL6)); intro A2 c2 w7 hO7 hg7; refine Exists.elim (show ∃ b : Nat, Hid (w7.ownsRow wq.heap.size 39 1 (.slice A2 (c' + 1) c2) (c' + 1) (cK ([] ++ ys.take c' ++ [(⟨b, s.id, t.id, D⟩ : Tri)]))) ∧ Hid (Whl w7 b 3 #[.int .i64 s.id, .int .i64 t.id, .int .i64 D]) ∧ wq.heap.size ≤ b from ⟨wq.heap.size, hO7, ((unhide HR6)).keptR (unhide HO6) (by decide) hg7, (by omega)⟩) ?_; rintro b7 ⟨HO7, HR7, hb7⟩; have HB7 := hide (row_grow (unhide HO6) (unhide HB6) (by omega) hg7); have hs7 := (unhide HB7).size; clear hO7 hg7)
                    | (refine step_append_rows0 (by rfl) _ _ (by rfl) wq.heap.size A1 c' c1 ([] ++ ys.take c') (by rfl) ?_ ?_ (some ⟨wq.heap.size + 1, 0, none⟩) 1 1 _ [⟨wq.heap.size, s.id, t.id, D⟩] (by rfl) (reads_row (T := 39) ?_ (Nat.lt_succ_self _)) (c' + 1) (by rfl) (by omega) ?_; (exact (unhide HO6)); (omega); (exact (unhide HL6)); intro A2 c2 w7 hO7 hg7; refine Exists.elim (show ∃ b : Nat, Hid (w7.ownsRow wq.heap.size 39 1 (.slice A2 (c' + 1) c2) (c' + 1) (cK ([] ++ ys.take c' ++ [(⟨b, s.id, t.id, D⟩ : Tri)]))) ∧ Hid (Whl w7 b 3 #[.int .i64 s.id, .int .i64 t.id, .int .i64 D]) ∧ wq.heap.size ≤ b from ⟨wq.heap.size, hO7, ((unhide HR6)).keptR (unhide HO6) (by decide) hg7, (by omega)⟩) ?_; rintro b7 ⟨HO7, HR7, hb7⟩; have HB7 := hide (row_grow (unhide HO6) (unhide HB6) (by omega) hg7); have hs7 := (unhide HB7).size; clear hO7 hg7)
                    | (refine step_append_rows0 (by rfl) _ _ (by rfl) wq.heap.size A2 (c' + 1) c2 ([] ++ ys.take c' ++ [⟨b7, s.id, t.id, D⟩]) (by rfl) (unhide HO7) ?_ _ _ _ wq.heap.size (ys.drop c') (by rfl) ?_ (c' + 1) ?_ ?_ ?_; (omega); (exact Reads.below (unhide HDX _) (unhide HB7)); (omega); (omega); intro A3 c3 w8 hO8 hg8; have HO8 := hide hO8; have HR8 := hide ((unhide HR7).keptR (unhide HO7) (by decide) hg8); have HB8 := hide (row_grow (unhide HO7) (unhide HB7) (by omega) hg8); clear hO8 hg8))
                all_goals
                  obtain ⟨HO9, HY9, HB9⟩ := unhide HFIN w8 A3 c3 b7 (unhide HO8) (unhide HR8) hb7 (unhide HB8)
                  obtain ⟨g9, rfl, _, _, _⟩ := HO9.form (by omega)
                  have HO10 := hide HO9
                  have HY10 := hide HY9
                  have HB10 := hide HB9
                  clear HO9 HY9 HB9 HO8 HR8 HB8 HFIN
                  go_wp2_with fail
                  go_roundw
                  case rel => exact ⟨J + 1, g9, c' + 1, c3, _, by omega, by omega, by go_num, rfl, by omega, HO10, HY10, HB10⟩
                  case measure => simp [intOf] <;> omega
              · have HDR : Hid (Reads wq wq.heap.size 1 (some ⟨g, r, none⟩) (m - r) (cK (ys.drop r))) := by
                  have h9 := (Reads.of_own (unhide HO2).row).cut (k := r) (cap := c') hrm hcm
                  rw [if_neg hcr] at h9
                  have h8 : (⟨g, 0, none⟩ : Addr).add (r * 1) = ⟨g, r, none⟩ := by simp [Addr.add]; omega
                  unfold Hid cK at *
                  rw [← h8]
                  rw [Nat.mul_one, ← List.map_drop] at h9
                  rw [Nat.mul_one]
                  exact h9
                go_wp2_with fail
                go_region_held3 (fun w' => w'.cell? (ad.add (k * 8)) = some (.int .i64 s.id) ∧ w'.cell? (ad.add (J * 8)) = some (.int .i64 t.id))
                  ((first | exact unhide HCQ | exact two_below (unhide HCQ) hbs1 hbs2 (unhide HB8) | exact two_below (unhide HCQ) hbs1 hbs2 (unhide HB7) | exact two_below (unhide HCQ) hbs1 hbs2 ((unhide HB6).alloc hs6 _) | exact two_below (unhide HCQ) hbs1 hbs2 (((unhide HB6).alloc hs6 _).alloc (by simp only [World.size_alloc]; omega) _) | exact two_below (unhide HCQ) hbs1 hbs2 (unhide HB6) | exact two_below (unhide HCQ) hbs1 hbs2 (unhide Fa).2.2 | exact two_below (unhide HCQ) hbs1 hbs2 (unhide Fb).2.2.1 | exact two_below (unhide HCQ) hbs1 hbs2 (unhide Fc).2.2.1 | exact two_below (unhide HCQ) hbs1 hbs2 (unhide Fd).2.2.1 | exact two_below (unhide HCQ) hbs1 hbs2 (unhide Fe).2.2.1 | exact two_below (unhide HCQ) hbs1 hbs2 (unhide Ff).2.2.1 | exact two_below (unhide HCQ) hbs1 hbs2 ((Below.refl _ wq).alloc (Nat.le_refl _) _).drew | exact two_below (unhide HCQ) hbs1 hbs2 (((Below.refl _ wq).alloc (Nat.le_refl _) _).alloc (by simp only [World.size_alloc]; omega) _).drew))
                  (first
                    | (refine step_append_rows0 (by rfl) _ _ (by rfl) wq.heap.size (some ⟨wq.heap.size, 0, none⟩) 0 0 [] (by rfl) ?_ ?_ (some ⟨g, 0, none⟩) r c' wq.heap.size (ys.take r) (by rfl) ?_ r (by rw [Nat.zero_add]) (by omega) ?_; (with_reducible exact (unhide Fa).1); (with_reducible exact (unhide Fa).2.1); (with_reducible exact Reads.below (unhide HT) (unhide Fa).2.2); intro A1 c1 w6 hO6 hg6; have HO6 := hide hO6; have HB6 := hide (row_grow (unhide Fa).1 (unhide Fa).2.2 (unhide Fa).2.1 hg6); have hs6 := (unhide HB6).size; clear hO6 hg6)
                    | (refine step_append_rows0 (by rfl) _ _ (by rfl) wq.heap.size (some ⟨wq.heap.size, 0, none⟩) 0 0 [] (by rfl) ?_ ?_ (some ⟨g, 0, none⟩) r c' wq.heap.size (ys.take r) (by rfl) ?_ r (by rw [Nat.zero_add]) (by omega) ?_; (with_reducible exact (unhide Fb).1); (with_reducible exact (unhide Fb).2.1); (with_reducible exact Reads.below (unhide HT) (unhide Fb).2.2.1); intro A1 c1 w6 hO6 hg6; have HO6 := hide hO6; have HB6 := hide (row_grow (unhide Fb).1 (unhide Fb).2.2.1 (unhide Fb).2.1 hg6); have hs6 := (unhide HB6).size; have HR6 : Hid (Whl w6 (wq.heap.size + 1) 3 #[.int .i64 s.id, .int .i64 t.id, .int .i64 D]) := hide ((unhide Fb).2.2.2.keptR (unhide Fb).1 (by decide) hg6); clear hO6 hg6)
                    | (refine step_append_rows0 (by rfl) _ _ (by rfl) wq.heap.size (some ⟨wq.heap.size, 0, none⟩) 0 0 [] (by rfl) ?_ ?_ (some ⟨g, 0, none⟩) r c' wq.heap.size (ys.take r) (by rfl) ?_ r (by rw [Nat.zero_add]) (by omega) ?_; (with_reducible exact (unhide Fc).1); (with_reducible exact (unhide Fc).2.1); (with_reducible exact Reads.below (unhide HT) (unhide Fc).2.2.1); intro A1 c1 w6 hO6 hg6; have HO6 := hide hO6; have HB6 := hide (row_grow (unhide Fc).1 (unhide Fc).2.2.1 (unhide Fc).2.1 hg6); have hs6 := (unhide HB6).size; have HR6 : Hid (Whl w6 (wq.heap.size + 1) 3 #[.int .i64 s.id, .int .i64 t.id, .int .i64 D]) := hide ((unhide Fc).2.2.2.1.keptR (unhide Fc).1 (by decide) hg6); have HL6 : Hid (Whl w6 (wq.heap.size + 1 + 1) 39 #[.slice (some ⟨wq.heap.size + 1, 0, none⟩) 3 3]) := hide ((unhide Fc).2.2.2.2.keptN (fun h9 => absurd (Option.some.inj h9) (show ¬ wq.heap.size = wq.heap.size + 1 + 1 from by omega)) hg6); clear hO6 hg6)
                    | (refine step_append_rows0 (by rfl) _ _ (by rfl) wq.heap.size (some ⟨wq.heap.size + 1, 0, none⟩) 0 0 [] (by rfl) ?_ ?_ (some ⟨g, 0, none⟩) r c' wq.heap.size (ys.take r) (by rfl) ?_ r (by rw [Nat.zero_add]) (by omega) ?_; (with_reducible exact (unhide Fd).1); (with_reducible exact (unhide Fd).2.1); (with_reducible exact Reads.below (unhide HT) (unhide Fd).2.2.1); intro A1 c1 w6 hO6 hg6; have HO6 := hide hO6; have HB6 := hide (row_grow (unhide Fd).1 (unhide Fd).2.2.1 (unhide Fd).2.1 hg6); have hs6 := (unhide HB6).size; have HR6 : Hid (Whl w6 (wq.heap.size) 3 #[.int .i64 s.id, .int .i64 t.id, .int .i64 D]) := hide ((unhide Fd).2.2.2.keptR (unhide Fd).1 (by decide) hg6); clear hO6 hg6)
                    | (refine step_append_rows0 (by rfl) _ _ (by rfl) wq.heap.size (some ⟨wq.heap.size + 1, 0, none⟩) 0 0 [] (by rfl) ?_ ?_ (some ⟨g, 0, none⟩) r c' wq.heap.size (ys.take r) (by rfl) ?_ r (by rw [Nat.zero_add]) (by omega) ?_; (with_reducible exact (unhide Fe).1); (with_reducible exact (unhide Fe).2.1); (with_reducible exact Reads.below (unhide HT) (unhide Fe).2.2.1); intro A1 c1 w6 hO6 hg6; have HO6 := hide hO6; have HB6 := hide (row_grow (unhide Fe).1 (unhide Fe).2.2.1 (unhide Fe).2.1 hg6); have hs6 := (unhide HB6).size; have HR6 : Hid (Whl w6 (wq.heap.size) 3 #[.int .i64 s.id, .int .i64 t.id, .int .i64 D]) := hide ((unhide Fe).2.2.2.1.keptR (unhide Fe).1 (by decide) hg6); have HL6 : Hid (Whl w6 (wq.heap.size + 1 + 1) 39 #[.slice (some ⟨wq.heap.size, 0, none⟩) 3 3]) := hide ((unhide Fe).2.2.2.2.keptN (fun h9 => absurd (Option.some.inj h9) (show ¬ wq.heap.size + 1 = wq.heap.size + 1 + 1 from by omega)) hg6); clear hO6 hg6)
                    | (refine step_append_rows0 (by rfl) _ _ (by rfl) wq.heap.size (some ⟨wq.heap.size + 1 + 1, 0, none⟩) 0 0 [] (by rfl) ?_ ?_ (some ⟨g, 0, none⟩) r c' wq.heap.size (ys.take r) (by rfl) ?_ r (by rw [Nat.zero_add]) (by omega) ?_; (with_reducible exact (unhide Ff).1); (with_reducible exact (unhide Ff).2.1); (with_reducible exact Reads.below (unhide HT) (unhide Ff).2.2.1); intro A1 c1 w6 hO6 hg6; have HO6 := hide hO6; have HB6 := hide (row_grow (unhide Ff).1 (unhide Ff).2.2.1 (unhide Ff).2.1 hg6); have hs6 := (unhide HB6).size; have HR6 : Hid (Whl w6 (wq.heap.size) 3 #[.int .i64 s.id, .int .i64 t.id, .int .i64 D]) := hide ((unhide Ff).2.2.2.1.keptR (unhide Ff).1 (by decide) hg6); have HL6 : Hid (Whl w6 (wq.heap.size + 1) 39 #[.slice (some ⟨wq.heap.size, 0, none⟩) 3 3]) := hide ((unhide Ff).2.2.2.2.keptN (fun h9 => absurd (Option.some.inj h9) (show ¬ wq.heap.size + 1 + 1 = wq.heap.size + 1 from by omega)) hg6); clear hO6 hg6)
                    | (refine step_append_rows0 (by rfl) _ _ (by rfl) wq.heap.size A1 r c1 ([] ++ ys.take r) (by rfl) ?_ ?_ (some ⟨w6.heap.size + 1, 0, none⟩) 1 1 _ [⟨w6.heap.size, s.id, t.id, D⟩] (by rfl) (reads_row (T := 39) ?_ (Nat.lt_succ_self _)) (r + 1) (by rfl) (by omega) ?_; (exact (World.ownsRow.alloc (World.ownsRow.alloc (unhide HO6) (.cells #[.int .i64 s.id, .int .i64 t.id, .int .i64 D] 3)) (.cells #[.slice (some ⟨w6.heap.size, 0, none⟩) 3 3] 39))); ((first | (simp only [World.size_alloc]; done) | (simp only [World.size_alloc]; omega) | (simp only [World.size_alloc]; rfl) | rfl | omega)); (exact Whl.here' (w6.alloc (.cells #[.int .i64 s.id, .int .i64 t.id, .int .i64 D] 3)) 39 #[.slice (some ⟨w6.heap.size, 0, none⟩) 3 3] (by (first | (simp only [World.size_alloc]; done) | (simp only [World.size_alloc]; omega) | (simp only [World.size_alloc]; rfl) | rfl | omega))); intro A2 c2 w7 hO7 hg7; refine Exists.elim (show ∃ b : Nat, Hid (w7.ownsRow wq.heap.size 39 1 (.slice A2 (r + 1) c2) (r + 1) (cK ([] ++ ys.take r ++ [(⟨b, s.id, t.id, D⟩ : Tri)]))) ∧ Hid (Whl w7 b 3 #[.int .i64 s.id, .int .i64 t.id, .int .i64 D]) ∧ wq.heap.size ≤ b from ⟨w6.heap.size, hO7, (((Whl.here w6 3 #[.int .i64 s.id, .int .i64 t.id, .int .i64 D]).alloc (.cells #[.slice (some ⟨w6.heap.size, 0, none⟩) 3 3] 39))).keptR (World.ownsRow.alloc (World.ownsRow.alloc (unhide HO6) (.cells #[.int .i64 s.id, .int .i64 t.id, .int .i64 D] 3)) (.cells #[.slice (some ⟨w6.heap.size, 0, none⟩) 3 3] 39)) (by decide) hg7, hs6⟩) ?_; rintro b7 ⟨HO7, HR7, hb7⟩; have HB7 := hide (row_grow (World.ownsRow.alloc (World.ownsRow.alloc (unhide HO6) (.cells #[.int .i64 s.id, .int .i64 t.id, .int .i64 D] 3)) (.cells #[.slice (some ⟨w6.heap.size, 0, none⟩) 3 3] 39)) (((unhide HB6).alloc hs6 (.cells #[.int .i64 s.id, .int .i64 t.id, .int .i64 D] 3)).alloc (by (first | (simp only [World.size_alloc]; done) | (simp only [World.size_alloc]; omega) | (simp only [World.size_alloc]; rfl) | rfl | omega)) (.cells #[.slice (some ⟨w6.heap.size, 0, none⟩) 3 3] 39)) (by (first | (simp only [World.size_alloc]; done) | (simp only [World.size_alloc]; omega) | (simp only [World.size_alloc]; rfl) | rfl | omega)) hg7); have hs7 := (unhide HB7).size; clear hO7 hg7)
                    | (refine step_append_rows0 (by rfl) _ _ (by rfl) wq.heap.size A1 r c1 ([] ++ ys.take r) (by rfl) ?_ ?_ (some ⟨w6.heap.size, 0, none⟩) 1 1 _ [⟨wq.heap.size + 1, s.id, t.id, D⟩] (by rfl) (reads_row (T := 39) ?_ (Nat.lt_succ_self _)) (r + 1) (by rfl) (by omega) ?_; (exact (World.ownsRow.alloc (unhide HO6) (.cells #[.slice (some ⟨wq.heap.size + 1, 0, none⟩) 3 3] 39))); ((first | (simp only [World.size_alloc]; done) | (simp only [World.size_alloc]; omega) | (simp only [World.size_alloc]; rfl) | rfl | omega)); (exact Whl.here w6 39 #[.slice (some ⟨wq.heap.size + 1, 0, none⟩) 3 3]); intro A2 c2 w7 hO7 hg7; refine Exists.elim (show ∃ b : Nat, Hid (w7.ownsRow wq.heap.size 39 1 (.slice A2 (r + 1) c2) (r + 1) (cK ([] ++ ys.take r ++ [(⟨b, s.id, t.id, D⟩ : Tri)]))) ∧ Hid (Whl w7 b 3 #[.int .i64 s.id, .int .i64 t.id, .int .i64 D]) ∧ wq.heap.size ≤ b from ⟨wq.heap.size + 1, hO7, (((unhide HR6).alloc (.cells #[.slice (some ⟨wq.heap.size + 1, 0, none⟩) 3 3] 39))).keptR (World.ownsRow.alloc (unhide HO6) (.cells #[.slice (some ⟨wq.heap.size + 1, 0, none⟩) 3 3] 39)) (by decide) hg7, (by omega)⟩) ?_; rintro b7 ⟨HO7, HR7, hb7⟩; have HB7 := hide (row_grow (World.ownsRow.alloc (unhide HO6) (.cells #[.slice (some ⟨wq.heap.size + 1, 0, none⟩) 3 3] 39)) ((unhide HB6).alloc hs6 (.cells #[.slice (some ⟨wq.heap.size + 1, 0, none⟩) 3 3] 39)) (by (first | (simp only [World.size_alloc]; done) | (simp only [World.size_alloc]; omega) | (simp only [World.size_alloc]; rfl) | rfl | omega)) hg7); have hs7 := (unhide HB7).size; clear hO7 hg7)
                    | (refine step_append_rows0 (by rfl) _ _ (by rfl) wq.heap.size A1 r c1 ([] ++ ys.take r) (by rfl) ?_ ?_ (some ⟨w6.heap.size, 0, none⟩) 1 1 _ [⟨wq.heap.size, s.id, t.id, D⟩] (by rfl) (reads_row (T := 39) ?_ (Nat.lt_succ_self _)) (r + 1) (by rfl) (by omega) ?_; (exact (World.ownsRow.alloc (unhide HO6) (.cells #[.slice (some ⟨wq.heap.size, 0, none⟩) 3 3] 39))); ((first | (simp only [World.size_alloc]; done) | (simp only [World.size_alloc]; omega) | (simp only [World.size_alloc]; rfl) | rfl | omega)); (exact Whl.here w6 39 #[.slice (some ⟨wq.heap.size, 0, none⟩) 3 3]); intro A2 c2 w7 hO7 hg7; refine Exists.elim (show ∃ b : Nat, Hid (w7.ownsRow wq.heap.size 39 1 (.slice A2 (r + 1) c2) (r + 1) (cK ([] ++ ys.take r ++ [(⟨b, s.id, t.id, D⟩ : Tri)]))) ∧ Hid (Whl w7 b 3 #[.int .i64 s.id, .int .i64 t.id, .int .i64 D]) ∧ wq.heap.size ≤ b from ⟨wq.heap.size, hO7, (((unhide HR6).alloc (.cells #[.slice (some ⟨wq.heap.size, 0, none⟩) 3 3] 39))).keptR (World.ownsRow.alloc (unhide HO6) (.cells #[.slice (some ⟨wq.heap.size, 0, none⟩) 3 3] 39)) (by decide) hg7, (by omega)⟩) ?_; rintro b7 ⟨HO7, HR7, hb7⟩; have HB7 := hide (row_grow (World.ownsRow.alloc (unhide HO6) (.cells #[.slice (some ⟨wq.heap.size, 0, none⟩) 3 3] 39)) ((unhide HB6).alloc hs6 (.cells #[.slice (some ⟨wq.heap.size, 0, none⟩) 3 3] 39)) (by (first | (simp only [World.size_alloc]; done) | (simp only [World.size_alloc]; omega) | (simp only [World.size_alloc]; rfl) | rfl | omega)) hg7); have hs7 := (unhide HB7).size; clear hO7 hg7)
                    | (refine step_append_rows0 (by rfl) _ _ (by rfl) wq.heap.size A1 r c1 ([] ++ ys.take r) (by rfl) ?_ ?_ (some ⟨wq.heap.size + 1 + 1, 0, none⟩) 1 1 _ [⟨wq.heap.size + 1, s.id, t.id, D⟩] (by rfl) (reads_row (T := 39) ?_ (Nat.lt_succ_self _)) (r + 1) (by rfl) (by omega) ?_; (exact (unhide HO6)); (omega); (exact (unhide HL6)); intro A2 c2 w7 hO7 hg7; refine Exists.elim (show ∃ b : Nat, Hid (w7.ownsRow wq.heap.size 39 1 (.slice A2 (r + 1) c2) (r + 1) (cK ([] ++ ys.take r ++ [(⟨b, s.id, t.id, D⟩ : Tri)]))) ∧ Hid (Whl w7 b 3 #[.int .i64 s.id, .int .i64 t.id, .int .i64 D]) ∧ wq.heap.size ≤ b from ⟨wq.heap.size + 1, hO7, ((unhide HR6)).keptR (unhide HO6) (by decide) hg7, (by omega)⟩) ?_; rintro b7 ⟨HO7, HR7, hb7⟩; have HB7 := hide (row_grow (unhide HO6) (unhide HB6) (by omega) hg7); have hs7 := (unhide HB7).size; clear hO7 hg7)
                    | (refine step_append_rows0 (by rfl) _ _ (by rfl) wq.heap.size A1 r c1 ([] ++ ys.take r) (by rfl) ?_ ?_ (some ⟨wq.heap.size + 1 + 1, 0, none⟩) 1 1 _ [⟨wq.heap.size, s.id, t.id, D⟩] (by rfl) (reads_row (T := 39) ?_ (Nat.lt_succ_self _)) (r + 1) (by rfl) (by omega) ?_; (exact (unhide HO6)); (omega); (exact (unhide HL6)); intro A2 c2 w7 hO7 hg7; refine Exists.elim (show ∃ b : Nat, Hid (w7.ownsRow wq.heap.size 39 1 (.slice A2 (r + 1) c2) (r + 1) (cK ([] ++ ys.take r ++ [(⟨b, s.id, t.id, D⟩ : Tri)]))) ∧ Hid (Whl w7 b 3 #[.int .i64 s.id, .int .i64 t.id, .int .i64 D]) ∧ wq.heap.size ≤ b from ⟨wq.heap.size, hO7, ((unhide HR6)).keptR (unhide HO6) (by decide) hg7, (by omega)⟩) ?_; rintro b7 ⟨HO7, HR7, hb7⟩; have HB7 := hide (row_grow (unhide HO6) (unhide HB6) (by omega) hg7); have hs7 := (unhide HB7).size; clear hO7 hg7)
                    | (refine step_append_rows0 (by rfl) _ _ (by rfl) wq.heap.size A1 r c1 ([] ++ ys.take r) (by rfl) ?_ ?_ (some ⟨wq.heap.size + 1, 0, none⟩) 1 1 _ [⟨wq.heap.size, s.id, t.id, D⟩] (by rfl) (reads_row (T := 39) ?_ (Nat.lt_succ_self _)) (r + 1) (by rfl) (by omega) ?_; (exact (unhide HO6)); (omega); (exact (unhide HL6)); intro A2 c2 w7 hO7 hg7; refine Exists.elim (show ∃ b : Nat, Hid (w7.ownsRow wq.heap.size 39 1 (.slice A2 (r + 1) c2) (r + 1) (cK ([] ++ ys.take r ++ [(⟨b, s.id, t.id, D⟩ : Tri)]))) ∧ Hid (Whl w7 b 3 #[.int .i64 s.id, .int .i64 t.id, .int .i64 D]) ∧ wq.heap.size ≤ b from ⟨wq.heap.size, hO7, ((unhide HR6)).keptR (unhide HO6) (by decide) hg7, (by omega)⟩) ?_; rintro b7 ⟨HO7, HR7, hb7⟩; have HB7 := hide (row_grow (unhide HO6) (unhide HB6) (by omega) hg7); have hs7 := (unhide HB7).size; clear hO7 hg7)
                    | (refine step_append_rows0 (by rfl) _ _ (by rfl) wq.heap.size A2 (r + 1) c2 ([] ++ ys.take r ++ [⟨b7, s.id, t.id, D⟩]) (by rfl) (unhide HO7) ?_ _ _ _ wq.heap.size (ys.drop r) (by rfl) ?_ (m + 1) ?_ ?_ ?_; (omega); (exact Reads.below (unhide HDR) (unhide HB7)); (omega); (omega); intro A3 c3 w8 hO8 hg8; have HO8 := hide hO8; have HR8 := hide ((unhide HR7).keptR (unhide HO7) (by decide) hg8); have HB8 := hide (row_grow (unhide HO7) (unhide HB7) (by omega) hg8); clear hO8 hg8))
                all_goals
                  obtain ⟨HO9, HY9, HB9⟩ := unhide HFIN w8 A3 c3 b7 (unhide HO8) (unhide HR8) hb7 (unhide HB8)
                  obtain ⟨g9, rfl, _, _, _⟩ := HO9.form (by omega)
                  have HO10 := hide HO9
                  have HY10 := hide HY9
                  have HB10 := hide HB9
                  clear HO9 HY9 HB9 HO8 HR8 HB8 HFIN
                  go_wp2_with fail
                  go_roundw
                  case rel => exact ⟨J + 1, g9, m + 1, c3, _, by omega, by omega, by go_num, rfl, by omega, HO10, HY10, HB10⟩
                  case measure => simp [intOf] <;> omega
          · have l2 : ¬ (J : Int) < (n : Int) := by omega
            have HY2 : Hid (ys.map tri3 = isort k3 (prs xs (k + 1))) := by
              unfold Hid
              rw [prs, show xs.length - (k + 1) = J - (k + 1) by have := unhide HL; omega]
              exact unhide hY
            go_wp2_with fail
            go_roundw
            case rel => exact ⟨k + 1, g, m, c', ys, by omega, by go_num, rfl, by omega, hO, HY2, hB⟩
            case measure => simp [intOf] <;> omega
      · obtain rfl : k = n := by omega
        have l1 : ¬ (k : Int) < (k : Int) := by omega
        go_wp2_with fail
        go_ret2
        exact ⟨_, _, _, ys, by rw [unhide HRR]; rfl, unhide hO, by rw [unhide HRR]; show _ = isort k3 (prs xs xs.length); rw [unhide HL]; exact unhide hY, unhide hB⟩
end Go.Proofs.Ytihkocplgciifaa
