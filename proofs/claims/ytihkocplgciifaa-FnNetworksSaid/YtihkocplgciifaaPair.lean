/- Chapter 3, the walks: all pairs of stations by their distances: the program's. (By gen_pair.py.) -/
import Derived.Test.YtihkocplgciifaaProg
import Derived.Test.YtihkocplgciifaaTriB
import Derived.Test.YtihkocplgciifaaStabR
import Derived.Deep.RegionHeld3
import Derived.WalkSpells
namespace Go.Proofs.Ytihkocplgciifaa
open Go.RowKit

/-- rows of three and a bool come back -/
def RetKB (w : World) (vs : List (Int × Int × Int)) (b : Bool) (e : Ending) (w' : World) : Prop := ∃ (A : Option Addr) (n c : Nat) (rs : List Tri), e = .returned (.tuple #[.slice A n c, .bool b]) ∧ OwnK w' w.heap.size A n c rs ∧ rs.map tri3 = vs ∧ Below w.heap.size w w'
theorem six_cells {w : World} {ga gb : Nat} {T : TypeId} {s t : St} (h : Whl w ga T #[.int .i64 s.id, .string s.nm, .int .i64 s.x, .int .i64 s.y, .int .i64 s.gn, .int .i64 s.lw, .int .i64 s.hg, .int .i64 s.ut]) (h' : Whl w gb T #[.int .i64 t.id, .string t.nm, .int .i64 t.x, .int .i64 t.y, .int .i64 t.gn, .int .i64 t.lw, .int .i64 t.hg, .int .i64 t.ut]) : w.cell? ⟨ga, 0, none⟩ = some (.int .i64 s.id) ∧ w.cell? ⟨ga, 2, none⟩ = some (.int .i64 s.x) ∧ w.cell? ⟨ga, 3, none⟩ = some (.int .i64 s.y) ∧ w.cell? ⟨gb, 0, none⟩ = some (.int .i64 t.id) ∧ w.cell? ⟨gb, 2, none⟩ = some (.int .i64 t.x) ∧ w.cell? ⟨gb, 3, none⟩ = some (.int .i64 t.y) :=
  ⟨h.cell 0, h.cell 2, h.cell 3, h'.cell 0, h'.cell 2, h'.cell 3⟩
/-- a block of another kind stays when rows grow -/
theorem Whl.keptK {w w' : World} {b lo n c : Nat} {T : TypeId} {cs : Array Value} {A : Option Addr} {rs : List Tri} (h : Whl w b T cs) (hO : OwnK w lo A n c rs) (hne : T ≠ 39) (hg : w.grownBy w' (Value.slice A n c).ownBlock) : Whl w' b T cs := by
  refine (hg.block b h.lt (fun e => ?_)).trans h
  rcases hO.row.2 with ⟨hv, _⟩ | ⟨g', cap, cur, hv, _, hh, _⟩
  · rw [hv] at e; simp [Value.ownBlock] at e
  · rw [hv] at e
    have e1 : b = g' := by simpa [Value.ownBlock] using e
    subst e1
    unfold Whl at h
    rw [h] at hh
    injection hh with hh
    injection hh with _ ht
    exact hne ht
theorem OwnK.gr {w w' : World} {lo n c : Nat} {A : Option Addr} {rs : List Tri} (h : OwnK w lo A n c rs) {B : Nat} {w0 : World} (hb : Below B w0 w) (hB : B ≤ lo) (hs : B ≤ w.heap.size) (hg : w.grownBy w' (Value.slice A n c).ownBlock) : Below B w0 w' :=
  hb.grown hg hs fun k hk => by have := (h.lt hk).1; omega

set_option maxHeartbeats 8000000 in
set_option maxRecDepth 100000 in
theorem implPair_any (A : Option Addr) (n c : Nat) (xs : List St) (w : World) (hr : RS w w.heap.size A n xs) (hn : n ≤ 2097152) (hs : ∀ x ∈ xs, x.nm.size ≤ 9223372036854775807) (hcap : n ≤ c) (hcm : c ≤ 9223372036854775807) :
    Calls Try.prog 44 #[.slice A n c] w (RetKB w (pairR xs).1 (pairR xs).2) := by
  have HG := hide (implAre_any A n c xs w hr (by omega) hs)
  have HR := hide (fun (W : World) (hb : Below w.heap.size w W) => (hr.below hb).more hb.size)
  have HL := hide hr.len
  clear hr hs
  rcases h1 : stsB xs with _ | _
  · have HRR : Hid (pairR xs = ([], false)) := by unfold Hid pairR; rw [h1]; rfl
    rw [h1] at HG
    go_enter Try.func44, Try.ntmps44
    go_wp2_with fail
    refine (unhide HG).mono ?_
    rintro e w1 ⟨rfl, hb⟩
    have HB1 := hide hb
    clear hb HG
    go_wp2_with fail
    go_ret2
    exact ⟨none, 0, 0, [], by rw [unhide HRR]; rfl, OwnK.nil _ _, by rw [unhide HRR]; rfl, unhide HB1⟩
  · have HRR : Hid (pairR xs = (isort k3 (prs xs xs.length), true)) := by unfold Hid pairR; rw [h1]; rfl
    rw [h1] at HG
    have hn10 : n ≤ 10 := by have := sts_short h1; have := unhide HL; omega
    clear h1
    go_enter Try.func44, Try.ntmps44
    go_wp2_with fail
    refine (unhide HG).mono ?_
    rintro e w1 ⟨rfl, hb⟩
    have HE := hide (OwnK.empty (lo := w.heap.size) w1 hb.size)
    have HB1 := hide (hb.alloc hb.size (.cells #[] 39))
    clear hb HG
    go_wp2_with fail
    generalize w1.alloc (.cells #[] 39) = w2 at *
    generalize w1.heap.size = g0 at *
    go_loopw [4, 15] (fun v i wr => ∃ (k g m c' : Nat) (ys : List Tri), k ≤ n ∧ i = .int .i64 (k : Int) ∧ v = .slice (some ⟨g, 0, none⟩) m c' ∧ m ≤ 10 * k ∧ Hid (OwnK wr w.heap.size (some ⟨g, 0, none⟩) m c' ys) ∧ Hid (ys.map tri3 = prs xs k) ∧ Hid (Below w.heap.size w wr)) (fun _ i _ => n - (intOf i).toNat)
    case atStart => exact ⟨0, g0, 0, 0, [], Nat.zero_le _, rfl, rfl, by omega, HE, rfl, HB1⟩
    case round =>
      obtain ⟨k, g, m, c', ys, hk, rfl, rfl, hm, hO, hY, hB⟩ := hrel
      clear HE HB1
      by_cases hlt : k < n
      · have HRr := hide (unhide HR wr (unhide hB))
        obtain ⟨ad, s, rfl, hbx, hx, hrow⟩ := (unhide HRr).get hlt
        obtain ⟨c0, c1, c2, c3, c4, c5, c6, c7⟩ := hrow
        have l1 : (k : Int) < (n : Int) := by omega
        have l2 : (0 : Int) ≤ (k : Int) := by omega
        have l3 : (k : Int) + 1 ≤ (n : Int) := by omega
        have l4 : (0 : Int) ≤ (k : Int) + 1 := by omega
        have l5 : (n : Int) ≤ (c : Int) := by omega
        have l6 : (k : Int) + 1 ≤ (c : Int) := by omega
        have l7 : ((k : Int) + 1).toNat = k + 1 := by omega
        have s1 : IntKind.i64.wrap ((k : Int) + 1) = (k : Int) + 1 := IntWalk.i64_in _ (by omega)
        have HX := hide (show stAt xs k = s from stAt_of (unhide hx))
        have hbl := (unhide hB).size
        have HW2 := hide (Whl.here wr 26 #[.int .i64 s.id, .string s.nm, .int .i64 s.x, .int .i64 s.y, .int .i64 s.gn, .int .i64 s.lw, .int .i64 s.hg, .int .i64 s.ut])
        have HB2 := hide ((unhide hB).alloc hbl (.cells #[.int .i64 s.id, .string s.nm, .int .i64 s.x, .int .i64 s.y, .int .i64 s.gn, .int .i64 s.lw, .int .i64 s.hg, .int .i64 s.ut] 26))
        have HO2 := hide ((unhide hO).alloc (.cells #[.int .i64 s.id, .string s.nm, .int .i64 s.x, .int .i64 s.y, .int .i64 s.gn, .int .i64 s.lw, .int .i64 s.hg, .int .i64 s.ut] 26))
        clear hx
        by_cases hck : c = k + 1
        · have hnk : n = k + 1 := by omega
          have HY2 : Hid (ys.map tri3 = prs xs (k + 1)) := by
            unfold Hid
            rw [prs, show xs.length - (k + 1) = 0 by have := unhide HL; omega, rowP, List.append_nil]
            exact unhide hY
          have l8 : c - (k + 1) = 0 := by omega
          have l9 : n - (k + 1) = 0 := by omega
          have HNK := hide hnk
          clear hnk hY HW2 hO hB HRr
          go_wp2_with fail
          go_loopw [4, 25] (fun v j wj => v = .slice (some ⟨g, 0, none⟩) m c' ∧ j = .int .i64 0 ∧ Hid (OwnK wj w.heap.size (some ⟨g, 0, none⟩) m c' ys) ∧ Hid (Below w.heap.size w wj)) (fun _ _ _ => 0)
          case atStart => exact ⟨rfl, rfl, HO2, HB2⟩
          case round =>
            obtain ⟨rfl, rfl, hO, hB⟩ := hrel
            clear HO2 HB2 c0 c1 c2 c3 c4 c5 c6 c7
            go_wp2_with fail
            go_roundw
            case rel => exact ⟨k + 1, g, m, c', ys, by omega, by go_num, rfl, by omega, hO, HY2, hB⟩
            case measure => simp [intOf] <;> omega
        · have HD := hide (fun (W : World) (hb : Below w.heap.size w W) => (show RS W W.heap.size (some (ad.add ((k + 1) * 8))) (n - (k + 1)) (xs.drop (k + 1)) by
            have h9 := (unhide HR W hb).cut (k := k + 1) (cap := c) (by omega) hcap
            rw [if_neg hck] at h9
            exact h9))
          have hck2 : ¬ c = k + 1 := hck
          clear hO hB HRr
          go_wp2_with fail
          clear c0 c1 c2 c3 c4 c5 c6 c7
          generalize wr.heap.size = ga at *
          generalize wr.alloc (.cells #[.int .i64 s.id, .string s.nm, .int .i64 s.x, .int .i64 s.y, .int .i64 s.gn, .int .i64 s.lw, .int .i64 s.hg, .int .i64 s.ut] 26) = w4 at *
          go_loopw [4, 25] (fun v j wj => ∃ (q g m c' : Nat) (ys : List Tri), q ≤ n - (k + 1) ∧ j = .int .i64 (q : Int) ∧ v = .slice (some ⟨g, 0, none⟩) m c' ∧ m ≤ 10 * k + q ∧ Hid (OwnK wj w.heap.size (some ⟨g, 0, none⟩) m c' ys) ∧ Hid (ys.map tri3 = prs xs k ++ rowP xs k q) ∧ Hid (Below w.heap.size w wj) ∧ Hid (Whl wj ga 26 #[.int .i64 s.id, .string s.nm, .int .i64 s.x, .int .i64 s.y, .int .i64 s.gn, .int .i64 s.lw, .int .i64 s.hg, .int .i64 s.ut])) (fun _ j _ => n - (intOf j).toNat)
          case atStart => exact ⟨0, g, m, c', ys, Nat.zero_le _, rfl, rfl, by omega, HO2, (by unfold Hid; rw [rowP, List.append_nil]; exact unhide hY), HB2, HW2⟩
          case round =>
            clear HO2 HB2 hY HW2
            obtain ⟨q, g, m, c', ys, hq, rfl, rfl, hm2, hO, hY, hB, hW⟩ := hrel
            by_cases hlq : q < n - (k + 1)
            · obtain ⟨wo, rfl⟩ : ∃ wo : World, wo = wr := ⟨_, rfl⟩
              obtain ⟨ae, t, hae, hbt, ht, hrowt⟩ := (unhide HD wo (unhide hB)).get hlq
              obtain rfl : ad.add ((k + 1) * 8) = ae := by injection hae
              obtain ⟨c0, c1, c2, c3, c4, c5, c6, c7⟩ := hrowt
              have HT : Hid (stAt xs (k + 1 + q) = t) := stAt_of (by have h9 := unhide ht; rw [List.getElem?_drop] at h9; exact h9)
              have l8 : (q : Int) < ((n - (k + 1) : Nat) : Int) := by omega
              have l9 : (0 : Int) ≤ (q : Int) := by omega
              have hbl2 := (unhide hB).size
              have HK2 := hide ((unhide hW).alloc (.cells #[.int .i64 t.id, .string t.nm, .int .i64 t.x, .int .i64 t.y, .int .i64 t.gn, .int .i64 t.lw, .int .i64 t.hg, .int .i64 t.ut] 26))
              have HJ2 := hide (Whl.here wo 26 #[.int .i64 t.id, .string t.nm, .int .i64 t.x, .int .i64 t.y, .int .i64 t.gn, .int .i64 t.lw, .int .i64 t.hg, .int .i64 t.ut])
              have HB5 := hide ((unhide hB).alloc hbl2 (.cells #[.int .i64 t.id, .string t.nm, .int .i64 t.x, .int .i64 t.y, .int .i64 t.gn, .int .i64 t.lw, .int .i64 t.hg, .int .i64 t.ut] 26))
              have HO5 := hide ((unhide hO).alloc (.cells #[.int .i64 t.id, .string t.nm, .int .i64 t.x, .int .i64 t.y, .int .i64 t.gn, .int .i64 t.lw, .int .i64 t.hg, .int .i64 t.ut] 26))
              clear hae ht hO hB hW
              go_wp2_with fail
              clear c0 c1 c2 c3 c4 c5 c6 c7
              generalize wo.heap.size = gb at *
              generalize wo.alloc (.cells #[.int .i64 t.id, .string t.nm, .int .i64 t.x, .int .i64 t.y, .int .i64 t.gn, .int .i64 t.lw, .int .i64 t.hg, .int .i64 t.ut] 26) = w5 at *
              have a0 : w5.cell? ⟨ga, 0, none⟩ = some (.int .i64 s.id) := (unhide HK2).cell 0
              have a2 : w5.cell? ⟨ga, 2, none⟩ = some (.int .i64 s.x) := (unhide HK2).cell 2
              have a3 : w5.cell? ⟨ga, 3, none⟩ = some (.int .i64 s.y) := (unhide HK2).cell 3
              have b0 : w5.cell? ⟨gb, 0, none⟩ = some (.int .i64 t.id) := (unhide HJ2).cell 0
              have b2 : w5.cell? ⟨gb, 2, none⟩ = some (.int .i64 t.x) := (unhide HJ2).cell 2
              have b3 : w5.cell? ⟨gb, 3, none⟩ = some (.int .i64 t.y) := (unhide HJ2).cell 3
              obtain ⟨D, hD⟩ : ∃ D, sqI (IntKind.i64.wrap (s.x - t.x)) (IntKind.i64.wrap (s.y - t.y)) = D := ⟨_, rfl⟩
              have HQ := hide (fun (W : World) => square_any (IntKind.i64.wrap (s.x - t.x)) (IntKind.i64.wrap (s.y - t.y)) W)
              rw [hD] at HQ
              obtain ⟨r, hrb, hr3⟩ : ∃ r : Tri, r.b = w5.heap.size ∧ (r.i = s.id ∧ r.j = t.id ∧ r.d = D) := ⟨⟨_, _, _, _⟩, rfl, rfl, rfl, rfl⟩
              obtain ⟨hri, hrj, hrd⟩ := hr3
              have HTRI : Hid (tri3 r = trP xs k (k + 1 + q)) := by
                unfold Hid trP tri3 sqK
                rw [unhide HX, unhide HT, hri, hrj, hrd, hD]
              have HFR : Hid (∀ z ∈ ys, z.b ≠ r.b) := fun z hz => by have := ((unhide HO5).mem z hz).2.lt; omega
              have WRD : Hid (∀ (R : World), R = ((w5.drew.alloc (.cells #[.int .i64 s.id, .int .i64 t.id, .int .i64 D] 3)).alloc (.cells #[.slice (some ⟨w5.heap.size, 0, none⟩) 3 3] 39)) → OwnK R w.heap.size (some ⟨g, 0, none⟩) m c' ys ∧ w.heap.size ≤ R.heap.size ∧ Reads R R.heap.size 1 (some ⟨w5.heap.size + 1, 0, none⟩) 1 (cK [r]) ∧ (∀ z ∈ [r], w.heap.size ≤ z.b ∧ Whl R z.b 3 (kK z)) ∧ Dst (ys ++ [r]) ∧ Below w.heap.size w R ∧ Whl R ga 26 #[.int .i64 s.id, .string s.nm, .int .i64 s.x, .int .i64 s.y, .int .i64 s.gn, .int .i64 s.lw, .int .i64 s.hg, .int .i64 s.ut] ∧ Whl R gb 26 #[.int .i64 t.id, .string t.nm, .int .i64 t.x, .int .i64 t.y, .int .i64 t.gn, .int .i64 t.lw, .int .i64 t.hg, .int .i64 t.ut]) := fun R hR => by
                have hs5 := (unhide HB5).size
                have hW : Whl R r.b 3 (kK r) := by
                  have h9 := (Whl.here w5.drew 3 #[.int .i64 s.id, .int .i64 t.id, .int .i64 D]).alloc (.cells #[.slice (some ⟨w5.heap.size, 0, none⟩) 3 3] 39)
                  rw [← hR] at h9
                  unfold kK
                  rw [hri, hrj, hrd, hrb]
                  exact h9
                have hL9 : Whl R (w5.heap.size + 1) 39 #[.slice (some ⟨r.b, 0, none⟩) 3 3] := by
                  rw [hR, hrb]
                  exact Whl.here' _ _ _ (by rw [World.size_alloc]; rfl)
                refine ⟨?_, ?_, reads_row hL9 hL9.lt, fun z hz => ?_, (unhide HO5).dst.snoc (unhide HFR), ?_, ?_, ?_⟩
                · rw [hR]; exact (((unhide HO5).dr).alloc _).alloc _
                · rw [hR, World.size_alloc, World.size_alloc]; show _ ≤ w5.heap.size + 1 + 1; omega
                · obtain rfl := List.mem_singleton.1 hz
                  exact ⟨by omega, hW⟩
                · rw [hR]; exact (((unhide HB5).drew).alloc hs5 _).alloc (by rw [World.size_alloc]; show _ ≤ w5.heap.size + 1; omega) _
                · rw [hR]; exact (((unhide HK2).drew).alloc _).alloc _
                · rw [hR]; exact (((unhide HJ2).drew).alloc _).alloc _
              clear hD hri hrj hrd hrb HX
              go_region_held3 (fun w' => w'.cell? ⟨ga, 0, none⟩ = some (.int .i64 s.id) ∧ w'.cell? ⟨ga, 2, none⟩ = some (.int .i64 s.x) ∧ w'.cell? ⟨ga, 3, none⟩ = some (.int .i64 s.y) ∧ w'.cell? ⟨gb, 0, none⟩ = some (.int .i64 t.id) ∧ w'.cell? ⟨gb, 2, none⟩ = some (.int .i64 t.x) ∧ w'.cell? ⟨gb, 3, none⟩ = some (.int .i64 t.y))
                (((with_reducible refine six_cells (T := 26) ?_ ?_); (all_goals (repeat (first | with_reducible exact unhide HK3 | with_reducible exact unhide HK2 | with_reducible exact unhide HJ3 | with_reducible exact unhide HJ2 | with_reducible refine Whl.alloc ?_ _ | with_reducible refine Whl.drew ?_)))))
                (first
                  | (go_at_call 85; refine (unhide HQ _).mono ?_; rintro e wq ⟨rfl, rfl⟩)
                  | (refine step_append_rows (by rfl) _ _ (by rfl) w.heap.size (some ⟨g, 0, none⟩) m c' ys (by rfl) (unhide WRD _ rfl).1 (unhide WRD _ rfl).2.1 (some ⟨w5.heap.size + 1, 0, none⟩) 1 1 _ [r] (by rfl) (unhide WRD _ rfl).2.2.1 (unhide WRD _ rfl).2.2.2.1 (unhide WRD _ rfl).2.2.2.2.1 (m + 1) (by rfl) (by omega) ?_; intro A9 c9 w9 hO9 hg9; have HB9 := hide ((unhide WRD _ rfl).1.gr (unhide WRD _ rfl).2.2.2.2.2.1 (Nat.le_refl _) (unhide WRD _ rfl).2.1 hg9); have HO9 := hide hO9; have HK3 : Hid (Whl w9 ga 26 #[.int .i64 s.id, .string s.nm, .int .i64 s.x, .int .i64 s.y, .int .i64 s.gn, .int .i64 s.lw, .int .i64 s.hg, .int .i64 s.ut]) := hide ((unhide WRD _ rfl).2.2.2.2.2.2.1.keptK (unhide WRD _ rfl).1 (by decide) hg9); have HJ3 : Hid (Whl w9 gb 26 #[.int .i64 t.id, .string t.nm, .int .i64 t.x, .int .i64 t.y, .int .i64 t.gn, .int .i64 t.lw, .int .i64 t.hg, .int .i64 t.ut]) := hide ((unhide WRD _ rfl).2.2.2.2.2.2.2.keptK (unhide WRD _ rfl).1 (by decide) hg9); clear hO9 hg9))
              all_goals
                obtain ⟨g9, rfl, _, _, _⟩ := (unhide HO9).form (by omega)
                have HY9 : Hid ((ys ++ [r]).map tri3 = prs xs k ++ rowP xs k (q + 1)) := by
                  unfold Hid
                  rw [List.map_append, unhide hY, rowP, List.map_cons, List.map_nil, unhide HTRI, List.append_assoc]
                clear WRD HFR HJ3 a0 a2 a3 b0 b2 b3
                go_wp2_with fail
                go_roundw
                case rel => exact ⟨q + 1, g9, m + 1, c9, ys ++ [r], by omega, by go_num, rfl, by omega, HO9, HY9, HB9, HK3⟩
                case measure => simp [intOf] <;> omega
            · have HY2 : Hid (ys.map tri3 = prs xs (k + 1)) := by
                unfold Hid
                rw [prs, show xs.length - (k + 1) = q by have := unhide HL; omega]
                exact unhide hY
              have l8 : ¬ (q : Int) < ((n - (k + 1) : Nat) : Int) := by omega
              go_wp2_with fail
              go_roundw
              case rel => exact ⟨k + 1, g, m, c', ys, by omega, by go_num, rfl, by omega, hO, HY2, hB⟩
              case measure => simp [intOf] <;> omega
      · obtain rfl : k = n := by omega
        have l1 : ¬ (k : Int) < (k : Int) := by omega
        have HC := hide (SortStableR w.heap.size g m c' ys wr (unhide hO) (by omega))
        go_wp2_with fail
        refine (unhide HC).mono ?_
        rintro e w9 ⟨zs, rfl, hO9, hg9, hs9, ht9⟩
        have HB9 := hide ((unhide hO).gr (unhide hB) (Nat.le_refl _) (unhide hB).size hg9)
        have HO9 := hide hO9
        have HZ : Hid (zs.map tri3 = isort k3 (prs xs xs.length)) := by
          unfold Hid
          rw [isort_of (unhide hO).len hs9 ht9, isort_map, unhide hY, unhide HL]
        clear hO9 hg9 hs9 ht9 HC
        go_wp2_with fail
        go_ret2
        exact ⟨_, _, _, zs, by rw [unhide HRR]; rfl, unhide HO9, by rw [unhide HRR]; exact unhide HZ, unhide HB9⟩
end Go.Proofs.Ytihkocplgciifaa
