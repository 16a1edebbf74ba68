/- Chapter 4, the walks: the bytes that the reference draws: some fresh numbers. (By gen_bytes.py.) -/
import Derived.Test.YtnigieebmjjjjaaProg
import Derived.Test.YtnigieebmjjjjaaDrawQ
import Derived.Deep.DeepCutAuto
namespace Go.Proofs.Ytnigieebmjjjjaa
open Go.RowKit

theorem byte_small {bs : List Int} (h : bytB bs = true) : ∀ y ∈ bs, -400000 ≤ y ∧ y ≤ 400000 := fun y hy => by have := bytB_all h y hy; omega

set_option maxHeartbeats 4000000 in
set_option maxRecDepth 100000 in
theorem bytes_any (g n c b : Nat) (A : Option Addr) (xs : List Int) (w : World) (h : Cur w g A n c xs b) (hn : n ≤ 1048576) (hb : b ≤ 800000) :
    Calls Try.prog 65 #[.pointer (some ⟨g, 0, none⟩)] w (RetCI w g A n c xs (b + 1000) 150) := by
  have HC := hide h
  have hgl := h.lt
  clear h
  go_enter Try.func65, Try.ntmps65
  go_wp2_with fail
  refine (samples_any g n c b A xs w (unhide HC) hn (by omega)).mono ?_
  rintro e w1 ⟨As, ns, cs, ys, rfl, hO, hns, hy, hC, hg⟩
  have HC1 := hide hC
  have HG1 := hide hg
  have HO1 := hide hO
  have HS := hide (l2Samples_any As ns cs w1.heap.size ys w1 hO.ri (by omega))
  clear hO hC hg HC
  go_wp2_with fail
  refine (unhide HS).mono ?_
  rintro e wq ⟨rfl, rfl⟩
  go_upto_if 9 with (fail)
  go_cut [3] (fun s3 wx => ∃ (A' : Option Addr) (n' c' : Nat) (zs : List Int), s3 = .slice A' n' c' ∧ n' ≤ 26 ∧ Hid (smpB zs = true) ∧ Hid (OwnI wx w.heap.size A' n' c' zs) ∧ Hid (Cur wx g A n c xs (b + 200)) ∧ Hid (w.grownBy wx (some g)))
  case first =>
    rcases hsm : smpB ys with _ | _
    · go_wp2_with fail
      go_meet
      exact ⟨_, _, _, [5, 4000, -90000], rfl, by omega, (by unfold Hid; decide), OwnI.lit _ _ [5, 4000, -90000] 3 (unhide HG1).size rfl (by omega) _ rfl, (unhide HC1).alloc _, grown_alloc (unhide HG1) _⟩
    · go_wp2_with fail
      go_meet
      exact ⟨As, ns, cs, ys, rfl, hns, hsm, HO1, HC1, HG1⟩
  case rest =>
    clear HS HC1 HG1 HO1 hy hns
    obtain ⟨A', n', c', zs, rfl, hn26, hsm, hO, hC, hG⟩ := hcut
    generalize wc = w2 at *
    have HP := hide (l4Pack_any A' n' c' zs w2 (unhide hO).ri (smpB_all (unhide hsm)) (by omega))
    have HBY := hide (byte_small (pack_bytes (unhide hsm)))
    have HPL := hide (show (packI zs).length ≤ 72 by have h1 := packK_len zs zs.length; rw [packK_end zs _ (Nat.le_refl _)] at h1; have := smpB_len (unhide hsm); omega)
    clear hO hsm
    go_wp2_with fail
    refine (unhide HP).mono ?_
    rintro e w3 ⟨A3, n3, c3, rfl, hO, hb3⟩
    have hn3 : n3 ≤ 72 := by have := hO.len; have := unhide HPL; omega
    have HO3 := hide (OwnI.less hO (unhide hG).size)
    have HC3 := hide ((unhide hC).kept hb3)
    have HG3 := hide (grown_below (unhide hG) hb3)
    clear hO hb3 hC hG HP HPL
    generalize packI zs = bs at *
    go_wp2_with fail
    refine (pick_any g n c _ A xs 8 w3 (unhide HC3) hn (by omega) (by omega) (by omega)).mono ?_
    rintro e w4 ⟨z, rfl, ⟨z0, z1⟩, hC, hg⟩
    have HC4 := hide hC
    have HG4 := hide (grownBy_trans (unhide HG3) hg)
    have HO4 := hide ((unhide HO3).gr hg hgl)
    clear hC hg HC3 HG3 HO3
    have hcs : z = 0 ∨ z = 1 ∨ z = 2 ∨ (z == 0) = false ∧ (z == 1) = false ∧ (z == 2) = false := by
      simp only [beq_eq_false_iff_ne, ne_eq]
      omega
    have hre : Hid (∀ y ∈ bs, -400000 ≤ y ∧ y ≤ 400000) := HBY
    rcases hcs with rfl | rfl | rfl | ⟨m0, m1, m2⟩
    · by_cases h0 : 0 < n3
      · obtain ⟨gb, rfl, hgb, hgb2, hmc⟩ := (unhide HO4).form h0
        have l0 : (0 : Int) < (n3 : Int) := by omega
        go_wp2_with fail
        refine (pick_any g n c _ A xs n3 w4 (unhide HC4) hn (by omega) (by omega) (by omega)).mono ?_
        rintro e w5 ⟨x, rfl, ⟨x0, x1⟩, hC, hg⟩
        obtain ⟨j, rfl⟩ : ∃ k : Nat, x = (k : Int) := ⟨x.toNat, by omega⟩
        have hj : j ≤ n3 := by omega
        have HO5 := hide (ownI_cut ((unhide HO4).gr hg hgl) hj)
        have l1 : (j : Int) ≤ (c3 : Int) := by omega
        have l2 : (0 : Int) ≤ (j : Int) := by omega
        have l3 : j ≤ c3 := by omega
        have hG5 := grownBy_trans (unhide HG4) hg
        have hC5 := hC
        clear hC hg
        go_wp2_with fail
        have hY : Hid (∀ y ∈ (bs.take j), -400000 ≤ y ∧ y ≤ 400000) := fun y hy => unhide HBY y (List.mem_of_mem_take hy)
        have hO := hide (unhide HO5)
        have hC := hide (hC5.more (b' := b + 300) (by omega))
        have hG := hide (hG5)
        have hn5 : j ≤ 73 := by omega
        refine (one_any g n c _ A xs 40 _ (unhide hC) hn (by omega) (by omega) (by omega)).mono ?_
        rintro e wt ⟨t, rfl, hCt, hg⟩
        have HCt := hide hCt
        have HGt := hide (grownBy_trans (unhide hG) hg)
        have HOt := hide ((unhide hO).gr hg hgl)
        clear hCt hg hC hG hO
        rcases t with _ | _
        · go_wp2_with fail
          go_ret
          exact ⟨_, j, _, (bs.take j), rfl, unhide HOt, by omega, unhide hY, (unhide HCt).more (by omega), unhide HGt⟩
        · go_wp2_with fail
          go_loopw [4] (fun v wr => ∃ (m : Nat) (A' : Option Addr) (c' q : Nat) (ys : List Int), v = .slice A' m c' ∧ m ≤ 101 ∧ q ≤ b + 310 + 2 * m ∧ Hid (∀ y ∈ ys, -400000 ≤ y ∧ y ≤ 400000) ∧ Hid (OwnI wr w.heap.size A' m c' ys) ∧ Hid (Cur wr g A n c xs q) ∧ Hid (w.grownBy wr (some g))) (fun v _ => 102 - lenS v)
          case atStart => exact ⟨j, _, _, _, (bs.take j), rfl, by omega, by omega, hY, HOt, HCt, HGt⟩
          case round =>
            clear HOt HCt HGt hY
            obtain ⟨m, A', c', q, ys, rfl, hm, hq, hY, hO, hC, hG⟩ := hrel
            go_wp2_with fail
            refine (pick_any g n c q A xs 2 _ (unhide hC) hn (by omega) (by omega) (by omega)).mono ?_
            rintro e wv ⟨x, rfl, ⟨x0, x1⟩, hCv, hg⟩
            have HCv := hide hCv
            have HGv := hide (grownBy_trans (unhide hG) hg)
            have HOv := hide ((unhide hO).gr hg hgl)
            clear hCv hg hC hG hO
            by_cases hmz : (m : Int) < 100 + x
            · have hls : w.heap.size ≤ wv.heap.size := (unhide HGv).size
              have hrow : Hid (∀ r, (Value.slice A' m c').ownBlock = some r → w.heap.size ≤ r) := fun r e => ((unhide HOv).lt e).1
              go_wp2_with (at_builtin; refine append_int2 _ rfl _ _ rfl w.heap.size A' m c' ys rfl ((unhide HOv).alloc _) ?_ _ 0 rfl (cellNew _ _ _) ?_ ?_; (simp; omega); omega; intro A9 c9 w9 hO9 hg9)
              go_roundw
              case rel =>
                refine ⟨m + 1, A9, c9, q + 2, _, rfl, by omega, by omega, fun y hy => ?_, hO9, ((unhide HCv).alloc _).grown hg9 fun r e => Nat.lt_of_lt_of_le hgl (unhide hrow r e), grown_into (grown_alloc (unhide HGv) _) hg9 (unhide hrow)⟩
                rcases List.mem_append.1 hy with h | h
                · exact unhide hY y h
                · obtain rfl : y = 0 := by simpa using h
                  omega
              case measure => simp [lenS] <;> omega
            · go_wp2_with fail
              go_ret
              exact ⟨A', m, c', ys, rfl, unhide HOv, by omega, unhide hY, (unhide HCv).more (by omega), unhide HGv⟩
      · have l0 : ¬ (0 : Int) < (n3 : Int) := by omega
        go_wp2_with fail
        have hY : Hid (∀ y ∈ bs, -400000 ≤ y ∧ y ≤ 400000) := HBY
        have hO := hide (unhide HO4)
        have hC := hide ((unhide HC4).more (b' := b + 300) (by omega))
        have hG := hide (unhide HG4)
        have hn5 : n3 ≤ 73 := by omega
        refine (one_any g n c _ A xs 40 _ (unhide hC) hn (by omega) (by omega) (by omega)).mono ?_
        rintro e wt ⟨t, rfl, hCt, hg⟩
        have HCt := hide hCt
        have HGt := hide (grownBy_trans (unhide hG) hg)
        have HOt := hide ((unhide hO).gr hg hgl)
        clear hCt hg hC hG hO
        rcases t with _ | _
        · go_wp2_with fail
          go_ret
          exact ⟨A3, n3, c3, bs, rfl, unhide HOt, by omega, unhide hY, (unhide HCt).more (by omega), unhide HGt⟩
        · go_wp2_with fail
          go_loopw [4] (fun v wr => ∃ (m : Nat) (A' : Option Addr) (c' q : Nat) (ys : List Int), v = .slice A' m c' ∧ m ≤ 101 ∧ q ≤ b + 310 + 2 * m ∧ Hid (∀ y ∈ ys, -400000 ≤ y ∧ y ≤ 400000) ∧ Hid (OwnI wr w.heap.size A' m c' ys) ∧ Hid (Cur wr g A n c xs q) ∧ Hid (w.grownBy wr (some g))) (fun v _ => 102 - lenS v)
          case atStart => exact ⟨n3, A3, c3, _, bs, rfl, by omega, by omega, hY, HOt, HCt, HGt⟩
          case round =>
            clear HOt HCt HGt hY
            obtain ⟨m, A', c', q, ys, rfl, hm, hq, hY, hO, hC, hG⟩ := hrel
            go_wp2_with fail
            refine (pick_any g n c q A xs 2 _ (unhide hC) hn (by omega) (by omega) (by omega)).mono ?_
            rintro e wv ⟨x, rfl, ⟨x0, x1⟩, hCv, hg⟩
            have HCv := hide hCv
            have HGv := hide (grownBy_trans (unhide hG) hg)
            have HOv := hide ((unhide hO).gr hg hgl)
            clear hCv hg hC hG hO
            by_cases hmz : (m : Int) < 100 + x
            · have hls : w.heap.size ≤ wv.heap.size := (unhide HGv).size
              have hrow : Hid (∀ r, (Value.slice A' m c').ownBlock = some r → w.heap.size ≤ r) := fun r e => ((unhide HOv).lt e).1
              go_wp2_with (at_builtin; refine append_int2 _ rfl _ _ rfl w.heap.size A' m c' ys rfl ((unhide HOv).alloc _) ?_ _ 0 rfl (cellNew _ _ _) ?_ ?_; (simp; omega); omega; intro A9 c9 w9 hO9 hg9)
              go_roundw
              case rel =>
                refine ⟨m + 1, A9, c9, q + 2, _, rfl, by omega, by omega, fun y hy => ?_, hO9, ((unhide HCv).alloc _).grown hg9 fun r e => Nat.lt_of_lt_of_le hgl (unhide hrow r e), grown_into (grown_alloc (unhide HGv) _) hg9 (unhide hrow)⟩
                rcases List.mem_append.1 hy with h | h
                · exact unhide hY y h
                · obtain rfl : y = 0 := by simpa using h
                  omega
              case measure => simp [lenS] <;> omega
            · go_wp2_with fail
              go_ret
              exact ⟨A', m, c', ys, rfl, unhide HOv, by omega, unhide hY, (unhide HCv).more (by omega), unhide HGv⟩
    · go_wp2_with fail
      refine (among_lit g n c _ _ A xs w4 rfl [0, 191, 192, 223, 224, 229, 255, 256, -1] 9 _ (fun x => -400000 ≤ x ∧ x ≤ 400000) rfl rfl (by omega) (by omega) (by simp) (unhide HC4) hn (by omega)).mono ?_
      rintro e w5 ⟨x, rfl, hx, hC, hg⟩
      have HO5 := hide ((unhide HO4).gr hg hgl)
      have HC5 := hide hC
      have HG5 := hide (grownBy_trans (unhide HG4) hg)
      have hrow : Hid (∀ r, (Value.slice A3 n3 c3).ownBlock = some r → w.heap.size ≤ r) := fun r e => ((unhide HO5).lt e).1
      have hls : w.heap.size ≤ w5.heap.size := (unhide HG5).size
      clear hC hg
      go_wp2_with (at_builtin; refine append_int2 _ rfl _ _ rfl w.heap.size A3 n3 c3 bs rfl ((unhide HO5).alloc _) ?_ _ x rfl (cellNew _ _ _) ?_ ?_; (simp; omega); omega; intro A9 c9 w9 hO9 hg9)
      have hY9 : Hid (∀ y ∈ bs ++ [x], -400000 ≤ y ∧ y ≤ 400000) := fun y hy => by
        rcases List.mem_append.1 hy with h | h
        · exact unhide HBY y h
        · obtain rfl : y = x := by simpa using h
          exact hx
      have hC9 := ((unhide HC5).alloc (.cells #[.int .i64 x] 3)).grown hg9 fun r e => Nat.lt_of_lt_of_le hgl (unhide hrow r e)
      have hG9 := grown_into (grown_alloc (unhide HG5) (.cells #[.int .i64 x] 3)) hg9 (unhide hrow)
      clear hg9
      have hY : Hid (∀ y ∈ (bs ++ [x]), -400000 ≤ y ∧ y ≤ 400000) := hY9
      have hO := hide (hO9)
      have hC := hide (hC9.more (b' := b + 300) (by omega))
      have hG := hide (hG9)
      have hn5 : (n3 + 1) ≤ 73 := by omega
      refine (one_any g n c _ A xs 40 _ (unhide hC) hn (by omega) (by omega) (by omega)).mono ?_
      rintro e wt ⟨t, rfl, hCt, hg⟩
      have HCt := hide hCt
      have HGt := hide (grownBy_trans (unhide hG) hg)
      have HOt := hide ((unhide hO).gr hg hgl)
      clear hCt hg hC hG hO
      rcases t with _ | _
      · go_wp2_with fail
        go_ret
        exact ⟨A9, (n3 + 1), c9, (bs ++ [x]), rfl, unhide HOt, by omega, unhide hY, (unhide HCt).more (by omega), unhide HGt⟩
      · go_wp2_with fail
        go_loopw [4] (fun v wr => ∃ (m : Nat) (A' : Option Addr) (c' q : Nat) (ys : List Int), v = .slice A' m c' ∧ m ≤ 101 ∧ q ≤ b + 310 + 2 * m ∧ Hid (∀ y ∈ ys, -400000 ≤ y ∧ y ≤ 400000) ∧ Hid (OwnI wr w.heap.size A' m c' ys) ∧ Hid (Cur wr g A n c xs q) ∧ Hid (w.grownBy wr (some g))) (fun v _ => 102 - lenS v)
        case atStart => exact ⟨(n3 + 1), A9, c9, _, (bs ++ [x]), rfl, by omega, by omega, hY, HOt, HCt, HGt⟩
        case round =>
          clear HOt HCt HGt hY
          obtain ⟨m, A', c', q, ys, rfl, hm, hq, hY, hO, hC, hG⟩ := hrel
          go_wp2_with fail
          refine (pick_any g n c q A xs 2 _ (unhide hC) hn (by omega) (by omega) (by omega)).mono ?_
          rintro e wv ⟨x, rfl, ⟨x0, x1⟩, hCv, hg⟩
          have HCv := hide hCv
          have HGv := hide (grownBy_trans (unhide hG) hg)
          have HOv := hide ((unhide hO).gr hg hgl)
          clear hCv hg hC hG hO
          by_cases hmz : (m : Int) < 100 + x
          · have hls : w.heap.size ≤ wv.heap.size := (unhide HGv).size
            have hrow : Hid (∀ r, (Value.slice A' m c').ownBlock = some r → w.heap.size ≤ r) := fun r e => ((unhide HOv).lt e).1
            go_wp2_with (at_builtin; refine append_int2 _ rfl _ _ rfl w.heap.size A' m c' ys rfl ((unhide HOv).alloc _) ?_ _ 0 rfl (cellNew _ _ _) ?_ ?_; (simp; omega); omega; intro A9 c9 w9 hO9 hg9)
            go_roundw
            case rel =>
              refine ⟨m + 1, A9, c9, q + 2, _, rfl, by omega, by omega, fun y hy => ?_, hO9, ((unhide HCv).alloc _).grown hg9 fun r e => Nat.lt_of_lt_of_le hgl (unhide hrow r e), grown_into (grown_alloc (unhide HGv) _) hg9 (unhide hrow)⟩
              rcases List.mem_append.1 hy with h | h
              · exact unhide hY y h
              · obtain rfl : y = 0 := by simpa using h
                omega
            case measure => simp [lenS] <;> omega
          · go_wp2_with fail
            go_ret
            exact ⟨A', m, c', ys, rfl, unhide HOv, by omega, unhide hY, (unhide HCv).more (by omega), unhide HGv⟩
    · by_cases h0 : 0 < n3
      · obtain ⟨gb, rfl, hgb, hgb2, hmc⟩ := (unhide HO4).form h0
        have l0 : (0 : Int) < (n3 : Int) := by omega
        go_wp2_with fail
        refine (pick_any g n c _ A xs n3 w4 (unhide HC4) hn (by omega) (by omega) (by omega)).mono ?_
        rintro e w5 ⟨x, rfl, ⟨x0, x1⟩, hC, hg⟩
        obtain ⟨j, rfl⟩ : ∃ k : Nat, x = (k : Int) := ⟨x.toNat, by omega⟩
        have hj : j < n3 := by omega
        have HO5 := hide ((unhide HO4).gr hg hgl)
        have HC5 := hide hC
        have HG5 := hide (grownBy_trans (unhide HG4) hg)
        clear hC hg
        go_wp2_with fail
        refine (among_lit g n c _ _ A xs w5 rfl [0, 200, 225, 255] 4 _ (fun x => -400000 ≤ x ∧ x ≤ 400000) rfl rfl (by omega) (by omega) (by simp) (unhide HC5) hn (by omega)).mono ?_
        rintro e w6 ⟨v, rfl, hv, hC, hg⟩
        have HO6 := hide ((unhide HO5).gr hg hgl)
        obtain ⟨gc, hgc, _, _, c0, f0, hO7, hg7⟩ := (unhide HO6).store (k := j) hj v
        obtain rfl : gb = gc := by simpa using hgc
        have l1 : (j : Int) < (n3 : Int) := by omega
        have l2 : (0 : Int) ≤ (j : Int) := by omega
        have hC7 := hC.grown hg7 fun r e => by injection e with e; omega
        have hG7 := grown_into (grownBy_trans (unhide HG5) hg) hg7 fun r e => by injection e with e; omega
        go_wp2_with fail
        have hY9 : Hid (∀ y ∈ bs.set j v, -400000 ≤ y ∧ y ≤ 400000) := fun y hy => by
          rcases List.mem_or_eq_of_mem_set hy with h | h
          · exact unhide HBY y h
          · subst h
            exact hv
        have hY : Hid (∀ y ∈ (bs.set j v), -400000 ≤ y ∧ y ≤ 400000) := hY9
        have hO := hide (hO7)
        have hC := hide (hC7.more (b' := b + 300) (by omega))
        have hG := hide (hG7)
        have hn5 : n3 ≤ 73 := by omega
        refine (one_any g n c _ A xs 40 _ (unhide hC) hn (by omega) (by omega) (by omega)).mono ?_
        rintro e wt ⟨t, rfl, hCt, hg⟩
        have HCt := hide hCt
        have HGt := hide (grownBy_trans (unhide hG) hg)
        have HOt := hide ((unhide hO).gr hg hgl)
        clear hCt hg hC hG hO
        rcases t with _ | _
        · go_wp2_with fail
          go_ret
          exact ⟨_, n3, _, (bs.set j v), rfl, unhide HOt, by omega, unhide hY, (unhide HCt).more (by omega), unhide HGt⟩
        · go_wp2_with fail
          go_loopw [4] (fun v wr => ∃ (m : Nat) (A' : Option Addr) (c' q : Nat) (ys : List Int), v = .slice A' m c' ∧ m ≤ 101 ∧ q ≤ b + 310 + 2 * m ∧ Hid (∀ y ∈ ys, -400000 ≤ y ∧ y ≤ 400000) ∧ Hid (OwnI wr w.heap.size A' m c' ys) ∧ Hid (Cur wr g A n c xs q) ∧ Hid (w.grownBy wr (some g))) (fun v _ => 102 - lenS v)
          case atStart => exact ⟨n3, _, _, _, (bs.set j v), rfl, by omega, by omega, hY, HOt, HCt, HGt⟩
          case round =>
            clear HOt HCt HGt hY
            obtain ⟨m, A', c', q, ys, rfl, hm, hq, hY, hO, hC, hG⟩ := hrel
            go_wp2_with fail
            refine (pick_any g n c q A xs 2 _ (unhide hC) hn (by omega) (by omega) (by omega)).mono ?_
            rintro e wv ⟨x, rfl, ⟨x0, x1⟩, hCv, hg⟩
            have HCv := hide hCv
            have HGv := hide (grownBy_trans (unhide hG) hg)
            have HOv := hide ((unhide hO).gr hg hgl)
            clear hCv hg hC hG hO
            by_cases hmz : (m : Int) < 100 + x
            · have hls : w.heap.size ≤ wv.heap.size := (unhide HGv).size
              have hrow : Hid (∀ r, (Value.slice A' m c').ownBlock = some r → w.heap.size ≤ r) := fun r e => ((unhide HOv).lt e).1
              go_wp2_with (at_builtin; refine append_int2 _ rfl _ _ rfl w.heap.size A' m c' ys rfl ((unhide HOv).alloc _) ?_ _ 0 rfl (cellNew _ _ _) ?_ ?_; (simp; omega); omega; intro A9 c9 w9 hO9 hg9)
              go_roundw
              case rel =>
                refine ⟨m + 1, A9, c9, q + 2, _, rfl, by omega, by omega, fun y hy => ?_, hO9, ((unhide HCv).alloc _).grown hg9 fun r e => Nat.lt_of_lt_of_le hgl (unhide hrow r e), grown_into (grown_alloc (unhide HGv) _) hg9 (unhide hrow)⟩
                rcases List.mem_append.1 hy with h | h
                · exact unhide hY y h
                · obtain rfl : y = 0 := by simpa using h
                  omega
              case measure => simp [lenS] <;> omega
            · go_wp2_with fail
              go_ret
              exact ⟨A', m, c', ys, rfl, unhide HOv, by omega, unhide hY, (unhide HCv).more (by omega), unhide HGv⟩
      · have l0 : ¬ (0 : Int) < (n3 : Int) := by omega
        go_wp2_with fail
        have hY : Hid (∀ y ∈ bs, -400000 ≤ y ∧ y ≤ 400000) := HBY
        have hO := hide (unhide HO4)
        have hC := hide ((unhide HC4).more (b' := b + 300) (by omega))
        have hG := hide (unhide HG4)
        have hn5 : n3 ≤ 73 := by omega
        refine (one_any g n c _ A xs 40 _ (unhide hC) hn (by omega) (by omega) (by omega)).mono ?_
        rintro e wt ⟨t, rfl, hCt, hg⟩
        have HCt := hide hCt
        have HGt := hide (grownBy_trans (unhide hG) hg)
        have HOt := hide ((unhide hO).gr hg hgl)
        clear hCt hg hC hG hO
        rcases t with _ | _
        · go_wp2_with fail
          go_ret
          exact ⟨A3, n3, c3, bs, rfl, unhide HOt, by omega, unhide hY, (unhide HCt).more (by omega), unhide HGt⟩
        · go_wp2_with fail
          go_loopw [4] (fun v wr => ∃ (m : Nat) (A' : Option Addr) (c' q : Nat) (ys : List Int), v = .slice A' m c' ∧ m ≤ 101 ∧ q ≤ b + 310 + 2 * m ∧ Hid (∀ y ∈ ys, -400000 ≤ y ∧ y ≤ 400000) ∧ Hid (OwnI wr w.heap.size A' m c' ys) ∧ Hid (Cur wr g A n c xs q) ∧ Hid (w.grownBy wr (some g))) (fun v _ => 102 - lenS v)
          case atStart => exact ⟨n3, A3, c3, _, bs, rfl, by omega, by omega, hY, HOt, HCt, HGt⟩
          case round =>
            clear HOt HCt HGt hY
            obtain ⟨m, A', c', q, ys, rfl, hm, hq, hY, hO, hC, hG⟩ := hrel
            go_wp2_with fail
            refine (pick_any g n c q A xs 2 _ (unhide hC) hn (by omega) (by omega) (by omega)).mono ?_
            rintro e wv ⟨x, rfl, ⟨x0, x1⟩, hCv, hg⟩
            have HCv := hide hCv
            have HGv := hide (grownBy_trans (unhide hG) hg)
            have HOv := hide ((unhide hO).gr hg hgl)
            clear hCv hg hC hG hO
            by_cases hmz : (m : Int) < 100 + x
            · have hls : w.heap.size ≤ wv.heap.size := (unhide HGv).size
              have hrow : Hid (∀ r, (Value.slice A' m c').ownBlock = some r → w.heap.size ≤ r) := fun r e => ((unhide HOv).lt e).1
              go_wp2_with (at_builtin; refine append_int2 _ rfl _ _ rfl w.heap.size A' m c' ys rfl ((unhide HOv).alloc _) ?_ _ 0 rfl (cellNew _ _ _) ?_ ?_; (simp; omega); omega; intro A9 c9 w9 hO9 hg9)
              go_roundw
              case rel =>
                refine ⟨m + 1, A9, c9, q + 2, _, rfl, by omega, by omega, fun y hy => ?_, hO9, ((unhide HCv).alloc _).grown hg9 fun r e => Nat.lt_of_lt_of_le hgl (unhide hrow r e), grown_into (grown_alloc (unhide HGv) _) hg9 (unhide hrow)⟩
                rcases List.mem_append.1 hy with h | h
                · exact unhide hY y h
                · obtain rfl : y = 0 := by simpa using h
                  omega
              case measure => simp [lenS] <;> omega
            · go_wp2_with fail
              go_ret
              exact ⟨A', m, c', ys, rfl, unhide HOv, by omega, unhide hY, (unhide HCv).more (by omega), unhide HGv⟩
    · go_wp2_with fail
      have hY : Hid (∀ y ∈ bs, -400000 ≤ y ∧ y ≤ 400000) := HBY
      have hO := hide (unhide HO4)
      have hC := hide ((unhide HC4).more (b' := b + 300) (by omega))
      have hG := hide (unhide HG4)
      have hn5 : n3 ≤ 73 := by omega
      refine (one_any g n c _ A xs 40 _ (unhide hC) hn (by omega) (by omega) (by omega)).mono ?_
      rintro e wt ⟨t, rfl, hCt, hg⟩
      have HCt := hide hCt
      have HGt := hide (grownBy_trans (unhide hG) hg)
      have HOt := hide ((unhide hO).gr hg hgl)
      clear hCt hg hC hG hO
      rcases t with _ | _
      · go_wp2_with fail
        go_ret
        exact ⟨A3, n3, c3, bs, rfl, unhide HOt, by omega, unhide hY, (unhide HCt).more (by omega), unhide HGt⟩
      · go_wp2_with fail
        go_loopw [4] (fun v wr => ∃ (m : Nat) (A' : Option Addr) (c' q : Nat) (ys : List Int), v = .slice A' m c' ∧ m ≤ 101 ∧ q ≤ b + 310 + 2 * m ∧ Hid (∀ y ∈ ys, -400000 ≤ y ∧ y ≤ 400000) ∧ Hid (OwnI wr w.heap.size A' m c' ys) ∧ Hid (Cur wr g A n c xs q) ∧ Hid (w.grownBy wr (some g))) (fun v _ => 102 - lenS v)
        case atStart => exact ⟨n3, A3, c3, _, bs, rfl, by omega, by omega, hY, HOt, HCt, HGt⟩
        case round =>
          clear HOt HCt HGt hY
          obtain ⟨m, A', c', q, ys, rfl, hm, hq, hY, hO, hC, hG⟩ := hrel
          go_wp2_with fail
          refine (pick_any g n c q A xs 2 _ (unhide hC) hn (by omega) (by omega) (by omega)).mono ?_
          rintro e wv ⟨x, rfl, ⟨x0, x1⟩, hCv, hg⟩
          have HCv := hide hCv
          have HGv := hide (grownBy_trans (unhide hG) hg)
          have HOv := hide ((unhide hO).gr hg hgl)
          clear hCv hg hC hG hO
          by_cases hmz : (m : Int) < 100 + x
          · have hls : w.heap.size ≤ wv.heap.size := (unhide HGv).size
            have hrow : Hid (∀ r, (Value.slice A' m c').ownBlock = some r → w.heap.size ≤ r) := fun r e => ((unhide HOv).lt e).1
            go_wp2_with (at_builtin; refine append_int2 _ rfl _ _ rfl w.heap.size A' m c' ys rfl ((unhide HOv).alloc _) ?_ _ 0 rfl (cellNew _ _ _) ?_ ?_; (simp; omega); omega; intro A9 c9 w9 hO9 hg9)
            go_roundw
            case rel =>
              refine ⟨m + 1, A9, c9, q + 2, _, rfl, by omega, by omega, fun y hy => ?_, hO9, ((unhide HCv).alloc _).grown hg9 fun r e => Nat.lt_of_lt_of_le hgl (unhide hrow r e), grown_into (grown_alloc (unhide HGv) _) hg9 (unhide hrow)⟩
              rcases List.mem_append.1 hy with h | h
              · exact unhide hY y h
              · obtain rfl : y = 0 := by simpa using h
                omega
            case measure => simp [lenS] <;> omega
          · go_wp2_with fail
            go_ret
            exact ⟨A', m, c', ys, rfl, unhide HOv, by omega, unhide hY, (unhide HCv).more (by omega), unhide HGv⟩
theorem drawUnpackSamples_any (A : Option Addr) (n c : Nat) (xs : List Int) (w : World) (hr : RB w w.heap.size A n xs) (hn : n ≤ 65536) :
    Calls Try.prog 40 #[.slice A n c] w (RetDI w) := by
  have HC := hide (Cur.new c hr)
  clear hr
  go_enter Try.func40, Try.ntmps40
  go_wp2_with fail
  refine (bytes_any w.heap.size n c 0 A xs _ (unhide HC) (by omega) (by omega)).mono ?_
  rintro e w1 ⟨A', n', c', ys, rfl, hO, h2, hy, hC, hg⟩
  have HB := hide (below_cur ((Below.refl _ w).alloc (Nat.le_refl _) _) hg (Nat.le_refl _))
  have HO := hide (OwnI.less hO (lo' := w.heap.size) (by simp))
  clear hO hC hg
  go_wp2_with fail
  go_ret
  exact ⟨A', n', c', ys, rfl, unhide HO, by omega, fun y h9 => by have := hy y h9; omega, unhide HB⟩
theorem drawReadableSamples_any (A : Option Addr) (n c : Nat) (xs : List Int) (w : World) (hr : RB w w.heap.size A n xs) (hn : n ≤ 65536) :
    Calls Try.prog 41 #[.slice A n c] w (RetDI w) := by
  have HP := hide (drawUnpackSamples_any A n c xs w hr hn)
  clear hr
  go_enter Try.func41, Try.ntmps41
  go_wp2_with fail
  refine (unhide HP).mono ?_
  rintro e w1 ⟨A', n', c', ts, rfl, hO, h2, hy, hb⟩
  go_wp2_with fail
  go_ret
  exact ⟨A', n', c', ts, rfl, hO, h2, hy, hb⟩
theorem vSum3_any (A : Option Addr) (c : Nat) (a b d : Int) (L : Nat) (w : World) (hr : RI w L A 3 [a, b, d]) (h0 : 0 ≤ a ∧ a ≤ 1000) (h1 : 0 ≤ b ∧ b ≤ 1000) (h2 : 0 ≤ d ∧ d ≤ 1000) :
    Calls Try.prog 39 #[.slice A 3 c] w fun e w' => e = .returned (.int .i64 (a + b + d)) ∧ Below w.heap.size w w' := by
  have HR := hide hr
  clear hr
  go_enter Try.func39, Try.ntmps39
  go_wp2_with fail
  go_loopw [3, 4] (fun v i wr => ∃ k : Nat, k ≤ 3 ∧ i = .int .i64 k ∧ v = .int .i64 ([a, b, d].take k).sum ∧ Hid (∃ m, wr = w.drewN m)) (fun _ i _ => 3 - (intOf i).toNat)
  case atStart => exact ⟨0, by omega, rfl, rfl, 0, rfl⟩
  case round =>
    obtain ⟨k, hk, rfl, rfl, hW⟩ := hrel
    by_cases hlt : k < 3
    · obtain ⟨ad, x, rfl, _, hx, hc⟩ := (unhide HR).get hlt
      obtain ⟨m, rfl⟩ := unhide hW
      have hc' : (w.drewN m).cell? (ad.add k) = some (.int .i64 x) := hc
      have hk3 : k = 0 ∨ k = 1 ∨ k = 2 := by omega
      have l1 : (k : Int) < 3 := by omega
      have l2 : (0 : Int) ≤ (k : Int) := by omega
      have hS : Hid ((([a, b, d].take (k + 1)).sum : Int) = ([a, b, d].take k).sum + x ∧ 0 ≤ ([a, b, d].take k).sum ∧ ([a, b, d].take k).sum ≤ 3000 ∧ 0 ≤ x ∧ x ≤ 1000) := by
        have h9 := unhide hx
        unfold Hid
        rcases hk3 with rfl | rfl | rfl
        · simp at h9; subst h9; simp; omega
        · simp at h9; subst h9; simp; omega
        · simp at h9; subst h9; simp; omega
      obtain ⟨s1, s2, s3, s4, s5⟩ := unhide hS
      have HS1 := hide s1
      clear hx hS s1 hk3 hW
      generalize hsum : ([a, b, d].take k).sum = sm at *
      go_wp2_with fail
      try (go_quiet (fail); go_wp2_with fail)
      go_roundw
      case rel => exact ⟨k + 1, by omega, by go_num, by rw [unhide HS1], _, rfl⟩
      case measure => simp [intOf]; omega
    · obtain rfl : k = 3 := by omega
      obtain ⟨m, rfl⟩ := unhide hW
      have hS : Hid ((([a, b, d].take 3).sum : Int) = a + b + d) := by unfold Hid; simp; omega
      rw [unhide hS]
      go_wp2_with fail
      go_ret
      exact ⟨rfl, below_drewN (Below.refl _ _) _⟩
end Go.Proofs.Ytnigieebmjjjjaa
