/- The walk of the law FnStrings: it says true, at every input; what was there stays as it was. (By gen_FnStrings.py.) -/
import Derived.Test.YtajngpnpcefhdaaDoorProg
import Derived.Test.YtajngpnpcefhdaaDoorDrawN
import Derived.Test.YtajngpnpcefhdaaDoorStrLaw
import Derived.Laws.IdiomStrings
import Derived.Deep.RegionHeld3
import Derived.Deep.DeepCutAuto
import Derived.WalkSpells
namespace Go.Proofs.YtajngpnpcefhdaaDoor
open Go.RowKit
set_option linter.unusedVariables false

theorem bool_same (b : Bool) : (b != b) = false := by simp
set_option maxHeartbeats 4000000 in
set_option maxRecDepth 100000 in
theorem law_FnStrings (A : Option Addr) (n c : Nat) (xs : List Int) (w : World) (hr : RB w w.heap.size A n xs) (he : EnvE w) (hm : MaxL w) :
    Calls Tryd.prog 7 #[.slice A n c] w fun e w' => e = .returned (.bool true) ∧ Below w.heap.size w w' := by
  have HR := hide (fun (W : World) (hb : Below w.heap.size w W) => RB.later hr hb)
  have HE := hide he
  have HM := hide hm
  have HB0 := hide (Below.refl w.heap.size w)
  clear hr he hm
  go_enter Tryd.func7, Tryd.ntmps7
  go_wp2_with fail
  refine (vBig_any A n c w).mono ?_
  rintro e w1 ⟨rfl, rfl⟩
  by_cases hbig : 65536 < n
  · have hbt : decide (65536 < n) = true := by simpa using hbig
    go_wp2_with fail
    go_ret
    exact ⟨rfl, Below.refl _ _⟩
  have hbt : decide (65536 < n) = false := by simpa using hbig
  have hn : n ≤ 65536 := by omega
  clear hbig
  go_wp2_with fail
  refine (drawFormatInt_any A n c xs _ (unhide HR _ (unhide HB0)) hn).mono ?_
  rintro e w1 ⟨v, rfl, hv, hb⟩
  have HB1 := hide (below_next (unhide HB0) hb)
  clear hb 
  obtain ⟨s, ok, hfm⟩ : ∃ a b, fmtR v = (a, b) := ⟨_, _, rfl⟩
  have hsz : s.size ≤ 21 := by have h9 := fmt_size (n := v); rw [hfm] at h9; exact h9
  go_wp2_with fail
  have HT2 := hide (implFormat_any v w1 ((unhide HE).tab.stays (unhide HB1)))
  rw [hfm] at HT2
  refine (unhide HT2).mono ?_
  rintro e w2 ⟨rfl, hb⟩
  have HB2 := hide (below_next (unhide HB1) hb)
  clear hb 
  clear HT2
  go_wp2_with fail
  have HT3 := hide (specFormat_any v w2)
  rw [hfm] at HT3
  refine (unhide HT3).mono ?_
  rintro e w3 ⟨rfl, hb⟩
  have HB3 := hide (below_next (unhide HB2) hb)
  clear hb 
  clear HT3
  go_wp2_with fail
  refine (drawParseInt_any A n c xs _ (unhide HR _ (unhide HB3)) hn).mono ?_
  rintro e w4 ⟨t, rfl, ht, hb⟩
  have HB4 := hide (below_next (unhide HB3) hb)
  clear hb 
  obtain ⟨m, fine, hrd⟩ : ∃ a b, rdR t = (a, b) := ⟨_, _, rfl⟩
  go_wp2_with fail
  have HT5 := hide (implParse_any t w4 (by omega) ((unhide HE).stays (unhide HB4)))
  rw [hrd] at HT5
  refine (unhide HT5).mono ?_
  rintro e w5 ⟨rfl, hb⟩
  have HB5 := hide (below_next (unhide HB4) hb)
  clear hb 
  clear HT5
  go_wp2_with fail
  have HT6 := hide (specParse_any t w5 (by omega))
  rw [hrd] at HT6
  refine (unhide HT6).mono ?_
  rintro e w6 ⟨rfl, hb⟩
  have HB6 := hide (below_next (unhide HB5) hb)
  clear hb 
  clear HT6
  go_wp2_with fail
  refine (drawAppendChecksum_any A n c xs _ (unhide HR _ (unhide HB6)) hn).mono ?_
  rintro e w7 ⟨x, rfl, hx, hb⟩
  have HB7 := hide (below_next (unhide HB6) hb)
  clear hb 
  obtain ⟨y, sealed, hap⟩ : ∃ a b, appR x = (a, b) := ⟨_, _, rfl⟩
  go_wp2_with fail
  have HT8 := hide (implAppend_any x w7 (by omega) ((unhide HE).tab.stays (unhide HB7)))
  rw [hap] at HT8
  refine (unhide HT8).mono ?_
  rintro e w8 ⟨rfl, hb⟩
  have HB8 := hide (below_next (unhide HB7) hb)
  clear hb 
  clear HT8
  go_wp2_with fail
  have e1 : (s.toList != s.toList) = false := by simp
  have e2 := bool_same ok
  have e3 : (m != m) = false := by simp
  have e4 := bool_same fine
  have e5 : (y.toList != y.toList) = false := by simp
  have e6 := bool_same sealed
  have HT9 := hide (specAppend_any x w8 (by omega))
  rw [hap] at HT9
  refine (unhide HT9).mono ?_
  rintro e w9 ⟨rfl, hb⟩
  have HB9 := hide (below_next (unhide HB8) hb)
  clear hb 
  clear HT9
  go_wp2_with fail
  obtain ⟨bk, th, hbk⟩ : ∃ a b, rdR s = (a, b) := ⟨_, _, rfl⟩
  have HK : Hid (ok = true → th = true ∧ bk = v) := fun h => by
    rw [h] at hfm
    have h9 := fmt_read hfm
    rw [hbk] at h9
    cases h9
    exact ⟨rfl, rfl⟩
  clear hfm hrd e1 e2 e3 e4 e5 e6
  have HT10 := hide (implParse_any s w9 (by omega) ((unhide HE).stays (unhide HB9)))
  rw [hbk] at HT10
  refine (unhide HT10).mono ?_
  rintro e w10 ⟨rfl, hb⟩
  have HB10 := hide (below_next (unhide HB9) hb)
  clear hb 
  clear HT10
  clear hbk hsz hv ht
  go_upto_region 15 with (fail)
  go_cut [106] (fun v wx => v = .bool false ∧ wx = w10)
  case first =>
    rcases ok with _ | _
    · go_wp2_with fail
      go_meet
      exact ⟨rfl, rfl⟩
    · obtain ⟨rfl, rfl⟩ := unhide HK rfl
      have e1 : (bk != bk) = false := by simp
      go_wp2_with fail
      go_meet
      exact ⟨rfl, rfl⟩
  case rest =>
    obtain ⟨rfl, rfl⟩ := hcut
    generalize wc = w10 at *
    clear HK
    rcases sealed with _ | _
    · skip
      obtain rfl := app_no hap
      have e1 : ((ByteArray.empty : ByteArray).toList == (⟨#[]⟩ : ByteArray).toList) = true := by rw [str_eq]; rfl
      go_wp2_with fail
      go_ret
      exact ⟨rfl, unhide HB10⟩
    · skip
      have hvr := ver_app hap
      obtain ⟨hxm, hyx, hy4⟩ := app_yes hap
      have hy1 : 1 ≤ y.size := by have h9 := sealB_size x; rw [← hyx] at h9; omega
      have HXM := hide hxm
      have HYX := hide hyx
      clear hap hxm hyx
      go_wp2_with fail
      have kc := fun W : World => run_bytes_of_string (P := Tryd.prog) W 9 29 5 y Tryd.underlying9 Tryd.underlying29 Tryd.underlying5
      have HT11 := hide (implVerify_any y w10 (by omega) ⟨(unhide HE).tab.stays (unhide HB10), (unhide HM).stays (unhide HB10)⟩)
      rw [hvr] at HT11
      refine (unhide HT11).mono ?_
      rintro e w11 ⟨rfl, hb⟩
      have HB11 := hide (below_next (unhide HB10) hb)
      clear hb 
      clear HT11
      go_wp2_with fail
      have hcp := grownCap_ge w11 y.size 0 5
      have HB12 : Hid (Below w.heap.size w ((w11.alloc (Obj.cells (bytesRow y (grownCap w11 y.size 0 5)) 5 ((bytesRow y (grownCap w11 y.size 0 5)).size, (bytesRow y (grownCap w11 y.size 0 5)).size + 1))).drew)) := ((unhide HB11).alloc (unhide HB11).size _).drew
      have hbz : y.size ≤ (bytesRow y (grownCap w11 y.size 0 5)).size := by
        have h8 : y.size = y.data.size := rfl
        have h9 := (Array.getElem?_eq_some_iff.1 (bytesRow_at y (grownCap w11 y.size 0 5) (y.size - 1) (by omega))).1
        omega
      have HCB : Hid (∀ (j : Nat) (b : UInt8), y.data.toList[j]? = some b → ((w11.alloc (Obj.cells (bytesRow y (grownCap w11 y.size 0 5)) 5 ((bytesRow y (grownCap w11 y.size 0 5)).size, (bytesRow y (grownCap w11 y.size 0 5)).size + 1))).drew).cell? ⟨w11.heap.size, j, none⟩ = some (.int .u8 (b.toNat : Int))) := fun j b hj => by
        obtain ⟨h1, h2⟩ := List.getElem?_eq_some_iff.1 hj
        have h3 : j < y.data.size := by simpa using h1
        refine (World.cell?_alloc_mark w11 _ _ _ j).trans ?_
        rw [bytesRow_at y _ j h3, ← h2]
        rfl
      have HFB : Hid (∀ j : Nat, j < y.size → ((w11.alloc (Obj.cells (bytesRow y (grownCap w11 y.size 0 5)) 5 ((bytesRow y (grownCap w11 y.size 0 5)).size, (bytesRow y (grownCap w11 y.size 0 5)).size + 1))).drew).frozen? ⟨w11.heap.size, j, none⟩ = false) := fun j hj => by
        refine (World.frozen?_alloc_mark w11 _ _ _ _ j).trans ?_
        rw [decide_eq_false (by omega), Bool.false_and]
      have hgb : w11.heap.size < ((w11.alloc (Obj.cells (bytesRow y (grownCap w11 y.size 0 5)) 5 ((bytesRow y (grownCap w11 y.size 0 5)).size, (bytesRow y (grownCap w11 y.size 0 5)).size + 1))).drew).heap.size := by show _ < (w11.alloc _).heap.size; simp
      have hgw := (unhide HB11).size
      clear hbz kc
      generalize (w11.alloc (Obj.cells (bytesRow y (grownCap w11 y.size 0 5)) 5 ((bytesRow y (grownCap w11 y.size 0 5)).size, (bytesRow y (grownCap w11 y.size 0 5)).size + 1))).drew = w12 at *
      generalize grownCap w11 y.size 0 5 = cp at *
      generalize w11.heap.size = gb at *
      have HRB := hide (unhide HR w12 (unhide HB12))
      refine (vAt_any A n c _ xs 9 w12 (unhide HRB) (by omega) hn).mono ?_
      rintro e wq ⟨⟨v9, hv9, rfl⟩, rfl⟩
      have hq : v9 % y.size < y.size := Nat.mod_lt _ (by omega)
      have t1 : (v9 : Int).tmod (y.size : Int) = ((v9 % y.size : Nat) : Int) := by rw [Int.tmod_eq_emod_of_nonneg (by omega)]; omega
      have t2 : (v9 : Int) % (y.size : Int) = ((v9 % y.size : Nat) : Int) := by omega
      have t0 : ¬ (y.size : Int) = 0 := by omega
      generalize v9 % y.size = q at *
      obtain ⟨a, ha⟩ : ∃ a, y.data.toList[q]? = some a := ⟨_, List.getElem?_eq_getElem (by rw [← Lib.size_eq]; exact hq)⟩
      have HA := hide ha
      have c0 := unhide HCB q a ha
      have f0 := unhide HFB q hq
      have l1 : (q : Int) < (y.size : Int) := by omega
      have l2 : (0 : Int) ≤ (q : Int) := by omega
      have HCW := hide c0
      clear ha
      go_wp2_with fail
      have c1 : w12.drew.cell? ⟨gb, q, none⟩ = some (.int .u8 (a.toNat : Int)) := c0
      have f1 : w12.drew.frozen? ⟨gb, q, none⟩ = false := f0
      go_region_with
        (first
          | (go_at_call 20; go_loud ((refine (vAt_any A n c w12.heap.size xs 10 _ ?_ (by omega) hn).mono ?_); (first | exact unhide HRB | exact RB.later (unhide HRB) (Below.drew (Below.refl _ _))); rintro e wq ⟨⟨v10, hv10, rfl⟩, rfl⟩; have hr := Nat.mod_lt v10 (show 0 < 255 by omega); have t3 : (v10 : Int).tmod 255 = ((v10 % 255 : Nat) : Int) := (by rw [Int.tmod_eq_emod_of_nonneg (by omega)]; omega); have t4 : (v10 : Int) % 255 = ((v10 % 255 : Nat) : Int) := (by omega); obtain ⟨cb, hxb, hne⟩ := xor8 a (1 + v10 % 255) (by omega) (by omega); have t5 : IntKind.u8.wrap (1 + ((v10 % 255 : Nat) : Int)) = 1 + ((v10 % 255 : Nat) : Int) := (by rw [IntKind.wrap]; first | done | (simp [IntKind.bits, IntKind.signed]; done) | (simp [IntKind.bits, IntKind.signed]; omega)); have t7 : IntKind.i64.wrap (1 + ((v10 % 255 : Nat) : Int)) = 1 + ((v10 % 255 : Nat) : Int) := IntWalk.i64_in _ (by omega); have t6 : bits .xor .u8 (a.toNat : Int) (1 + ((v10 % 255 : Nat) : Int)) = (cb.toNat : Int) := (by rw [← hxb]; first | done | rfl | (congr 1; push_cast; rfl)); have HNE := hide hne; clear hne hxb; generalize v10 % 255 = r at *)))
      all_goals
        have HBn : Hid (Below w.heap.size w ((w12.setCell ⟨gb, q, none⟩ (.int .u8 (cb.toNat : Int))).drew)) := ((unhide HB12).setCell (p := ⟨gb, q, none⟩) hgw _).drew
        have HLL : Hid ((y.data.toList.set q cb).length = y.size) := by unfold Hid; rw [List.length_set]; exact Lib.size_eq y
        have HCC : ∀ j (hj : j < (y.data.toList.set q cb).length), ((w12.setCell ⟨gb, q, none⟩ (.int .u8 (cb.toNat : Int))).drew).cell? ((⟨gb, 0, none⟩ : Addr).add j) = some (.int .u8 ((y.data.toList.set q cb)[j].toNat : Int)) := fun j hj => by
          have e9 : (⟨gb, 0, none⟩ : Addr).add j = ⟨gb, j, none⟩ := by simp [Addr.add]; omega
          rw [e9]
          show (w12.setCell ⟨gb, q, none⟩ (.int .u8 (cb.toNat : Int))).cell? _ = _
          by_cases hjq : q = j
          · subst hjq
            rw [World.cell?_setCell_same (h := c0), List.getElem_set_self]
          · rw [World.cell?_setCell_other (h := by intro e8; injection e8 with _ e8; exact hjq e8), List.getElem_set_ne hjq]
            have hj2 : j < y.data.toList.length := by simpa using hj
            exact unhide HCB j _ (List.getElem?_eq_getElem hj2)
        generalize ((w12.setCell ⟨gb, q, none⟩ (.int .u8 (cb.toNat : Int))).drew) = wn at *
        have hcv := run_convert_bytes_back (P := Tryd.prog) wn 29 9 5 ⟨gb, 0, none⟩ cp (y.data.toList.set q cb) Tryd.underlying29 Tryd.underlying5 Tryd.underlying9 HCC
        rw [unhide HLL] at hcv
        have HV : Hid (verR ⟨(y.data.toList.set q cb).toArray⟩ = (ByteArray.empty, false)) := by
          have h9 := unhide HA
          have h8 := unhide HYX
          unfold Hid
          subst h8
          exact ver_changed (unhide HXM) h9 (unhide HNE) rfl
        have hz9 : (⟨(y.data.toList.set q cb).toArray⟩ : ByteArray).size = y.size := by
          show (List.toArray _).size = _
          rw [List.size_toArray]
          exact unhide HLL
        clear HCC c0 f0 c1 f1 HCW HCB HFB HA HYX HXM HNE HLL
        generalize (⟨(y.data.toList.set q cb).toArray⟩ : ByteArray) = z at *
        clear t0 t1 t2 t3 t4 t5 t6 t7
        go_wp2_with fail
        have HT13 := hide (implVerify_any z wn (by omega) ⟨(unhide HE).tab.stays (unhide HBn), (unhide HM).stays (unhide HBn)⟩)
        rw [unhide HV] at HT13
        refine (unhide HT13).mono ?_
        rintro e w14 ⟨rfl, hb⟩
        have HB14 := hide (below_next (unhide HBn) hb)
        clear hb HT13
        have e1 : (x.toList == x.toList) = true := by simp
        go_wp2_with fail
        go_ret
        exact ⟨rfl, unhide HB14⟩
end Go.Proofs.YtajngpnpcefhdaaDoor
