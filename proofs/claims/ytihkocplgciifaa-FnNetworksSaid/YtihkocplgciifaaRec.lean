/- Chapter 3, the walks: a station is calibrated anew: the program's and the reference's. (By gen_rec.py.) -/
import Derived.Test.YtihkocplgciifaaProg
import Derived.Test.YtihkocplgciifaaGap
import Derived.Test.YtihkocplgciifaaRecPlain
import Derived.WalkSpells
namespace Go.Proofs.Ytihkocplgciifaa
open Go.RowKit

def RetSB (w : World) (ys : List St) (b : Bool) (e : Ending) (w' : World) : Prop := ∃ A n c, e = .returned (.tuple #[.slice A n c, .bool b]) ∧ OwnS w' w.heap.size A n c ys ∧ Below w.heap.size w w'
/-- 'out = append(out, more...)' at fresh stations -/
theorem append_sts (w : World) {ops : Array Oper} {rest : List Oper} {o : Oper} {a : Act} {Q : Exit → Act → World → Prop} (hgd : o.guard = none) (s x : Operand)
    (ho : o.op = .call { callee := .builtin .append, args := #[s, x], argTypes := #[32, 32] })
    (w0 : World) (A : Option Addr) (n c : Nat) (xs : List St) (hs : a.eval s = .slice A n c) (hown : OwnS w w0.heap.size A n c xs) (hb : Below w0.heap.size w0 w)
    (B : Option Addr) (m c2 L : Nat) (ys : List St) (hx : a.eval x = .slice B m c2) (hr : RS w L B m ys) (hn : n + m ≤ 1000000000)
    (h : ∀ A' c' w', OwnS w' w0.heap.size A' (n + m) c' (xs ++ ys) → Below w0.heap.size w0 w' → wpList Try.prog ops Q rest (a.put o.dst (.slice A' (n + m) c')) w') : wpList Try.prog ops Q (o :: rest) a w := by
  obtain ⟨i0, hi, hz0, hz1, hz2⟩ := info_parts info_Station
  exact wpList_append_many w hgd s x 32 ho w0.heap.size 26 i0 (.agg #[.int .i64 0, .string ByteArray.empty, .int .i64 0, .int .i64 0, .int .i64 0, .int .i64 0, .int .i64 0, .int .i64 0]) 8 72 Try.underlying32 hi hz0 hz1 hz2 rfl (by decide) A n c (cS xs) hs hown L B m c2 (cS ys) hx hr (cS_one ys) (by unfold maxLen; omega) (by omega) hb.size
    fun A' c' w' h2 h3 h4 => h A' c' w' (by unfold OwnS; rw [cS_append]; exact h2) (hown.grow hb (Nat.le_refl _) hb.size h3)
theorem copyS_any (A : Option Addr) (n c L : Nat) (xs : List St) (w : World) (hr : RS w L A n xs) (hL : L ≤ w.heap.size) (hn : n ≤ 2097152) :
    Calls Try.prog 81 #[.slice A n c] w (RetS w xs) := by
  have HR := hide hr
  clear hr
  go_enter Try.func81, Try.ntmps81
  go_wp2_with (at_builtin; refine append_sts _ rfl _ _ rfl w _ 0 0 [] rfl (OwnS.empty w (Nat.le_refl _)) ((Below.refl _ w).alloc (Nat.le_refl _) _) A n c _ xs rfl ((unhide HR).alloc hL _) (by omega) ?_; intro A2 c2 w2 hO2 hB2)
  go_ret
  exact ⟨A2, n, c2, by simp, by simpa using hO2, hB2⟩
theorem cS_set2 (xs : List St) (k : Nat) (g u : Int) (hk : k < xs.length) : ((cS xs).set (k * 8 + 4) (.int .i64 g)).set (k * 8 + 7) (.int .i64 u) = cS (newS xs g u k) := by
  induction xs generalizing k with
  | nil => simp at hk
  | cons p l ih =>
    match k with
    | 0 => simp [cS, fS, newS, stAt]
    | k + 1 =>
      have e : cS (p :: l) = .int .i64 p.id :: .string p.nm :: .int .i64 p.x :: .int .i64 p.y :: .int .i64 p.gn :: .int .i64 p.lw :: .int .i64 p.hg :: .int .i64 p.ut :: cS l := rfl
      rw [e, set8_front, set8_front, ih k (by simpa using hk)]
      rfl
/-- two fields of a station in a row of one's own -/
theorem OwnS.store2 {w : World} {lo n c k : Nat} {A : Option Addr} {xs : List St} (h : OwnS w lo A n c xs) (hk : k < n) (g u : Int) : ∃ b, A = some ⟨b, 0, none⟩ ∧ lo ≤ b ∧ b < w.heap.size ∧ (∃ v, w.cell? ⟨b, k * 8 + 4, none⟩ = some v) ∧ (∃ v, w.cell? ⟨b, k * 8 + 7, none⟩ = some v) ∧ (∀ j, w.frozen? ⟨b, j, none⟩ = false) ∧
    OwnS ((w.setCell ⟨b, k * 8 + 4, none⟩ (.int .i64 g)).setCell ⟨b, k * 8 + 7, none⟩ (.int .i64 u)) lo A n c (newS xs g u k) ∧ w.grownBy ((w.setCell ⟨b, k * 8 + 4, none⟩ (.int .i64 g)).setCell ⟨b, k * 8 + 7, none⟩ (.int .i64 u)) (some b) := by
  obtain ⟨b, rfl, hlo, hb, ⟨_, _, _, _, c4, _, _, c7⟩, hf, _, _⟩ := h.store hk zSt
  obtain ⟨h0, g0⟩ := World.ownsRow.stored h (k * 8 + 4) (.int .i64 g)
  obtain ⟨h1, g1⟩ := World.ownsRow.stored h0 (k * 8 + 7) (.int .i64 u)
  refine ⟨b, rfl, hlo, hb, ⟨_, c4⟩, ⟨_, c7⟩, hf, ?_, grownBy_trans g0 g1⟩
  unfold OwnS
  rw [← cS_set2 xs k g u (by rw [h.len]; exact hk)]
  exact h1
/-- the first place at which p holds, or -1 -/
def idxB {α : Type} (p : α → Bool) (xs : List α) : Int := match xs.findIdx? p with
  | some i => (i : Int)
  | none => -1
theorem take_any_step {α : Type} (p : α → Bool) (xs : List α) (k : Nat) (x : α) (hx : xs[k]? = some x) (h : (xs.take k).any p = false) (hp : p x = false) : (xs.take (k + 1)).any p = false := by
  rw [List.take_add_one, hx, List.any_append, h]
  simp [hp]
theorem idxB_hit {α : Type} (p : α → Bool) (xs : List α) (k : Nat) (x : α) (hx : xs[k]? = some x) (h : (xs.take k).any p = false) (hp : p x = true) : idxB p xs = (k : Int) := by
  have hk : k < xs.length := (List.getElem?_eq_some_iff.1 hx).1
  have e : xs.findIdx? p = some k := by
    rw [List.findIdx?_eq_some_iff_getElem]
    refine ⟨hk, ?_, fun j hj => ?_⟩
    · have := (List.getElem?_eq_some_iff.1 hx).2
      rw [this]; exact hp
    · rw [List.any_eq_false] at h
      exact h _ (List.mem_take_iff_getElem.2 ⟨j, by omega, rfl⟩)
  unfold idxB
  rw [e]
theorem idxB_miss {α : Type} (p : α → Bool) (xs : List α) (h : xs.any p = false) : idxB p xs = -1 := by
  have e : xs.findIdx? p = none := by
    rw [List.findIdx?_eq_none_iff]
    intro x hx
    rw [List.any_eq_false] at h
    simpa using h x hx
  unfold idxB
  rw [e]

set_option maxHeartbeats 1000000 in
set_option maxRecDepth 100000 in
theorem IndexFunc_st (g : Nat) (lb : Array Value) (p : St → Bool) (eg : ∀ args w, (callFunc g args).run Try.prog w = .ok (.enter g args) w) (A : Option Addr) (n c L : Nat) (xs : List St) (w : World) (hp : PredS g lb p w) (hr : RS w L A n xs) (hL : L ≤ w.heap.size) (hn : n ≤ 2097152) :
    Calls Try.prog 94 #[.slice A n c, .func (.func g) #[] lb] w fun e w' => e = .returned (.int .i64 (idxB p xs)) ∧ Below w.heap.size w w' := by
  have HR := hide (hr.more hL)
  have HL := hide hr.len
  have HCap := hide hp
  clear hr hp
  go_enter Try.func94, Try.ntmps94
  go_wp2
  go_loopw [8] (fun i wr => ∃ k : Nat, k ≤ n ∧ i = .int .i64 k ∧ Hid ((xs.take k).any p = false) ∧ Hid (Below w.heap.size w wr)) (fun i _ => n - (intOf i).toNat)
  case atStart => exact ⟨0, Nat.zero_le _, rfl, by simp [Hid], Below.refl _ _⟩
  case round =>
    obtain ⟨k, hk, rfl, hA, hB⟩ := hrel
    by_cases hlt : k < n
    · obtain ⟨ad, s, rfl, hbx, hx, hrow⟩ := ((unhide HR).below (unhide hB)).get hlt
      obtain ⟨c0, c1, c2, c3, c4, c5, c6, c7⟩ := hrow
      have HC := hide (unhide HCap _ s (unhide hB))
      have l1 : (k : Int) < (n : Int) := by omega
      have l2 : (0 : Int) ≤ (k : Int) := by omega
      rcases hq : p s with _ | _
      · rw [hq] at HC
        have HE := hide (take_any_step p xs k s (unhide hx) (unhide hA) hq)
        clear hx hA hq
        go_wp2_with fail
        refine (unhide HC).mono ?_
        rintro e w1 ⟨rfl, hb⟩
        have HB1 := hide (below_next (unhide hB) hb)
        clear hb
        go_wp2_with fail
        go_roundw
        case rel => exact ⟨k + 1, by omega, by go_num, HE, HB1⟩
        case measure => simp [intOf]; omega
      · rw [hq] at HC
        have HE := hide (idxB_hit p xs k s (unhide hx) (unhide hA) hq)
        clear hx hA hq
        go_wp2_with fail
        refine (unhide HC).mono ?_
        rintro e w1 ⟨rfl, hb⟩
        go_wp2_with fail
        go_ret
        exact ⟨ret_int (unhide HE).symm, below_next (unhide hB) hb⟩
    · obtain rfl : k = n := by omega
      have HE := hide (idxB_miss p xs (by have := unhide hA; rwa [List.take_of_length_le (by rw [unhide HL]; exact Nat.le_refl _)] at this))
      clear hA
      go_wp2_with fail
      go_ret
      exact ⟨ret_int (unhide HE).symm, unhide hB⟩
theorem rec_clo (p1 : Addr) (x : Int) (w : World) (h1 : p1.block < w.heap.size ∧ w.cell? p1 = some (.int .i64 x)) : PredS 95 #[.pointer (some p1)] (fun s => s.id == x) w := by
  intro W s hb
  have hc1 := (hb.cell h1.1).trans h1.2
  have hl1 := Nat.lt_of_lt_of_le h1.1 hb.size
  have hd1 := fun o : Obj => (World.cell?_alloc_lt W o p1 hl1).trans hc1
  show Calls _ _ #[.agg #[.int .i64 s.id, .string s.nm, .int .i64 s.x, .int .i64 s.y, .int .i64 s.gn, .int .i64 s.lw, .int .i64 s.hg, .int .i64 s.ut], .pointer (some p1)] W (fun e w' => e = .returned (.bool (s.id == x)) ∧ Below W.heap.size W w')
  clear h1 hb
  go_enter Try.func95, Try.ntmps95
  go_wp2
  go_ret
  exact ⟨rfl, (Below.refl _ _).alloc (Nat.le_refl _) _⟩
set_option maxHeartbeats 4000000 in
set_option maxRecDepth 100000 in
theorem implRec_any (A : Option Addr) (n c : Nat) (xs : List St) (i g u : Int) (w : World) (hr : RS w w.heap.size A n xs) (hn : n ≤ 2097152) (hs : ∀ x ∈ xs, x.nm.size ≤ 9223372036854775807) :
    Calls Try.prog 39 #[.slice A n c, .int .i64 i, .int .i64 g, .int .i64 u] w (RetSB w (recR xs i g u).1 (recR xs i g u).2) := by
  have HG := hide (fun (W : World) (hb : Below w.heap.size w W) => implAre_any A n c xs W ((hr.below hb).more hb.size) (by omega) hs)
  have HR := hide (fun (W : World) (hb : Below w.heap.size w W) => (hr.below hb).more hb.size)
  have HL := hide hr.len
  have HS := hide hs
  clear hr hs
  go_enter Try.func39, Try.ntmps39
  go_wp2_with fail
  have B0 : Hid (Below w.heap.size w (w.alloc (.cells #[.int .i64 i] 3))) := (Below.refl _ w).alloc (Nat.le_refl _) _
  have K1 : Hid (Whl (w.alloc (.cells #[.int .i64 i] 3)) w.heap.size 3 #[.int .i64 i]) := Whl.here w _ _
  generalize w.alloc (.cells #[.int .i64 i] 3) = w0 at B0 K1 ⊢
  have HI := hide (IndexFunc_st 95 #[.pointer (some ⟨w.heap.size, 0, none⟩)] (fun s => s.id == i) (enters_of Try.func95 (by kernel_rfl) rfl) A n c w0.heap.size xs w0 (rec_clo _ i w0 ⟨(unhide K1).lt, (unhide K1).cell 0⟩) (unhide HR _ (unhide B0)) (Nat.le_refl _) hn)
  obtain ⟨ix, hix⟩ : ∃ v, idxB (fun s : St => s.id == i) xs = v := ⟨_, rfl⟩
  rw [hix] at HI
  refine (unhide HI).mono ?_
  rintro e w1 ⟨rfl, hb⟩
  have HB1 := hide (below_next (unhide B0) hb)
  have HIX := hide hix
  clear hb HI K1 B0 hix
  have HGS := hide (unhide HG w1 (unhide HB1))
  have HR1 := hide (unhide HR w1 (unhide HB1))
  clear HG
  rcases h1 : stsB xs with _ | _
  · have HRR : Hid (recR xs i g u = ([], false)) := by unfold Hid recR; rw [h1]; rfl
    rw [h1] at HGS
    clear HR HS
    clear HIX
    go_wp2_with fail
    refine (unhide HGS).mono ?_
    rintro e w2 ⟨rfl, hb⟩
    have HB2 := hide (below_next (unhide HB1) hb)
    clear hb
    go_wp2_with fail
    go_ret2
    exact ⟨none, 0, 0, by rw [unhide HRR]; rfl, by rw [unhide HRR]; exact OwnS.nil _ _, unhide HB2⟩
  · rw [h1] at HGS
    rcases hf : xs.findIdx? (fun s => s.id == i) with _ | k
    · have HRR : Hid (recR xs i g u = ([], false)) := by unfold Hid recR; rw [h1, if_pos rfl, hf]
      have hix : ix = -1 := by rw [← unhide HIX]; unfold idxB; rw [hf]
      subst hix
      clear hf HS HIX
      go_wp2_with fail
      refine (unhide HGS).mono ?_
      rintro e w2 ⟨rfl, hb⟩
      have HB2 := hide (below_next (unhide HB1) hb)
      clear hb
      go_wp2_with fail
      go_ret2
      exact ⟨none, 0, 0, by rw [unhide HRR]; rfl, by rw [unhide HRR]; exact OwnS.nil _ _, unhide HB2⟩
    · have hk : k < n := by have := (List.findIdx?_eq_some_iff_getElem.1 hf).1; have := unhide HL; omega
      have HRR : Hid (recR xs i g u = if fitB xs i g u k = true then (newS xs g u k, true) else ([], false)) := by unfold Hid recR; rw [h1, if_pos rfl, hf]
      obtain ⟨ad, s, rfl, hbx, hx, hrow⟩ := (unhide HR1).get hk
      have HSA := hide (stAt_of (unhide hx))
      have HID : Hid (s.id = i) := by
        have h9 := (List.findIdx?_eq_some_iff_getElem.1 hf)
        obtain ⟨h8, h7, _⟩ := h9
        have h6 := (List.getElem?_eq_some_iff.1 (unhide hx)).2
        rw [h6] at h7
        simpa [Hid] using h7
      have HC7 := hide hrow.c7
      have l1 : (k : Int) < (n : Int) := by omega
      have l2 : (0 : Int) ≤ (k : Int) := by omega
      have l3 : ¬ (k : Int) < 0 := by omega
      have hix : ix = (k : Int) := by rw [← unhide HIX]; unfold idxB; rw [hf]
      subst hix
      clear hf hrow hx HIX
      by_cases hu : u < s.ut
      · have HR2 : Hid (recR xs i g u = ([], false)) := by
          have h9 : fitB xs i g u k = false := by unfold fitB; rw [unhide HSA]; simp; intro _ h; omega
          unfold Hid
          rw [unhide HRR, h9]; rfl
        clear HRR HSA HID HS
        go_wp2_with fail
        refine (unhide HGS).mono ?_
        rintro e w2 ⟨rfl, hb⟩
        have HB2 := hide (below_next (unhide HB1) hb)
        have q7 : w2.cell? ⟨(ad.add (k * 8)).block, (ad.add (k * 8)).off + 7, none⟩ = some (.int .i64 s.ut) := (hb.cell (p := ⟨(ad.add (k * 8)).block, (ad.add (k * 8)).off + 7, none⟩) (by show (ad.add (k * 8)).block < _; rw [block_of_add]; exact hbx)).trans (unhide HC7)
        clear hb
        go_wp2_with fail
        go_ret2
        exact ⟨none, 0, 0, by rw [unhide HR2]; rfl, by rw [unhide HR2]; exact OwnS.nil _ _, unhide HB2⟩
      · have HF : Hid (fitB xs i g u k = stsB (newS xs g u k)) := by
          unfold Hid fitB
          rw [unhide HSA, decide_eq_true (unhide HID), decide_eq_true (show s.ut ≤ u by omega), Bool.true_and, Bool.true_and]
        clear HSA HID
        go_wp2_with fail
        refine (unhide HGS).mono ?_
        rintro e w2 ⟨rfl, hb⟩
        have HB2 := hide (below_next (unhide HB1) hb)
        have q7 : w2.cell? ⟨(ad.add (k * 8)).block, (ad.add (k * 8)).off + 7, none⟩ = some (.int .i64 s.ut) := (hb.cell (p := ⟨(ad.add (k * 8)).block, (ad.add (k * 8)).off + 7, none⟩) (by show (ad.add (k * 8)).block < _; rw [block_of_add]; exact hbx)).trans (unhide HC7)
        clear hb
        have HR2 := hide (unhide HR w2 (unhide HB2))
        clear HR
        go_wp2_with fail
        refine (copyS_any (some ad) n c w2.heap.size xs w2 (unhide HR2) (Nat.le_refl _) hn).mono ?_
        rintro e w3 ⟨A2, n2, c2, rfl, hO, hb⟩
        obtain rfl : n2 = n := by have := hO.len; have := unhide HL; omega
        obtain ⟨b, rfl, hlo, hbl, ⟨v4, c4⟩, ⟨v7, c7⟩, hf, hO2, hg2⟩ := hO.store2 (k := k) (by omega) g u
        have HB3 := hide (below_next (unhide HB2) hb)
        have HO4 := hide hO2
        have HB4 : Hid (Below w.heap.size w ((w3.setCell ⟨b, k * 8 + 4, none⟩ (.int .i64 g)).setCell ⟨b, k * 8 + 7, none⟩ (.int .i64 u))) := (unhide HB3).grown hg2 (unhide HB3).size fun r e => by injection e with e; have := (unhide HB2).size; omega
        have f4 := hf (k * 8 + 4)
        have f7 : (w3.setCell ⟨b, k * 8 + 4, none⟩ (.int .i64 g)).frozen? ⟨b, k * 8 + 7, none⟩ = false := by have := hf (k * 8 + 7); simpa using this
        have d7 : (w3.setCell ⟨b, k * 8 + 4, none⟩ (.int .i64 g)).cell? ⟨b, k * 8 + 7, none⟩ = some v7 := by rw [World.cell?_setCell_other _ _ _ _ (by simp)]; exact c7
        clear hO hb hO2 hg2 hf c7 HC7 HGS HR2 HR1
        have HNS : Hid (∀ x ∈ newS xs g u k, x.nm.size ≤ 9223372036854775807) := by
          intro x hx
          unfold newS at hx
          rcases List.mem_or_eq_of_mem_set hx with h9 | h9
          · exact unhide HS x h9
          · rw [h9]
            show (stAt xs k).nm.size ≤ _
            have hk9 : k < xs.length := by have := unhide HL; omega
            rw [stAt_of (List.getElem?_eq_getElem hk9)]
            exact unhide HS _ (List.getElem_mem _)
        clear HS
        go_wp2_with fail
        have HA := hide (implAre_any (some ⟨b, 0, none⟩) n2 c2 (newS xs g u k) _ (unhide HO4).rs (by omega) (unhide HNS))
        generalize (w3.setCell ⟨b, k * 8 + 4, none⟩ (.int .i64 g)).setCell ⟨b, k * 8 + 7, none⟩ (.int .i64 u) = w4 at *
        rcases h2 : stsB (newS xs g u k) with _ | _
        · rw [h2] at HA
          have HR2 : Hid (recR xs i g u = ([], false)) := by unfold Hid; rw [unhide HRR, unhide HF, h2]; rfl
          refine (unhide HA).mono ?_
          rintro e w5 ⟨rfl, hb⟩
          go_wp2_with fail
          go_ret2
          exact ⟨none, 0, 0, by rw [unhide HR2]; rfl, by rw [unhide HR2]; exact OwnS.nil _ _, below_next (unhide HB4) hb⟩
        · rw [h2] at HA
          have HR2 : Hid (recR xs i g u = (newS xs g u k, true)) := by unfold Hid; rw [unhide HRR, unhide HF, h2]; rfl
          refine (unhide HA).mono ?_
          rintro e w5 ⟨rfl, hb⟩
          go_wp2_with fail
          go_ret2
          exact ⟨_, n2, c2, by rw [unhide HR2]; rfl, by rw [unhide HR2]; exact ((unhide HO4).below hb (Nat.le_refl _)).less (by have := (unhide HB2).size; omega), below_next (unhide HB4) hb⟩
theorem rec_short (xs : List St) (i g u : Int) : (recR xs i g u).1.length ≤ 2097152 := by
  have h9 := recR_len xs i g u
  rcases h1 : stsB xs with _ | _
  · have e : recR xs i g u = ([], false) := by unfold recR; rw [h1]; rfl
    rw [e]; simp
  · unfold stsB lstB at h1
    rw [Bool.and_eq_true, Bool.and_eq_true] at h1
    have := of_decide_eq_true h1.1.2
    omega
theorem newS_names {xs : List St} {g u : Int} {k : Nat} (hk : k < xs.length) (hs : ∀ x ∈ xs, x.nm.size ≤ 9223372036854775807) : ∀ x ∈ newS xs g u k, x.nm.size ≤ 9223372036854775807 := by
  intro x hx
  unfold newS at hx
  rcases List.mem_or_eq_of_mem_set hx with h9 | h9
  · exact hs x h9
  · rw [h9]
    show (stAt xs k).nm.size ≤ _
    rw [stAt_of (List.getElem?_eq_getElem hk)]
    exact hs _ (List.getElem_mem _)
theorem fit_not {xs : List St} {i g u : Int} {k : Nat} (h : ∀ j, j < k → fitB xs i g u j = false) (hk : fitB xs i g u k = false) : ∀ j, j < k + 1 → fitB xs i g u j = false := fun j hj => by
  rcases Nat.lt_or_ge j k with h9 | h9
  · exact h j h9
  · obtain rfl : j = k := by omega
    exact hk
set_option maxHeartbeats 4000000 in
set_option maxRecDepth 100000 in
theorem specRec_any (A : Option Addr) (n c : Nat) (xs : List St) (i g u : Int) (w : World) (hr : RS w w.heap.size A n xs) (hn : n ≤ 2097152) (hs : ∀ x ∈ xs, x.nm.size ≤ 9223372036854775807) :
    Calls Try.prog 38 #[.slice A n c, .int .i64 i, .int .i64 g, .int .i64 u] w (RetSB w (recR xs i g u).1 (recR xs i g u).2) := by
  have HG := hide (l3Good_any A n c xs w hr (by omega) hs)
  have HR := hide (fun (W : World) (hb : Below w.heap.size w W) => (hr.below hb).more hb.size)
  have HL := hide hr.len
  have HS := hide hs
  clear hr hs
  go_enter Try.func38, Try.ntmps38
  go_wp2_with fail
  rcases h1 : stsB xs with _ | _
  · have HRR : Hid (recR xs i g u = ([], false)) := by unfold Hid recR; rw [h1]; rfl
    rw [h1] at HG
    refine (unhide HG).mono ?_
    rintro e w1 ⟨rfl, hb⟩
    have HB1 := hide hb
    clear hb HG
    go_wp2_with fail
    go_ret2
    exact ⟨_, 0, 0, by rw [unhide HRR]; rfl, by rw [unhide HRR]; exact OwnS.empty _ (unhide HB1).size, (unhide HB1).alloc (unhide HB1).size _⟩
  · rw [h1] at HG
    have HST := hide h1
    clear h1
    refine (unhide HG).mono ?_
    rintro e w1 ⟨rfl, hb⟩
    have HB1 := hide hb
    clear hb HG
    go_wp2_with fail
    go_loopw [10] (fun q wr => ∃ k : Nat, k ≤ n ∧ q = .int .i64 k ∧ Hid (∀ j, j < k → fitB xs i g u j = false) ∧ Hid (Below w.heap.size w wr)) (fun q _ => n - (intOf q).toNat)
    case atStart => exact ⟨0, Nat.zero_le _, rfl, (fun j hj => by omega), HB1⟩
    case round =>
      obtain ⟨k, hk, rfl, hF, hB⟩ := hrel
      clear HB1
      by_cases hlt : k < n
      · obtain ⟨ad, s, rfl, hbx, hx, hrow⟩ := (unhide HR _ (unhide hB)).get hlt
        have HSA := hide (stAt_of (unhide hx))
        obtain ⟨c0, c1, c2, c3, c4, c5, c6, c7⟩ := hrow
        have l1 : (k : Int) < (n : Int) := by omega
        have l2 : (0 : Int) ≤ (k : Int) := by omega
        clear hx
        by_cases hid : s.id = i
        · by_cases hut : s.ut ≤ u
          · have HFT : Hid (fitB xs i g u k = stsB (newS xs g u k)) := by
              unfold Hid fitB
              rw [unhide HSA, decide_eq_true hid, decide_eq_true hut, Bool.true_and, Bool.true_and]
            have HNE : Hid (newS xs g u k = xs.set k { s with gn := g, ut := u }) := by unfold Hid newS; rw [unhide HSA]
            subst hid
            clear HSA
            have hbl := (unhide hB).size
            have KS := hide (Whl.here wr 26 #[.int .i64 s.id, .string s.nm, .int .i64 s.x, .int .i64 s.y, .int .i64 s.gn, .int .i64 s.lw, .int .i64 s.hg, .int .i64 s.ut])
            have HB2 := hide ((unhide hB).alloc hbl (.cells #[.int .i64 s.id, .string s.nm, .int .i64 s.x, .int .i64 s.y, .int .i64 s.gn, .int .i64 s.lw, .int .i64 s.hg, .int .i64 s.ut] 26))
            have HR2 := hide (unhide HR _ (unhide HB2))
            have HE : Hid (OwnS ((wr.alloc (.cells #[.int .i64 s.id, .string s.nm, .int .i64 s.x, .int .i64 s.y, .int .i64 s.gn, .int .i64 s.lw, .int .i64 s.hg, .int .i64 s.ut] 26)).alloc (.cells #[] 26)) (wr.alloc (.cells #[.int .i64 s.id, .string s.nm, .int .i64 s.x, .int .i64 s.y, .int .i64 s.gn, .int .i64 s.lw, .int .i64 s.hg, .int .i64 s.ut] 26)).heap.size (some ⟨wr.heap.size + 1, 0, none⟩) 0 0 []) := by
              have h9 := OwnS.empty (lo := (wr.alloc (.cells #[.int .i64 s.id, .string s.nm, .int .i64 s.x, .int .i64 s.y, .int .i64 s.gn, .int .i64 s.lw, .int .i64 s.hg, .int .i64 s.ut] 26)).heap.size) (wr.alloc (.cells #[.int .i64 s.id, .string s.nm, .int .i64 s.x, .int .i64 s.y, .int .i64 s.gn, .int .i64 s.lw, .int .i64 s.hg, .int .i64 s.ut] 26)) (Nat.le_refl _)
              unfold Hid
              simpa using h9
            go_upto_region 11 with (at_builtin; go_must (refine append_sts _ rfl _ _ rfl (wr.alloc (.cells #[.int .i64 s.id, .string s.nm, .int .i64 s.x, .int .i64 s.y, .int .i64 s.gn, .int .i64 s.lw, .int .i64 s.hg, .int .i64 s.ut] 26)) _ 0 0 [] rfl (unhide HE) ((Below.refl _ _).alloc (Nat.le_refl _) _) _ n c _ xs rfl ((unhide HR2).alloc (Nat.le_refl _) _) (by omega) ?_); intro A2 c2' w2 hO2 hb2; have HO2 := hide hO2; have K2 := hide ((unhide KS).below hb2); have HB3 := hide (below_next (unhide HB2) hb2); clear hO2 hb2; have d4 := (unhide K2).cell 4; have d7 := (unhide K2).cell 7; have f4 := (unhide K2).frozen 4; have f7 := (unhide K2).frozen 7)
            have hsz : wr.heap.size < (wr.alloc (.cells #[.int .i64 s.id, .string s.nm, .int .i64 s.x, .int .i64 s.y, .int .i64 s.gn, .int .i64 s.lw, .int .i64 s.hg, .int .i64 s.ut] 26)).heap.size := by simp
            have K3 : Hid (Whl ((w2.setCell ⟨wr.heap.size, 4, none⟩ (.int .i64 g)).setCell ⟨wr.heap.size, 7, none⟩ (.int .i64 u)) wr.heap.size 26 #[.int .i64 s.id, .string s.nm, .int .i64 s.x, .int .i64 s.y, .int .i64 g, .int .i64 s.lw, .int .i64 s.hg, .int .i64 u]) := ((unhide K2).store 4 _).store 7 _
            have HO3 : Hid (OwnS ((w2.setCell ⟨wr.heap.size, 4, none⟩ (.int .i64 g)).setCell ⟨wr.heap.size, 7, none⟩ (.int .i64 u)) (wr.heap.size + 1) A2 n c2' xs) := by
              have h9 := ((unhide HO2).setB (a := ⟨wr.heap.size, 4, none⟩) hsz (.int .i64 g)).setB (a := ⟨wr.heap.size, 7, none⟩) hsz (.int .i64 u)
              unfold Hid
              simpa using h9
            have HB4 : Hid (Below w.heap.size w ((w2.setCell ⟨wr.heap.size, 4, none⟩ (.int .i64 g)).setCell ⟨wr.heap.size, 7, none⟩ (.int .i64 u))) := ((unhide HB3).setCell (p := ⟨wr.heap.size, 4, none⟩) hbl _).setCell (p := ⟨wr.heap.size, 7, none⟩) hbl _
            clear K2 HO2 HB3 d4 d7 f4 f7
            generalize (w2.setCell ⟨wr.heap.size, 4, none⟩ (.int .i64 g)).setCell ⟨wr.heap.size, 7, none⟩ (.int .i64 u) = w3 at *
            obtain ⟨gb, rfl, hgb, hgb2, ⟨d0, d1, d2, d3, d4, d5, d6, d7⟩, hfz, hO4, hg4⟩ := (unhide HO3).store (k := k) hlt { s with gn := g, ut := u }
            have HO4 := hide hO4
            have HB5 := hide (put8_below (k := k) { s with gn := g, ut := u } (unhide HB4) (show w.heap.size ≤ gb by omega))
            have e0 : w3.cell? ⟨wr.heap.size, 0, none⟩ = some (.int .i64 s.id) := (unhide K3).cell 0
            have e1 : w3.cell? ⟨wr.heap.size, 1, none⟩ = some (.string s.nm) := (unhide K3).cell 1
            have e2 : w3.cell? ⟨wr.heap.size, 2, none⟩ = some (.int .i64 s.x) := (unhide K3).cell 2
            have e3 : w3.cell? ⟨wr.heap.size, 3, none⟩ = some (.int .i64 s.y) := (unhide K3).cell 3
            have e4 : w3.cell? ⟨wr.heap.size, 4, none⟩ = some (.int .i64 g) := (unhide K3).cell 4
            have e5 : w3.cell? ⟨wr.heap.size, 5, none⟩ = some (.int .i64 s.lw) := (unhide K3).cell 5
            have e6 : w3.cell? ⟨wr.heap.size, 6, none⟩ = some (.int .i64 s.hg) := (unhide K3).cell 6
            have e7 : w3.cell? ⟨wr.heap.size, 7, none⟩ = some (.int .i64 u) := (unhide K3).cell 7
            have f0 := hfz (k * 8)
            have f1 := hfz (k * 8 + 1)
            have f2 := hfz (k * 8 + 2)
            have f3 := hfz (k * 8 + 3)
            have f4 := hfz (k * 8 + 4)
            have f5 := hfz (k * 8 + 5)
            have f6 := hfz (k * 8 + 6)
            have f7 := hfz (k * 8 + 7)
            have HNS : Hid (∀ x ∈ xs.set k { s with gn := g, ut := u }, x.nm.size ≤ 9223372036854775807) := by
              have h9 := newS_names (g := g) (u := u) (by have := unhide HL; omega) (unhide HS) (k := k)
              rw [unhide HNE] at h9
              exact h9
            have HA := hide (l3Good_any (some ⟨gb, 0, none⟩) n c2' (xs.set k { s with gn := g, ut := u }) (put8 w3 gb k { s with gn := g, ut := u }) (unhide HO4).rs (by omega) (unhide HNS))
            rw [← unhide HNE] at HA HO4
            clear hO4 hg4 hfz K3 HO3 HB4 HNS HNE hsz HR2 KS HB2
            go_wp2_with fail
            rcases h2 : stsB (newS xs g u k) with _ | _
            · rw [h2] at HA HFT
              have HF2 := hide (fit_not (unhide hF) (unhide HFT))
              refine (unhide HA).mono ?_
              rintro e w5 ⟨rfl, hb⟩
              have HB6 := hide (below_next (unhide HB5) hb)
              clear hb HA HO4 HB5
              go_wp2_with fail
              go_roundw
              case rel => exact ⟨k + 1, by omega, by go_num, HF2, HB6⟩
              case measure => simp [intOf]; omega
            · rw [h2] at HA HFT
              have HRR : Hid (recR xs s.id g u = (newS xs g u k, true)) := rec_hit (unhide HST) (by have := unhide HL; omega) (unhide HFT)
              refine (unhide HA).mono ?_
              rintro e w5 ⟨rfl, hb⟩
              have HB6 := hide (below_next (unhide HB5) hb)
              have HO6 := hide ((unhide HO4).below hb (Nat.le_refl _))
              clear hb HA HO4 HB5
              go_wp2_with fail
              go_ret2
              exact ⟨_, n, c2', by rw [unhide HRR]; rfl, by rw [unhide HRR]; exact (unhide HO6).less (by omega), unhide HB6⟩
          · have HF2 := hide (fit_not (unhide hF) (show fitB xs i g u k = false by unfold fitB; rw [unhide HSA, decide_eq_false hut]; simp))
            have hut2 : u < s.ut := by omega
            have t1 : (s.id == i) = true := by simpa using hid
            clear HSA hut
            go_wp2_with fail
            go_roundw
            case rel => exact ⟨k + 1, by omega, by go_num, HF2, (unhide hB).alloc (unhide hB).size _⟩
            case measure => simp [intOf]; omega
        · have HF2 := hide (fit_not (unhide hF) (show fitB xs i g u k = false by unfold fitB; rw [unhide HSA, decide_eq_false hid]; simp))
          have t1 : (s.id == i) = false := by simpa using hid
          clear HSA hid
          go_wp2_with fail
          go_roundw
          case rel => exact ⟨k + 1, by omega, by go_num, HF2, (unhide hB).alloc (unhide hB).size _⟩
          case measure => simp [intOf]; omega
      · obtain rfl : k = n := by omega
        have HRR : Hid (recR xs i g u = ([], false)) := rec_miss fun j hj => unhide hF j (by have := unhide HL; omega)
        have l1 : ¬ (k : Int) < (k : Int) := by omega
        clear hF
        go_wp2_with fail
        go_ret2
        exact ⟨_, 0, 0, by rw [unhide HRR]; rfl, by rw [unhide HRR]; exact OwnS.empty _ (unhide hB).size, (unhide hB).alloc (unhide hB).size _⟩
end Go.Proofs.Ytihkocplgciifaa
