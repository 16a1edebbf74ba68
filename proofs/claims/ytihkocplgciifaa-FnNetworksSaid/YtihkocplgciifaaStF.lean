/- Chapter 3, the walks: numbers of stations, stations for which a condition holds. (By gen_stF.py.) -/
import Derived.Test.YtihkocplgciifaaProg
import Derived.Test.YtihkocplgciifaaStS
import Derived.Test.YtihkocplgciifaaDif
import Derived.Test.YtihkocplgciifaaInts
namespace Go.Proofs.Ytihkocplgciifaa
open Go.RowKit

/-- 'out = append(out, s)' at fresh stations, the new one in eight new cells -/
theorem append_st (w : World) {ops : Array Oper} {rest : List Oper} {o : Oper} {a : Act} {Q : Exit → Act → World → Prop} (hgd : o.guard = none) (s x : Operand)
    (ho : o.op = .call { callee := .builtin .append, args := #[s, x], argTypes := #[32, 32] })
    (w0 : World) (A : Option Addr) (n c : Nat) (xs : List St) (hs : a.eval s = .slice A n c) (hown : OwnS w w0.heap.size A n c xs) (hb : Below w0.heap.size w0 w)
    (ad : Addr) (st : St) (hx : a.eval x = .slice (some ad) 1 1) (hc : Row8 w ad st) (hn : n ≤ 1000000000)
    (h : ∀ A' c' w', OwnS w' w0.heap.size A' (n + 1) c' (xs ++ [st]) → Below w0.heap.size w0 w' → wpList Try.prog ops Q rest (a.put o.dst (.slice A' (n + 1) c')) w') : wpList Try.prog ops Q (o :: rest) a w := by
  obtain ⟨i0, hi, hz0, hz1, hz2⟩ := info_parts info_Station
  have hr : Reads w (ad.block + 1) 8 (some ad) 1 (cS [st]) := ⟨by rw [cS_length]; simp, fun _ => ⟨ad, rfl, by omega, fun j u hj => by
    match j, hj with
    | 0, hj => simp [cS, fS] at hj; subst hj; exact hc.c0
    | 1, hj => simp [cS, fS] at hj; subst hj; rw [add_lit' _ _ (by omega)]; exact hc.c1
    | 2, hj => simp [cS, fS] at hj; subst hj; rw [add_lit' _ _ (by omega)]; exact hc.c2
    | 3, hj => simp [cS, fS] at hj; subst hj; rw [add_lit' _ _ (by omega)]; exact hc.c3
    | 4, hj => simp [cS, fS] at hj; subst hj; rw [add_lit' _ _ (by omega)]; exact hc.c4
    | 5, hj => simp [cS, fS] at hj; subst hj; rw [add_lit' _ _ (by omega)]; exact hc.c5
    | 6, hj => simp [cS, fS] at hj; subst hj; rw [add_lit' _ _ (by omega)]; exact hc.c6
    | 7, hj => simp [cS, fS] at hj; subst hj; rw [add_lit' _ _ (by omega)]; exact hc.c7
    | j + 8, hj => simp [cS, fS] at hj⟩⟩
  exact wpList_append_many w hgd s x 32 ho w0.heap.size 26 i0 (.agg #[.int .i64 0, .string ByteArray.empty, .int .i64 0, .int .i64 0, .int .i64 0, .int .i64 0, .int .i64 0, .int .i64 0]) 8 72 Try.underlying32 hi hz0 hz1 hz2 rfl (by decide) A n c (cS xs) hs hown _ (some ad) 1 1 _ hx hr (cS_one [st]) (by unfold maxLen; omega) (by omega) hb.size
    fun A' c' w' h2 h3 _ => h A' c' w' (by unfold OwnS; rw [cS_append]; exact h2) (hown.grow hb (Nat.le_refl _) hb.size h3)

/-- the numbers of stations -/
def idsI (xs : List St) : List Int := xs.map (·.id)
theorem ids_step {xs : List St} {k : Nat} {s : St} (h : xs[k]? = some s) : idsI (xs.take (k + 1)) = idsI (xs.take k) ++ [s.id] := by
  unfold idsI
  rw [List.take_add_one, h, List.map_append]; rfl
set_option maxHeartbeats 1000000 in
set_option maxRecDepth 100000 in
theorem idsOf_any (A : Option Addr) (n c L : Nat) (xs : List St) (w : World) (hr : RS w L A n xs) (hL : L ≤ w.heap.size) (hn : n ≤ 2097152) :
    Calls Try.prog 86 #[.slice A n c] w (RetI w (idsI xs)) := by
  have HR := hide (hr.more hL)
  have HL := hide hr.len
  clear hr
  go_enter Try.func86, Try.ntmps86
  go_wp2
  go_loopw [3, 9] (fun v i wr => ∃ (k : Nat) (A' : Option Addr) (c' : Nat), k ≤ n ∧ i = .int .i64 k ∧ v = .slice A' k c' ∧ Hid (OwnI wr w.heap.size A' k c' (idsI (xs.take k))) ∧ Hid (Below w.heap.size w wr)) (fun _ i _ => n - (intOf i).toNat)
  case atStart => exact ⟨0, _, _, Nat.zero_le _, rfl, rfl, OwnI.empty _ (Nat.le_refl _), (Below.refl _ _).alloc (Nat.le_refl _) _⟩
  case round =>
    obtain ⟨k, A', c', hk, rfl, rfl, hO, hB⟩ := hrel
    by_cases hlt : k < n
    · obtain ⟨ad, s, rfl, hbx, hx, hrow⟩ := ((unhide HR).below (unhide hB)).get hlt
      obtain ⟨c0, c1, c2, c3, c4, c5, c6, c7⟩ := hrow
      have HI := hide (ids_step (unhide hx))
      have l1 : (k : Int) < (n : Int) := by omega
      have l2 : (0 : Int) ≤ (k : Int) := by omega
      clear hx
      go_wp2_with (at_builtin; refine append_int _ rfl _ _ rfl w A' k c' _ rfl (OwnI.alloc (OwnI.alloc (unhide hO) _) _) (((unhide hB).alloc (unhide hB).size _).alloc (by have := (unhide hB).size; simp; omega) _) _ s.id rfl (by first | exact cellNew _ _ _ | (simp)) (by omega) ?_; intro A2 c2 w2 hO2 hB2)
      rw [← unhide HI] at hO2
      have HO2 := hide hO2
      have HB2 := hide hB2
      clear hO2 hB2 hO hB HI
      go_wp2_with fail
      go_roundw
      case rel => exact ⟨k + 1, A2, c2, by omega, by go_num, rfl, HO2, HB2⟩
      case measure => simp [intOf]; omega
    · obtain rfl : k = n := by omega
      go_wp2_with fail
      go_ret
      have e : xs.take k = xs := List.take_of_length_le (by rw [unhide HL]; exact Nat.le_refl _)
      rw [e] at hO
      exact ⟨A', k, c', rfl, unhide hO, unhide hB⟩


def seeB (f : Int) (s : St) : Bool := inB f s.lw s.hg
theorem see_clo (p : Addr) (f : Int) (s : St) (w : World) (h : (p.block < w.heap.size ∧ w.cell? p = some (.int .i64 f))) : Calls Try.prog 91 #[.agg #[.int .i64 s.id, .string s.nm, .int .i64 s.x, .int .i64 s.y, .int .i64 s.gn, .int .i64 s.lw, .int .i64 s.hg, .int .i64 s.ut], .pointer (some p)] w fun e w' => e = .returned (.bool (seeB f s)) ∧ Below w.heap.size w w' := by
  obtain ⟨hb, hc⟩ := h
  have hd := fun o : Obj => (World.cell?_alloc_lt w o p hb).trans hc
  go_enter Try.func91, Try.ntmps91
  go_wp2_with (go_at_call 63; refine (in_any _ _ _ _).mono ?_; rintro e w' ⟨rfl, rfl⟩)
  go_ret
  exact ⟨rfl, (Below.refl _ _).alloc (Nat.le_refl _) _⟩
set_option maxHeartbeats 1000000 in
set_option maxRecDepth 100000 in
theorem filter_see (p : Addr) (f : Int) (A : Option Addr) (n c L : Nat) (xs : List St) (w : World) (hr : RS w L A n xs) (hL : L ≤ w.heap.size) (hn : n ≤ 2097152) (h_p : p.block < w.heap.size ∧ w.cell? p = some (.int .i64 f)) :
    Calls Try.prog 90 #[.slice A n c, .func (.func 91) #[] #[.pointer (some p)]] w (RetS w (xs.filter (seeB f))) := by
  have HR := hide (hr.more hL)
  have HL := hide hr.len
  have HCap := hide (fun (W : World) (hb : Below w.heap.size w W) => (⟨Nat.lt_of_lt_of_le h_p.1 hb.size, (hb.cell h_p.1).trans h_p.2⟩ : p.block < W.heap.size ∧ W.cell? p = some (.int .i64 f)))
  clear hr h_p
  go_enter Try.func90, Try.ntmps90
  go_wp2
  go_loopw [5, 11] (fun v i wr => ∃ (k m : Nat) (A' : Option Addr) (c' : Nat), k ≤ n ∧ m ≤ k ∧ i = .int .i64 k ∧ v = .slice A' m c' ∧ Hid (OwnS wr w.heap.size A' m c' ((xs.take k).filter (seeB f))) ∧ Hid (Below w.heap.size w wr)) (fun _ i _ => n - (intOf i).toNat)
  case atStart => exact ⟨0, 0, _, _, Nat.zero_le _, Nat.le_refl _, rfl, rfl, OwnS.empty _ (Nat.le_refl _), (Below.refl _ _).alloc (Nat.le_refl _) _⟩
  case round =>
    obtain ⟨k, m, A', c', hk, hmk, rfl, rfl, hO, hB⟩ := hrel
    by_cases hlt : k < n
    · obtain ⟨ad, s, rfl, hbx, hx, hrow⟩ := ((unhide HR).below (unhide hB)).get hlt
      obtain ⟨c0, c1, c2, c3, c4, c5, c6, c7⟩ := hrow
      have HB2 : Hid (Below w.heap.size w (wr.alloc (.cells #[.int .i64 s.id, .string s.nm, .int .i64 s.x, .int .i64 s.y, .int .i64 s.gn, .int .i64 s.lw, .int .i64 s.hg, .int .i64 s.ut] 26))) := (unhide hB).alloc (unhide hB).size _
      have HC := hide (fun W h => see_clo p f s W h)
      have HH := hide (Row8.here wr s)
      have HF : Hid ((xs.take (k + 1)).filter (seeB f) = (xs.take k).filter (seeB f) ++ if seeB f s = true then [s] else []) := by
        unfold Hid
        rw [List.take_add_one, unhide hx, List.filter_append]
        simp only [Option.toList_some, List.filter_cons, List.filter_nil]
      have l1 : (k : Int) < (n : Int) := by omega
      have l2 : (0 : Int) ≤ (k : Int) := by omega
      clear hx
      rcases h1 : seeB f s with _ | _
      · rw [h1] at HF HC
        rw [if_neg (by simp), List.append_nil] at HF
        go_wp2_with fail
        refine (unhide HC _ (unhide HCap _ (unhide HB2))).mono ?_
        rintro e w1 ⟨rfl, hb⟩
        have HO1 : Hid (OwnS w1 w.heap.size A' m c' ((xs.take (k + 1)).filter (seeB f))) := by rw [unhide HF]; exact ((unhide hO).alloc _).below hb (Nat.le_refl _)
        have HB1 := hide ((unhide HB2).trans (hb.mono (unhide HB2).size))
        clear hb
        go_wp2_with fail
        go_roundw
        case rel => exact ⟨k + 1, m, A', c', by omega, by omega, by go_num, rfl, HO1, HB1⟩
        case measure => simp [intOf]; omega
      · rw [h1] at HF HC
        rw [if_pos rfl] at HF
        go_wp2_with fail
        refine (unhide HC _ (unhide HCap _ (unhide HB2))).mono ?_
        rintro e w1 ⟨rfl, hb⟩
        have HO1 := hide (((unhide hO).alloc (.cells #[.int .i64 s.id, .string s.nm, .int .i64 s.x, .int .i64 s.y, .int .i64 s.gn, .int .i64 s.lw, .int .i64 s.hg, .int .i64 s.ut] 26)).below hb (Nat.le_refl _))
        have HB1 := hide ((unhide HB2).trans (hb.mono (unhide HB2).size))
        have HR8 := (unhide HH).below hb (by simp)
        obtain ⟨e0, e1, e2, e3, e4, e5, e6, e7⟩ := HR8
        clear hb
        go_wp2_with (at_builtin; refine append_st _ rfl _ _ rfl w A' m c' _ rfl ((unhide HO1).alloc _) ((unhide HB1).alloc (unhide HB1).size _) ⟨w1.heap.size, 0, none⟩ s rfl (Row8.here w1 s) (by omega) ?_; intro A2 c2 w2 hO2 hB2)
        rw [← unhide HF] at hO2
        have HO2 := hide hO2
        have HB3 := hide hB2
        clear hO2 hB2 hO hB HF
        go_wp2_with fail
        go_roundw
        case rel => exact ⟨k + 1, m + 1, A2, c2, by omega, by omega, by go_num, rfl, HO2, HB3⟩
        case measure => simp [intOf]; omega
    · obtain rfl : k = n := by omega
      go_wp2_with fail
      go_ret
      have e : xs.take k = xs := List.take_of_length_le (by rw [unhide HL]; exact Nat.le_refl _)
      rw [e] at hO
      exact ⟨A', m, c', rfl, unhide hO, unhide hB⟩

def uncB (t : Int) (s : St) : Bool := decide (s.ut < t)
theorem unc_clo (p : Addr) (t : Int) (s : St) (w : World) (h : (p.block < w.heap.size ∧ w.cell? p = some (.int .i64 t))) : Calls Try.prog 93 #[.agg #[.int .i64 s.id, .string s.nm, .int .i64 s.x, .int .i64 s.y, .int .i64 s.gn, .int .i64 s.lw, .int .i64 s.hg, .int .i64 s.ut], .pointer (some p)] w fun e w' => e = .returned (.bool (uncB t s)) ∧ Below w.heap.size w w' := by
  obtain ⟨hb, hc⟩ := h
  have hd := fun o : Obj => (World.cell?_alloc_lt w o p hb).trans hc
  have er : Hid (uncB t s = decide (s.ut < t)) := rfl
  rcases h1 : decide (s.ut < t) with _ | _
  all_goals
    go_enter Try.func93, Try.ntmps93
    go_wp2
    go_ret
    exact ⟨ret_bool (by rw [unhide er]; first | exact h1.symm | rfl), (Below.refl _ _).alloc (Nat.le_refl _) _⟩
set_option maxHeartbeats 1000000 in
set_option maxRecDepth 100000 in
theorem filter_unc (p : Addr) (t : Int) (A : Option Addr) (n c L : Nat) (xs : List St) (w : World) (hr : RS w L A n xs) (hL : L ≤ w.heap.size) (hn : n ≤ 2097152) (h_p : p.block < w.heap.size ∧ w.cell? p = some (.int .i64 t)) :
    Calls Try.prog 90 #[.slice A n c, .func (.func 93) #[] #[.pointer (some p)]] w (RetS w (xs.filter (uncB t))) := by
  have HR := hide (hr.more hL)
  have HL := hide hr.len
  have HCap := hide (fun (W : World) (hb : Below w.heap.size w W) => (⟨Nat.lt_of_lt_of_le h_p.1 hb.size, (hb.cell h_p.1).trans h_p.2⟩ : p.block < W.heap.size ∧ W.cell? p = some (.int .i64 t)))
  clear hr h_p
  go_enter Try.func90, Try.ntmps90
  go_wp2
  go_loopw [5, 11] (fun v i wr => ∃ (k m : Nat) (A' : Option Addr) (c' : Nat), k ≤ n ∧ m ≤ k ∧ i = .int .i64 k ∧ v = .slice A' m c' ∧ Hid (OwnS wr w.heap.size A' m c' ((xs.take k).filter (uncB t))) ∧ Hid (Below w.heap.size w wr)) (fun _ i _ => n - (intOf i).toNat)
  case atStart => exact ⟨0, 0, _, _, Nat.zero_le _, Nat.le_refl _, rfl, rfl, OwnS.empty _ (Nat.le_refl _), (Below.refl _ _).alloc (Nat.le_refl _) _⟩
  case round =>
    obtain ⟨k, m, A', c', hk, hmk, rfl, rfl, hO, hB⟩ := hrel
    by_cases hlt : k < n
    · obtain ⟨ad, s, rfl, hbx, hx, hrow⟩ := ((unhide HR).below (unhide hB)).get hlt
      obtain ⟨c0, c1, c2, c3, c4, c5, c6, c7⟩ := hrow
      have HB2 : Hid (Below w.heap.size w (wr.alloc (.cells #[.int .i64 s.id, .string s.nm, .int .i64 s.x, .int .i64 s.y, .int .i64 s.gn, .int .i64 s.lw, .int .i64 s.hg, .int .i64 s.ut] 26))) := (unhide hB).alloc (unhide hB).size _
      have HC := hide (fun W h => unc_clo p t s W h)
      have HH := hide (Row8.here wr s)
      have HF : Hid ((xs.take (k + 1)).filter (uncB t) = (xs.take k).filter (uncB t) ++ if uncB t s = true then [s] else []) := by
        unfold Hid
        rw [List.take_add_one, unhide hx, List.filter_append]
        simp only [Option.toList_some, List.filter_cons, List.filter_nil]
      have l1 : (k : Int) < (n : Int) := by omega
      have l2 : (0 : Int) ≤ (k : Int) := by omega
      clear hx
      rcases h1 : uncB t s with _ | _
      · rw [h1] at HF HC
        rw [if_neg (by simp), List.append_nil] at HF
        go_wp2_with fail
        refine (unhide HC _ (unhide HCap _ (unhide HB2))).mono ?_
        rintro e w1 ⟨rfl, hb⟩
        have HO1 : Hid (OwnS w1 w.heap.size A' m c' ((xs.take (k + 1)).filter (uncB t))) := by rw [unhide HF]; exact ((unhide hO).alloc _).below hb (Nat.le_refl _)
        have HB1 := hide ((unhide HB2).trans (hb.mono (unhide HB2).size))
        clear hb
        go_wp2_with fail
        go_roundw
        case rel => exact ⟨k + 1, m, A', c', by omega, by omega, by go_num, rfl, HO1, HB1⟩
        case measure => simp [intOf]; omega
      · rw [h1] at HF HC
        rw [if_pos rfl] at HF
        go_wp2_with fail
        refine (unhide HC _ (unhide HCap _ (unhide HB2))).mono ?_
        rintro e w1 ⟨rfl, hb⟩
        have HO1 := hide (((unhide hO).alloc (.cells #[.int .i64 s.id, .string s.nm, .int .i64 s.x, .int .i64 s.y, .int .i64 s.gn, .int .i64 s.lw, .int .i64 s.hg, .int .i64 s.ut] 26)).below hb (Nat.le_refl _))
        have HB1 := hide ((unhide HB2).trans (hb.mono (unhide HB2).size))
        have HR8 := (unhide HH).below hb (by simp)
        obtain ⟨e0, e1, e2, e3, e4, e5, e6, e7⟩ := HR8
        clear hb
        go_wp2_with (at_builtin; refine append_st _ rfl _ _ rfl w A' m c' _ rfl ((unhide HO1).alloc _) ((unhide HB1).alloc (unhide HB1).size _) ⟨w1.heap.size, 0, none⟩ s rfl (Row8.here w1 s) (by omega) ?_; intro A2 c2 w2 hO2 hB2)
        rw [← unhide HF] at hO2
        have HO2 := hide hO2
        have HB3 := hide hB2
        clear hO2 hB2 hO hB HF
        go_wp2_with fail
        go_roundw
        case rel => exact ⟨k + 1, m + 1, A2, c2, by omega, by omega, by go_num, rfl, HO2, HB3⟩
        case measure => simp [intOf]; omega
    · obtain rfl : k = n := by omega
      go_wp2_with fail
      go_ret
      have e : xs.take k = xs := List.take_of_length_le (by rw [unhide HL]; exact Nat.le_refl _)
      rw [e] at hO
      exact ⟨A', m, c', rfl, unhide hO, unhide hB⟩

def seeR (xs : List St) (f : Int) : List Int × Bool := if (stsB xs && inB f 1 5000) = true then (idsI (xs.filter (seeB f)), true) else ([], false)
theorem see_len (xs : List St) (f : Int) : (seeR xs f).1.length ≤ 2097152 := by
  unfold seeR
  split
  · rename_i h
    rw [Bool.and_eq_true] at h
    have h1 := (stn_of h.1).len
    have h2 := List.length_filter_le (seeB f) xs
    simp only [idsI, List.length_map]
    omega
  · simp
set_option maxHeartbeats 1000000 in
set_option maxRecDepth 100000 in
theorem implStationsSeeing_any (A : Option Addr) (n c : Nat) (xs : List St) (f : Int) (w : World) (hr : RS w w.heap.size A n xs) (hn : n ≤ 2097152) (hs : ∀ x ∈ xs, x.nm.size ≤ 9223372036854775807) :
    Calls Try.prog 35 #[.slice A n c, .int .i64 f] w (RetIB w (seeR xs f).1 (seeR xs f).2) := by
  have HG := hide (fun (W : World) (hb : Below w.heap.size w W) => implAre_any A n c xs W (((unhide (hide hr)).below hb).more hb.size) (by omega) hs)
  have HR := hide hr
  have B0 := hide ((Below.refl _ w).alloc (Nat.le_refl _) (.cells #[.int .i64 f] 3))
  have HC0 := hide (cellNew w (.int .i64 f) 3)
  clear hr
  rcases h1 : stsB xs with _ | _
  · have HRR : Hid (seeR xs f = ([], false)) := by unfold Hid seeR; rw [h1]; rfl
    rw [h1] at HG
    go_enter Try.func35, Try.ntmps35
    go_wp2_with fail
    refine (unhide HG _ (unhide B0)).mono ?_
    rintro e w1 ⟨rfl, hb⟩
    have HB1 := hide ((unhide B0).trans (hb.mono (unhide B0).size))
    clear hb
    go_wp2_with fail
    go_ret2
    rw [unhide HRR]
    exact ⟨none, 0, 0, rfl, OwnI.nil _ _, unhide HB1⟩
  · rw [h1] at HG
    rcases h2 : inB f 1 5000 with _ | _
    · have HRR : Hid (seeR xs f = ([], false)) := by unfold Hid seeR; rw [h1, h2]; rfl
      have HI := hide (fun W => in_any f 1 5000 W)
      rw [h2] at HI
      go_enter Try.func35, Try.ntmps35
      go_wp2_with fail
      refine (unhide HG _ (unhide B0)).mono ?_
      rintro e w1 ⟨rfl, hb⟩
      have HB1 := hide ((unhide B0).trans (hb.mono (unhide B0).size))
      have e0 : w1.cell? ⟨w.heap.size, 0, none⟩ = some (.int .i64 f) := (hb.cell (p := ⟨w.heap.size, 0, none⟩) (by simp)).trans (unhide HC0)
      clear hb
      go_wp2_with fail
      refine (unhide HI _).mono ?_
      rintro e w9 ⟨rfl, rfl⟩
      go_wp2_with fail
      go_ret2
      rw [unhide HRR]
      exact ⟨none, 0, 0, rfl, OwnI.nil _ _, unhide HB1⟩
    · have HRR : Hid (seeR xs f = (idsI (xs.filter (seeB f)), true)) := by unfold Hid seeR; rw [h1, h2]; rfl
      have HI := hide (fun W => in_any f 1 5000 W)
      rw [h2] at HI
      go_enter Try.func35, Try.ntmps35
      go_wp2_with fail
      refine (unhide HG _ (unhide B0)).mono ?_
      rintro e w1 ⟨rfl, hb⟩
      have HB1 := hide ((unhide B0).trans (hb.mono (unhide B0).size))
      have e0 : w1.cell? ⟨w.heap.size, 0, none⟩ = some (.int .i64 f) := (hb.cell (p := ⟨w.heap.size, 0, none⟩) (by simp)).trans (unhide HC0)
      have hz : w.heap.size < w1.heap.size := by have := hb.size; simp at this; omega
      clear hb
      go_wp2_with fail
      refine (unhide HI _).mono ?_
      rintro e w9 ⟨rfl, rfl⟩
      go_wp2_with fail
      refine (filter_see ⟨w.heap.size, 0, none⟩ f A n c _ xs _ ((unhide HR).below (unhide HB1)) (unhide HB1).size hn ⟨hz, e0⟩).mono ?_
      rintro e w2 ⟨A2, n2, c2, rfl, hO, hb⟩
      have hn2 : n2 ≤ 2097152 := by have h8 := hO.len; have h9 := List.length_filter_le (seeB f) xs; have := (unhide HR).len; omega
      have HB2 := hide (below_next (unhide HB1) hb)
      have HO := hide hO
      clear hO hb
      go_wp2_with fail
      refine (idsOf_any A2 n2 c2 _ _ _ (unhide HO).rs (Nat.le_refl _) hn2).mono ?_
      rintro e w3 ⟨A3, n3, c3, rfl, hO3, hb⟩
      have HB3 := hide (below_next (unhide HB2) hb)
      have HO3 := hide (OwnI.less hO3 (unhide HB2).size)
      clear hO3 hb
      go_wp2_with fail
      go_ret2
      rw [unhide HRR]
      exact ⟨A3, n3, c3, rfl, unhide HO3, unhide HB3⟩
set_option maxHeartbeats 2000000 in
set_option maxRecDepth 100000 in
theorem specStationsSeeing_any (A : Option Addr) (n c : Nat) (xs : List St) (f : Int) (w : World) (hr : RS w w.heap.size A n xs) (hn : n ≤ 2097152) (hs : ∀ x ∈ xs, x.nm.size ≤ 9223372036854775807) :
    Calls Try.prog 34 #[.slice A n c, .int .i64 f] w (RetIB w (seeR xs f).1 (seeR xs f).2) := by
  have HG := hide (fun (W : World) (hb : Below w.heap.size w W) => l3Good_any A n c xs W (((unhide (hide hr)).below hb).more hb.size) (by omega) hs)
  have HR := hide hr
  have HL := hide hr.len
  have B0 := hide ((Below.refl _ w).alloc (Nat.le_refl _) (.cells #[] 3))
  have HO0 := hide (OwnI.empty w (Nat.le_refl _))
  clear hr
  rcases h1 : stsB xs with _ | _
  · have HRR : Hid (seeR xs f = ([], false)) := by unfold Hid seeR; rw [h1]; rfl
    rw [h1] at HG
    go_enter Try.func34, Try.ntmps34
    go_wp2_with fail
    refine (unhide HG _ (unhide B0)).mono ?_
    rintro e w1 ⟨rfl, hb⟩
    have HB1 := hide ((unhide B0).trans (hb.mono (unhide B0).size))
    have HO1 := hide ((unhide HO0).below hb (Nat.le_refl _))
    clear hb
    go_wp2_with fail
    go_ret2
    rw [unhide HRR]
    exact ⟨_, 0, 0, rfl, unhide HO1, unhide HB1⟩
  · rw [h1] at HG
    rcases h2 : inB f 1 5000 with _ | _
    · have HRR : Hid (seeR xs f = ([], false)) := by unfold Hid seeR; rw [h1, h2]; rfl
      have HI := hide (fun W => l3Frequency_any f W)
      rw [h2] at HI
      go_enter Try.func34, Try.ntmps34
      go_wp2_with fail
      refine (unhide HG _ (unhide B0)).mono ?_
      rintro e w1 ⟨rfl, hb⟩
      have HB1 := hide ((unhide B0).trans (hb.mono (unhide B0).size))
      have HO1 := hide ((unhide HO0).below hb (Nat.le_refl _))
      clear hb
      go_wp2_with fail
      refine (unhide HI _).mono ?_
      rintro e w9 ⟨rfl, rfl⟩
      go_wp2_with fail
      go_ret2
      rw [unhide HRR]
      exact ⟨_, 0, 0, rfl, unhide HO1, unhide HB1⟩
    · have HRR : Hid (seeR xs f = (idsI (xs.filter (seeB f)), true)) := by unfold Hid seeR; rw [h1, h2]; rfl
      have HI := hide (fun W => l3Frequency_any f W)
      rw [h2] at HI
      go_enter Try.func34, Try.ntmps34
      go_wp2_with fail
      refine (unhide HG _ (unhide B0)).mono ?_
      rintro e w1 ⟨rfl, hb⟩
      have HB1 := hide ((unhide B0).trans (hb.mono (unhide B0).size))
      have HO1 := hide ((unhide HO0).below hb (Nat.le_refl _))
      clear hb
      go_wp2_with fail
      refine (unhide HI _).mono ?_
      rintro e w9 ⟨rfl, rfl⟩
      go_wp2_with fail
      go_loopw [6, 7] (fun v i wr => ∃ (k m : Nat) (A' : Option Addr) (c' : Nat), k ≤ n ∧ m ≤ k ∧ i = .int .i64 k ∧ v = .slice A' m c' ∧ Hid (OwnI wr w.heap.size A' m c' (idsI ((xs.take k).filter (seeB f)))) ∧ Hid (Below w.heap.size w wr)) (fun _ i _ => n - (intOf i).toNat)
      case atStart => exact ⟨0, 0, _, _, Nat.zero_le _, Nat.le_refl _, rfl, rfl, HO1, HB1⟩
      case round =>
        obtain ⟨k, m, A', c', hk, hmk, rfl, rfl, hO, hB⟩ := hrel
        by_cases hlt : k < n
        · obtain ⟨ad, s, rfl, hbx, hx, hrow⟩ := ((unhide HR).below (unhide hB)).get hlt
          obtain ⟨c0, c1, c2, c3, c4, c5, c6, c7⟩ := hrow
          have HF : Hid (idsI ((xs.take (k + 1)).filter (seeB f)) = idsI ((xs.take k).filter (seeB f)) ++ if seeB f s = true then [s.id] else []) := by
            unfold Hid
            rw [List.take_add_one, unhide hx, List.filter_append]
            simp only [Option.toList_some, List.filter_cons, List.filter_nil, idsI, List.map_append]
            split <;> rfl
          have l1 : (k : Int) < (n : Int) := by omega
          have l2 : (0 : Int) ≤ (k : Int) := by omega
          clear hx
          rcases h3 : seeB f s with _ | _
          · have HIn := hide (fun W => l1In_any f s.lw s.hg W)
            have h3' : inB f s.lw s.hg = false := h3
            rw [h3'] at HIn
            rw [h3, if_neg (by simp), List.append_nil] at HF
            clear h3 h3'
            go_wp2_with fail
            go_quiet ((go_at_call 75; exact Calls.quiet_of_same ((unhide HIn _).mono fun _ _ ⟨a, b⟩ => ⟨a, b.symm⟩)))
            go_wp2_with fail
            go_roundw
            case rel => exact ⟨k + 1, m, A', c', by omega, by omega, by go_num, rfl, by rw [unhide HF]; exact OwnI.below (unhide hO) (B := wr.heap.size) (below_drewN (Below.refl _ _) _) (Nat.le_refl _), below_drewN (unhide hB) _⟩
            case measure => simp [intOf]; omega
          · have HIn := hide (fun W => l1In_any f s.lw s.hg W)
            have h3' : inB f s.lw s.hg = true := h3
            rw [h3'] at HIn
            rw [h3, if_pos rfl] at HF
            clear h3 h3'
            go_wp2_with fail
            go_quiet ((go_at_call 75; exact Calls.quiet_of_same ((unhide HIn _).mono fun _ _ ⟨a, b⟩ => ⟨a, b.symm⟩)))
            go_wp2_with (at_builtin; refine append_int _ rfl _ _ rfl w A' m c' _ rfl (OwnI.alloc (OwnI.below (unhide hO) (B := wr.heap.size) (below_drewN (Below.refl _ _) _) (Nat.le_refl _)) _) ((below_drewN (unhide hB) _).alloc (unhide hB).size _) _ s.id rfl (by first | exact cellNew _ _ _ | (simp)) (by omega) ?_; intro A2 c2 w2 hO2 hB2)
            rw [← unhide HF] at hO2
            have HO2 := hide hO2
            have HB2 := hide hB2
            clear hO2 hB2 hO hB HF
            go_wp2_with fail
            go_roundw
            case rel => exact ⟨k + 1, m + 1, A2, c2, by omega, by omega, by go_num, rfl, HO2, HB2⟩
            case measure => simp [intOf]; omega
        · obtain rfl : k = n := by omega
          go_wp2_with fail
          go_ret2
          have e : xs.take k = xs := List.take_of_length_le (by rw [unhide HL]; exact Nat.le_refl _)
          rw [e] at hO
          rw [unhide HRR]
          exact ⟨A', m, c', rfl, unhide hO, unhide hB⟩


def uncR (xs : List St) (f : Int) : List Int × Bool := if (stsB xs && inB f 0 1000000) = true then (idsI (xs.filter (uncB f)), true) else ([], false)
theorem unc_len (xs : List St) (f : Int) : (uncR xs f).1.length ≤ 2097152 := by
  unfold uncR
  split
  · rename_i h
    rw [Bool.and_eq_true] at h
    have h1 := (stn_of h.1).len
    have h2 := List.length_filter_le (uncB f) xs
    simp only [idsI, List.length_map]
    omega
  · simp
set_option maxHeartbeats 1000000 in
set_option maxRecDepth 100000 in
theorem implUncalibrated_any (A : Option Addr) (n c : Nat) (xs : List St) (f : Int) (w : World) (hr : RS w w.heap.size A n xs) (hn : n ≤ 2097152) (hs : ∀ x ∈ xs, x.nm.size ≤ 9223372036854775807) :
    Calls Try.prog 37 #[.slice A n c, .int .i64 f] w (RetIB w (uncR xs f).1 (uncR xs f).2) := by
  have HG := hide (fun (W : World) (hb : Below w.heap.size w W) => implAre_any A n c xs W (((unhide (hide hr)).below hb).more hb.size) (by omega) hs)
  have HR := hide hr
  have B0 := hide ((Below.refl _ w).alloc (Nat.le_refl _) (.cells #[.int .i64 f] 3))
  have HC0 := hide (cellNew w (.int .i64 f) 3)
  clear hr
  rcases h1 : stsB xs with _ | _
  · have HRR : Hid (uncR xs f = ([], false)) := by unfold Hid uncR; rw [h1]; rfl
    rw [h1] at HG
    go_enter Try.func37, Try.ntmps37
    go_wp2_with fail
    refine (unhide HG _ (unhide B0)).mono ?_
    rintro e w1 ⟨rfl, hb⟩
    have HB1 := hide ((unhide B0).trans (hb.mono (unhide B0).size))
    clear hb
    go_wp2_with fail
    go_ret2
    rw [unhide HRR]
    exact ⟨none, 0, 0, rfl, OwnI.nil _ _, unhide HB1⟩
  · rw [h1] at HG
    rcases h2 : inB f 0 1000000 with _ | _
    · have HRR : Hid (uncR xs f = ([], false)) := by unfold Hid uncR; rw [h1, h2]; rfl
      have HI := hide (fun W => isTick_any f W)
      rw [h2] at HI
      go_enter Try.func37, Try.ntmps37
      go_wp2_with fail
      refine (unhide HG _ (unhide B0)).mono ?_
      rintro e w1 ⟨rfl, hb⟩
      have HB1 := hide ((unhide B0).trans (hb.mono (unhide B0).size))
      have e0 : w1.cell? ⟨w.heap.size, 0, none⟩ = some (.int .i64 f) := (hb.cell (p := ⟨w.heap.size, 0, none⟩) (by simp)).trans (unhide HC0)
      clear hb
      go_wp2_with fail
      refine (unhide HI _).mono ?_
      rintro e w9 ⟨rfl, rfl⟩
      go_wp2_with fail
      go_ret2
      rw [unhide HRR]
      exact ⟨none, 0, 0, rfl, OwnI.nil _ _, unhide HB1⟩
    · have HRR : Hid (uncR xs f = (idsI (xs.filter (uncB f)), true)) := by unfold Hid uncR; rw [h1, h2]; rfl
      have HI := hide (fun W => isTick_any f W)
      rw [h2] at HI
      go_enter Try.func37, Try.ntmps37
      go_wp2_with fail
      refine (unhide HG _ (unhide B0)).mono ?_
      rintro e w1 ⟨rfl, hb⟩
      have HB1 := hide ((unhide B0).trans (hb.mono (unhide B0).size))
      have e0 : w1.cell? ⟨w.heap.size, 0, none⟩ = some (.int .i64 f) := (hb.cell (p := ⟨w.heap.size, 0, none⟩) (by simp)).trans (unhide HC0)
      have hz : w.heap.size < w1.heap.size := by have := hb.size; simp at this; omega
      clear hb
      go_wp2_with fail
      refine (unhide HI _).mono ?_
      rintro e w9 ⟨rfl, rfl⟩
      go_wp2_with fail
      refine (filter_unc ⟨w.heap.size, 0, none⟩ f A n c _ xs _ ((unhide HR).below (unhide HB1)) (unhide HB1).size hn ⟨hz, e0⟩).mono ?_
      rintro e w2 ⟨A2, n2, c2, rfl, hO, hb⟩
      have hn2 : n2 ≤ 2097152 := by have h8 := hO.len; have h9 := List.length_filter_le (uncB f) xs; have := (unhide HR).len; omega
      have HB2 := hide (below_next (unhide HB1) hb)
      have HO := hide hO
      clear hO hb
      go_wp2_with fail
      refine (idsOf_any A2 n2 c2 _ _ _ (unhide HO).rs (Nat.le_refl _) hn2).mono ?_
      rintro e w3 ⟨A3, n3, c3, rfl, hO3, hb⟩
      have HB3 := hide (below_next (unhide HB2) hb)
      have HO3 := hide (OwnI.less hO3 (unhide HB2).size)
      clear hO3 hb
      go_wp2_with fail
      go_ret2
      rw [unhide HRR]
      exact ⟨A3, n3, c3, rfl, unhide HO3, unhide HB3⟩
set_option maxHeartbeats 2000000 in
set_option maxRecDepth 100000 in
theorem specUncalibrated_any (A : Option Addr) (n c : Nat) (xs : List St) (f : Int) (w : World) (hr : RS w w.heap.size A n xs) (hn : n ≤ 2097152) (hs : ∀ x ∈ xs, x.nm.size ≤ 9223372036854775807) :
    Calls Try.prog 36 #[.slice A n c, .int .i64 f] w (RetIB w (uncR xs f).1 (uncR xs f).2) := by
  have HG := hide (fun (W : World) (hb : Below w.heap.size w W) => l3Good_any A n c xs W (((unhide (hide hr)).below hb).more hb.size) (by omega) hs)
  have HR := hide hr
  have HL := hide hr.len
  have B0 := hide ((Below.refl _ w).alloc (Nat.le_refl _) (.cells #[] 3))
  have HO0 := hide (OwnI.empty w (Nat.le_refl _))
  clear hr
  rcases h1 : stsB xs with _ | _
  · have HRR : Hid (uncR xs f = ([], false)) := by unfold Hid uncR; rw [h1]; rfl
    rw [h1] at HG
    go_enter Try.func36, Try.ntmps36
    go_wp2_with fail
    refine (unhide HG _ (unhide B0)).mono ?_
    rintro e w1 ⟨rfl, hb⟩
    have HB1 := hide ((unhide B0).trans (hb.mono (unhide B0).size))
    have HO1 := hide ((unhide HO0).below hb (Nat.le_refl _))
    clear hb
    go_wp2_with fail
    go_ret2
    rw [unhide HRR]
    exact ⟨_, 0, 0, rfl, unhide HO1, unhide HB1⟩
  · rw [h1] at HG
    rcases h2 : inB f 0 1000000 with _ | _
    · have HRR : Hid (uncR xs f = ([], false)) := by unfold Hid uncR; rw [h1, h2]; rfl
      have HI := hide (fun W => l2Tick_any f W)
      rw [h2] at HI
      go_enter Try.func36, Try.ntmps36
      go_wp2_with fail
      refine (unhide HG _ (unhide B0)).mono ?_
      rintro e w1 ⟨rfl, hb⟩
      have HB1 := hide ((unhide B0).trans (hb.mono (unhide B0).size))
      have HO1 := hide ((unhide HO0).below hb (Nat.le_refl _))
      clear hb
      go_wp2_with fail
      refine (unhide HI _).mono ?_
      rintro e w9 ⟨rfl, rfl⟩
      go_wp2_with fail
      go_ret2
      rw [unhide HRR]
      exact ⟨_, 0, 0, rfl, unhide HO1, unhide HB1⟩
    · have HRR : Hid (uncR xs f = (idsI (xs.filter (uncB f)), true)) := by unfold Hid uncR; rw [h1, h2]; rfl
      have HI := hide (fun W => l2Tick_any f W)
      rw [h2] at HI
      go_enter Try.func36, Try.ntmps36
      go_wp2_with fail
      refine (unhide HG _ (unhide B0)).mono ?_
      rintro e w1 ⟨rfl, hb⟩
      have HB1 := hide ((unhide B0).trans (hb.mono (unhide B0).size))
      have HO1 := hide ((unhide HO0).below hb (Nat.le_refl _))
      clear hb
      go_wp2_with fail
      refine (unhide HI _).mono ?_
      rintro e w9 ⟨rfl, rfl⟩
      go_wp2_with fail
      go_loopw [6, 7] (fun v i wr => ∃ (k m : Nat) (A' : Option Addr) (c' : Nat), k ≤ n ∧ m ≤ k ∧ i = .int .i64 k ∧ v = .slice A' m c' ∧ Hid (OwnI wr w.heap.size A' m c' (idsI ((xs.take k).filter (uncB f)))) ∧ Hid (Below w.heap.size w wr)) (fun _ i _ => n - (intOf i).toNat)
      case atStart => exact ⟨0, 0, _, _, Nat.zero_le _, Nat.le_refl _, rfl, rfl, HO1, HB1⟩
      case round =>
        obtain ⟨k, m, A', c', hk, hmk, rfl, rfl, hO, hB⟩ := hrel
        by_cases hlt : k < n
        · obtain ⟨ad, s, rfl, hbx, hx, hrow⟩ := ((unhide HR).below (unhide hB)).get hlt
          obtain ⟨c0, c1, c2, c3, c4, c5, c6, c7⟩ := hrow
          have HF : Hid (idsI ((xs.take (k + 1)).filter (uncB f)) = idsI ((xs.take k).filter (uncB f)) ++ if uncB f s = true then [s.id] else []) := by
            unfold Hid
            rw [List.take_add_one, unhide hx, List.filter_append]
            simp only [Option.toList_some, List.filter_cons, List.filter_nil, idsI, List.map_append]
            split <;> rfl
          have l1 : (k : Int) < (n : Int) := by omega
          have l2 : (0 : Int) ≤ (k : Int) := by omega
          clear hx
          rcases h3 : uncB f s with _ | _
          · have h3' : decide (s.ut < f) = false := h3
            rw [h3, if_neg (by simp), List.append_nil] at HF
            clear h3
            go_wp2_with fail
            go_roundw
            case rel => exact ⟨k + 1, m, A', c', by omega, by omega, by go_num, rfl, by rw [unhide HF]; exact unhide hO, unhide hB⟩
            case measure => simp [intOf]; omega
          · have h3' : decide (s.ut < f) = true := h3
            rw [h3, if_pos rfl] at HF
            clear h3
            go_wp2_with (at_builtin; refine append_int _ rfl _ _ rfl w A' m c' _ rfl (OwnI.alloc (unhide hO) _) ((unhide hB).alloc (unhide hB).size _) _ s.id rfl (by first | exact cellNew _ _ _ | (simp)) (by omega) ?_; intro A2 c2 w2 hO2 hB2)
            rw [← unhide HF] at hO2
            have HO2 := hide hO2
            have HB2 := hide hB2
            clear hO2 hB2 hO hB HF
            go_wp2_with fail
            go_roundw
            case rel => exact ⟨k + 1, m + 1, A2, c2, by omega, by omega, by go_num, rfl, HO2, HB2⟩
            case measure => simp [intOf]; omega
        · obtain rfl : k = n := by omega
          go_wp2_with fail
          go_ret2
          have e : xs.take k = xs := List.take_of_length_le (by rw [unhide HL]; exact Nat.le_refl _)
          rw [e] at hO
          rw [unhide HRR]
          exact ⟨A', m, c', rfl, unhide hO, unhide hB⟩

end Go.Proofs.Ytihkocplgciifaa
