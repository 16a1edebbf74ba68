/- Chapter 4, the walks: slices.Equal at []int; torn bytes, readable and unpacked samples as they are asked for: the program's and the reference's. -/
import Derived.Test.YtnigieebmjjjjaaProg
import Derived.Test.YtnigieebmjjjjaaPackH
namespace Go.Proofs.Ytnigieebmjjjjaa
open Go.RowKit

theorem Equal_int (A B : Option Addr) (n m c d L M : Nat) (xs ys : List Int) (w : World) (hx : RI w L A n xs) (hy : RI w M B m ys) (hn : n ≤ 9223372036854775807) (hm : m ≤ 9223372036854775807) :
    Calls Try.prog 64 #[.slice A n c, .slice B m d] w fun e w' => e = .returned (.bool (xs == ys)) ∧ Below w.heap.size w w' := by
  have hlx := hx.len
  have hly := hy.len
  by_cases hnm : n = m
  · subst hnm
    have HX := hide hx; have HY := hide hy; have HLX := hide hlx; have HLY := hide hly; clear hx hy hlx hly
    go_enter Try.func64, Try.ntmps64
    go_wp2
    go_loopw [13] (fun i wr => ∃ k : Nat, k ≤ n ∧ i = .int .i64 k ∧ Hid (xs.take k = ys.take k) ∧ Hid (∃ a, wr = w.drewN a)) (fun i _ => n - (intOf i).toNat)
    case atStart => exact ⟨0, Nat.zero_le _, rfl, rfl, 0, rfl⟩
    case round =>
      obtain ⟨k, hk, rfl, hE, a, rfl⟩ := hrel
      by_cases hlt : k < n
      · obtain ⟨ad, x, rfl, _, hx, hc⟩ := (unhide HX).get hlt
        obtain ⟨ae, y, rfl, _, hy, hd⟩ := (unhide HY).get hlt
        by_cases hv : x = y
        · subst hv
          have ht : (x != x) = false := by simp
          have HE2 : Hid (xs.take (k + 1) = ys.take (k + 1)) := by
            unfold Hid
            rw [List.take_add_one, List.take_add_one, unhide hE, unhide hx, unhide hy]
          clear hE hx hy
          go_wp2
          go_quiet (fail)
          go_wp2
          go_roundw
          case rel => exact ⟨k + 1, by omega, by go_num, HE2, _, rfl⟩
          case measure => simp [intOf]; omega
        · have ht : (x != y) = true := by simpa using hv
          have HV : Hid (xs ≠ ys) := by
            intro e
            subst e
            have := (unhide hx).symm.trans (unhide hy)
            exact hv (by simpa using this)
          clear hx hy hE hv
          go_wp2
          go_quiet (fail)
          go_wp2
          go_ret
          exact ⟨by simpa using unhide HV, below_drewN (below_drewN (Below.refl _ _) _) _⟩
      · have e : k = n := by omega
        subst e
        have HV : Hid (xs = ys) := by
          have := unhide hE
          rwa [List.take_of_length_le (by have := unhide HLX; omega), List.take_of_length_le (by have := unhide HLY; omega)] at this
        go_wp2
        go_ret
        exact ⟨by simpa using unhide HV, below_drewN (Below.refl _ _) _⟩
  · have HV : Hid (xs ≠ ys) := by
      intro e
      subst e
      omega
    have ht : ((n : Int) != (m : Int)) = true := by simp; omega
    clear hx hy hlx hly
    go_enter Try.func64, Try.ntmps64
    go_wp2
    go_ret
    exact ⟨by simpa using unhide HV, Below.refl _ _⟩

theorem ownR_cap {w : World} {lo hi k n c : Nat} {E : TypeId} {A : Option Addr} {cs : List Value} (h : OwnR w lo hi E k A n c cs) : n ≤ c := by
  rcases h.1.2 with ⟨hv, h0⟩ | ⟨g, cap, cur, hv, hg, hh, hle, _⟩
  · omega
  · injection hv with _ _ h3
    omega
theorem upI_len (bs : List Int) : (upI bs).1.length ≤ bs.length := by
  have := upI_fst_len bs.length [] 0 bs
  simpa [upI] using this
/-- all bytes are read and all differences taken -/
def unB (bs : List Int) : Bool := bytB bs && (decide ((upI bs).2 = bs.length) && decide ((readI (upI bs).1).length = (upI bs).1.length))
theorem readI_lens (b : Bool) (ds : List Int) : (if b then readI ds else []).length ≤ 2097152 := by
  have := (readI_len ds).1
  split
  · omega
  · simp


set_option maxHeartbeats 1000000 in
theorem specTornAt_any (A : Option Addr) (n c : Nat) (bs : List Int) (w : World) (hr : RI w w.heap.size A n bs) (hn : n ≤ 1048576) :
    Calls Try.prog 30 #[.slice A n c] w (RetNB w (if bytB bs then ((upI bs).2 : Int) else 0) (bytB bs)) := by
  have HA := hide (l4List_any A n c _ bs w hr (by omega))
  have HR := hide hr
  have HL := hide hr.len
  clear hr
  cases h1 : bytB bs
  · go_enter Try.func30, Try.ntmps30
    go_wp2_with (go_at_call 60; refine (unhide HA).mono ?_; rintro e w1 ⟨rfl, rfl⟩)
    go_ret2
    exact ⟨rfl, Below.refl _ _⟩
  · have HC := hide (fun (W : World) (h : RI W W.heap.size A n bs) => l4Read_any A n c bs W h hn (bytB_all h1))
    go_enter Try.func30, Try.ntmps30
    go_wp2_with (first
      | (go_at_call 60; refine (unhide HA).mono ?_; rintro e w1 ⟨rfl, rfl⟩)
      | (go_at_call 61; refine (unhide HC _ (unhide HR)).mono ?_; rintro e w2 ⟨A2, n2, c2, rfl, hO, hB⟩; have HO := hide hO; have HB2 := hide hB; clear hO hB))
    go_ret2
    exact ⟨rfl, unhide HB2⟩


set_option maxHeartbeats 1000000 in
theorem specReadableSamples_any (A : Option Addr) (n c : Nat) (bs : List Int) (w : World) (hr : RI w w.heap.size A n bs) (hn : n ≤ 1048576) :
    Calls Try.prog 32 #[.slice A n c] w (RetIB w (if bytB bs then readI (upI bs).1 else []) (bytB bs)) := by
  have HA := hide (l4List_any A n c _ bs w hr (by omega))
  have HR := hide hr
  have HL := hide hr.len
  clear hr
  have HU := hide (upI_len bs)
  cases h1 : bytB bs
  · go_enter Try.func32, Try.ntmps32
    go_wp2_with (go_at_call 60; refine (unhide HA).mono ?_; rintro e w1 ⟨rfl, rfl⟩)
    go_ret2
    exact ⟨_, _, _, rfl, OwnI.empty _ (Nat.le_refl _), (Below.refl _ _).alloc (Nat.le_refl _) _⟩
  · have HC := hide (fun (W : World) (h : RI W W.heap.size A n bs) => l4Read_any A n c bs W h hn (bytB_all h1))
    go_enter Try.func32, Try.ntmps32
    go_wp2_with (first
      | (go_at_call 60; refine (unhide HA).mono ?_; rintro e w1 ⟨rfl, rfl⟩)
      | (go_at_call 61; refine (unhide HC _ (unhide HR)).mono ?_; rintro e w2 ⟨A2, n2, c2, rfl, hO, hB⟩; have HO := hide hO; have HB2 := hide hB; clear hO hB)
      | (go_at_call 50; refine (l4Sum_any A2 n2 c2 _ _ (unhide HO).ri (by have := (unhide HO).len; have := unhide HU; have := unhide HL; omega)).mono ?_; rintro e w3 ⟨A3, n3, c3, rfl, hO3, hB3⟩; have HO3 := hide hO3; have HB3 := hide hB3; clear hO3 hB3))
    go_ret2
    refine ⟨A3, n3, c3, rfl, ?_, ?_⟩
    · exact (unhide HO3).less (unhide HB2).size
    · exact (unhide HB2).trans ((unhide HB3).mono (unhide HB2).size)


set_option maxHeartbeats 1000000 in
theorem specUnpackSamples_any (A : Option Addr) (n c : Nat) (bs : List Int) (w : World) (hr : RI w w.heap.size A n bs) (hn : n ≤ 1048576) :
    Calls Try.prog 28 #[.slice A n c] w (RetIB w (if unB bs then readI (upI bs).1 else []) (unB bs)) := by
  have HA := hide (l4List_any A n c _ bs w hr (by omega))
  have HR := hide hr
  have HL := hide hr.len
  clear hr
  have HU := hide (upI_len bs)
  cases h1 : bytB bs
  · have HQ : Hid (unB bs = false) := by unfold Hid unB; rw [h1]; rfl
    rw [unhide HQ]
    go_enter Try.func28, Try.ntmps28
    go_wp2_with (go_at_call 60; refine (unhide HA).mono ?_; rintro e w1 ⟨rfl, rfl⟩)
    go_ret2
    exact ⟨_, _, _, rfl, OwnI.empty _ (Nat.le_refl _), (Below.refl _ _).alloc (Nat.le_refl _) _⟩
  · have HC := hide (fun (W : World) (h : RI W W.heap.size A n bs) => l4Read_any A n c bs W h hn (bytB_all h1))
    have HU1 : Hid (unB bs = (decide ((upI bs).2 = bs.length) && decide ((readI (upI bs).1).length = (upI bs).1.length))) := by unfold Hid unB; rw [h1, Bool.true_and]
    cases h2 : unB bs
    · have HQ : Hid (¬ ((upI bs).2 = bs.length ∧ (readI (upI bs).1).length = (upI bs).1.length)) := by
        have := unhide HU1
        rw [h2] at this
        intro h
        rw [h.1, h.2] at this
        simp at this
      generalize hat : (upI bs).2 = q at *
      generalize hds : (upI bs).1 = ds at *
      have HAT := hide hat
      have HDS := hide hds
      clear hat hds HU1
      go_enter Try.func28, Try.ntmps28
      go_wp2_with fail
      refine (unhide HA).mono ?_
      rintro e w1 ⟨rfl, rfl⟩
      go_wp2_with fail
      refine (unhide HC _ (unhide HR)).mono ?_
      rintro e w2 ⟨A2, n2, c2, rfl, hO, hB⟩
      have HO := hide hO; have HB2 := hide hB; clear hO hB
      go_wp2_with fail
      refine (l4Sum_any A2 n2 c2 _ _ (unhide HO).ri (by have := (unhide HO).len; have := unhide HU; have := unhide HL; omega)).mono ?_
      rintro e w3 ⟨A3, n3, c3, rfl, hO3, hB3⟩
      have HO3 := hide hO3; have HB3 := hide hB3; clear hO3 hB3
      have HZ : Hid (Below w.heap.size w w3) := (unhide HB2).trans ((unhide HB3).mono (unhide HB2).size)
      by_cases hq : q = n
      · have hq2 : ¬ n3 = n2 := fun h => unhide HQ ⟨by rw [unhide HL]; exact hq, by rw [(unhide HO3).len, (unhide HO).len]; exact h⟩
        have t1 : ((q : Int) != (n : Int)) = false := by simp; omega
        have t2 : ((n3 : Int) != (n2 : Int)) = true := by simp; omega
        clear hq hq2
        go_wp2
        go_ret2
        exact ⟨_, _, _, rfl, OwnI.empty _ (unhide HZ).size, (unhide HZ).alloc (unhide HZ).size _⟩
      · have t1 : ((q : Int) != (n : Int)) = true := by simp; omega
        clear hq
        go_wp2
        go_ret2
        exact ⟨_, _, _, rfl, OwnI.empty _ (unhide HZ).size, (unhide HZ).alloc (unhide HZ).size _⟩
    · have HQ : Hid ((upI bs).2 = bs.length ∧ (readI (upI bs).1).length = (upI bs).1.length) := by
        have := unhide HU1
        rw [h2] at this
        simpa [Hid] using this.symm
      generalize hat : (upI bs).2 = q at *
      generalize hds : (upI bs).1 = ds at *
      have HAT := hide hat
      have HDS := hide hds
      clear hat hds HU1
      go_enter Try.func28, Try.ntmps28
      go_wp2_with fail
      refine (unhide HA).mono ?_
      rintro e w1 ⟨rfl, rfl⟩
      go_wp2_with fail
      refine (unhide HC _ (unhide HR)).mono ?_
      rintro e w2 ⟨A2, n2, c2, rfl, hO, hB⟩
      have HO := hide hO; have HB2 := hide hB; clear hO hB
      go_wp2_with fail
      refine (l4Sum_any A2 n2 c2 _ _ (unhide HO).ri (by have := (unhide HO).len; have := unhide HU; have := unhide HL; omega)).mono ?_
      rintro e w3 ⟨A3, n3, c3, rfl, hO3, hB3⟩
      have HO3 := hide hO3; have HB3 := hide hB3; clear hO3 hB3
      have HZ : Hid (Below w.heap.size w w3) := (unhide HB2).trans ((unhide HB3).mono (unhide HB2).size)
      have hq : q = n := by have := (unhide HQ).1; have := unhide HL; omega
      have hq2 : n3 = n2 := by have := (unhide HQ).2; have := (unhide HO3).len; have := (unhide HO).len; omega
      have t1 : ((q : Int) != (n : Int)) = false := by simp; omega
      have t2 : ((n3 : Int) != (n2 : Int)) = false := by simp; omega
      clear hq hq2
      go_wp2
      go_ret2
      exact ⟨A3, n3, c3, rfl, (unhide HO3).less (unhide HB2).size, unhide HZ⟩


set_option maxHeartbeats 1000000 in
theorem implTornAt_any (A : Option Addr) (n c : Nat) (bs : List Int) (w : World) (hr : RI w w.heap.size A n bs) (hcap : n ≤ c) (hn : n ≤ 1048576) :
    Calls Try.prog 31 #[.slice A n c] w (RetNB w (if bytB bs then ((upI bs).2 : Int) else 0) (bytB bs)) := by
  have HA := hide (areBytes_any A n c bs w hr (by omega))
  have HR := hide hr
  have HL := hide hr.len
  clear hr
  cases h1 : bytB bs
  · go_enter Try.func31, Try.ntmps31
    go_wp2_with (go_at_call 62; refine (unhide HA).mono ?_; rintro e w1 ⟨rfl, hb⟩; have HB := hide hb; clear hb)
    go_ret2
    exact ⟨rfl, unhide HB⟩
  · have HC := hide (fun (W : World) (h : RI W W.heap.size A n bs) => unpack_any A n c bs W h hcap hn (bytB_all h1))
    go_enter Try.func31, Try.ntmps31
    go_wp2_with (first
      | (go_at_call 62; refine (unhide HA).mono ?_; rintro e w1 ⟨rfl, hb⟩; have HB := hide hb; clear hb)
      | (go_at_call 63; refine (unhide HC _ (((unhide HR).below (unhide HB)).more (unhide HB).size)).mono ?_; rintro e w2 ⟨A2, n2, c2, rfl, hO, hB⟩; have HO := hide hO; have HB2 := hide hB; clear hO hB))
    go_ret2
    exact ⟨rfl, (unhide HB).trans ((unhide HB2).mono (unhide HB).size)⟩


set_option maxHeartbeats 1000000 in
theorem implReadableSamples_any (A : Option Addr) (n c : Nat) (bs : List Int) (w : World) (hr : RI w w.heap.size A n bs) (hcap : n ≤ c) (hn : n ≤ 1048576) :
    Calls Try.prog 33 #[.slice A n c] w (RetIB w (if bytB bs then readI (upI bs).1 else []) (bytB bs)) := by
  have HA := hide (areBytes_any A n c bs w hr (by omega))
  have HR := hide hr
  have HL := hide hr.len
  clear hr
  have HU := hide (upI_len bs)
  cases h1 : bytB bs
  · go_enter Try.func33, Try.ntmps33
    go_wp2_with (go_at_call 62; refine (unhide HA).mono ?_; rintro e w1 ⟨rfl, hb⟩; have HB := hide hb; clear hb)
    go_ret2
    exact ⟨none, 0, 0, rfl, OwnI.nil _ _, unhide HB⟩
  · have HC := hide (fun (W : World) (h : RI W W.heap.size A n bs) => unpack_any A n c bs W h hcap hn (bytB_all h1))
    go_enter Try.func33, Try.ntmps33
    go_wp2_with (first
      | (go_at_call 62; refine (unhide HA).mono ?_; rintro e w1 ⟨rfl, hb⟩; have HB := hide hb; clear hb)
      | (go_at_call 63; refine (unhide HC _ (((unhide HR).below (unhide HB)).more (unhide HB).size)).mono ?_; rintro e w2 ⟨A2, n2, c2, rfl, hO, hB⟩; have HO := hide hO; have HB2 := hide hB; clear hO hB)
      | (go_at_call 51; refine (readable_any A2 n2 c2 _ _ (unhide HO).ri (by have := (unhide HO).len; have := unhide HU; have := unhide HL; omega)).mono ?_; rintro e w3 ⟨A3, n3, c3, rfl, hO3, hB3⟩; have HO3 := hide hO3; have HB3 := hide hB3; clear hO3 hB3))
    go_ret2
    refine ⟨A3, n3, c3, rfl, ?_, ?_⟩
    · exact ((unhide HO3).less (unhide HB2).size).less (unhide HB).size
    · exact (unhide HB).trans (((unhide HB2).trans ((unhide HB3).mono (unhide HB2).size)).mono (unhide HB).size)


set_option maxHeartbeats 1000000 in
theorem implUnpackSamples_any (A : Option Addr) (n c : Nat) (bs : List Int) (w : World) (hr : RI w w.heap.size A n bs) (hcap : n ≤ c) (hn : n ≤ 1048576) :
    Calls Try.prog 29 #[.slice A n c] w (RetIB w (if unB bs then readI (upI bs).1 else []) (unB bs)) := by
  have HA := hide (areBytes_any A n c bs w hr (by omega))
  have HR := hide hr
  have HL := hide hr.len
  clear hr
  have HU := hide (upI_len bs)
  cases h1 : bytB bs
  · have HQ : Hid (unB bs = false) := by unfold Hid unB; rw [h1]; rfl
    rw [unhide HQ]
    go_enter Try.func29, Try.ntmps29
    go_wp2_with (go_at_call 62; refine (unhide HA).mono ?_; rintro e w1 ⟨rfl, hb⟩; have HB := hide hb; clear hb)
    go_ret2
    exact ⟨none, 0, 0, rfl, OwnI.nil _ _, unhide HB⟩
  · have HC := hide (fun (W : World) (h : RI W W.heap.size A n bs) => unpack_any A n c bs W h hcap hn (bytB_all h1))
    have HQ : Hid (unB bs = (packI (readI (upI bs).1) == bs)) := by unfold Hid unB; rw [h1, Bool.true_and, unpack_law bs (bytB_all h1)]
    have HRR := hide (readGo_range [] 0 (upI bs).1 (by simp))
    have HRL := hide (readI_len (upI bs).1)
    rw [unhide HQ]
    clear HQ
    cases hq : (packI (readI (upI bs).1) == bs)
    all_goals
      have HQ2 := hide hq
      clear hq
      go_enter Try.func29, Try.ntmps29
      go_wp2_with fail
      refine (unhide HA).mono ?_
      rintro e w1 ⟨rfl, hb⟩
      have HB := hide hb; clear hb
      go_wp2_with fail
      refine (unhide HC _ (((unhide HR).below (unhide HB)).more (unhide HB).size)).mono ?_
      rintro e w2 ⟨A2, n2, c2, rfl, hO, hB⟩
      have HO := hide hO; have HB2 := hide hB; clear hO hB
      go_wp2_with fail
      refine (readable_any A2 n2 c2 _ _ (unhide HO).ri (by have := (unhide HO).len; have := unhide HU; have := unhide HL; omega)).mono ?_
      rintro e w3 ⟨A3, n3, c3, rfl, hO3, hB3⟩
      have HO3 := hide hO3; have HB3 := hide hB3; clear hO3 hB3
      have hn3 : n3 ≤ 24 := by have := (unhide HO3).len; have := (unhide HRL).1; omega
      go_wp2_with fail
      refine (pack_any A3 n3 c3 _ _ (unhide HO3).ri (unhide HRR) (by omega)).mono ?_
      rintro e w4 ⟨A4, n4, c4, rfl, hO4, hB4⟩
      have HO4 := hide hO4; have HB4 := hide hB4; clear hO4 hB4
      have HZ : Hid (Below w.heap.size w w4) := (((unhide HB).trans ((unhide HB2).mono (unhide HB).size)).trans ((unhide HB3).mono (Nat.le_trans (unhide HB).size (unhide HB2).size))).trans ((unhide HB4).mono (Nat.le_trans (Nat.le_trans (unhide HB).size (unhide HB2).size) (unhide HB3).size))
      go_wp2_with fail
      have CE := Equal_int A4 A n4 n c4 c _ _ _ bs _ (unhide HO4).ri ((unhide HR).below (unhide HZ)) (unhide HO4).max (by omega)
      rw [unhide HQ2] at CE
      refine CE.mono ?_
      rintro e w5 ⟨rfl, hB5⟩
      have HB5 := hide hB5; clear hB5 CE
      have HZ2 : Hid (Below w.heap.size w w5) := (unhide HZ).trans ((unhide HB5).mono (unhide HZ).size)
      go_wp2
      go_ret2
      first
        | exact ⟨none, 0, 0, rfl, OwnI.nil _ _, unhide HZ2⟩
        | exact ⟨A3, n3, c3, rfl, (OwnI.below (OwnI.below (unhide HO3) (unhide HB4) (Nat.le_refl _)) (unhide HB5) (Nat.le_refl _)).less (Nat.le_trans (unhide HB).size (unhide HB2).size), unhide HZ2⟩
end Go.Proofs.Ytnigieebmjjjjaa
