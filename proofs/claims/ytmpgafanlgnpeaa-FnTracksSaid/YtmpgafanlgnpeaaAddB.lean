/- Chapter 5, the walks: a mark more in a track: the reference's. -/
import Derived.Test.YtmpgafanlgnpeaaProg
import Derived.Test.YtmpgafanlgnpeaaPut
namespace Go.Proofs.Ytmpgafanlgnpeaa
open Go.RowKit

theorem ownR_cap {w : World} {lo hi k n c : Nat} {E : TypeId} {A : Option Addr} {cs : List Value} (h : OwnR w lo hi E k A n c cs) : n ≤ c := by
  rcases h.1.2 with ⟨hv, h0⟩ | ⟨g, cap, cur, hv, hg, hh, hle, hm, _⟩
  · omega
  · injection hv with _ _ h3
    omega
theorem ownR_cmx {w : World} {lo hi k n c : Nat} {E : TypeId} {A : Option Addr} {cs : List Value} (h : OwnR w lo hi E k A n c cs) : c ≤ 9223372036854775807 := by
  rcases h.1.2 with ⟨hv, h0⟩ | ⟨g, cap, cur, hv, hg, hh, hle, hm, _⟩
  · injection hv with _ _ h3
    omega
  · injection hv with _ _ h3
    unfold maxLen at hm
    omega
theorem Below.drew_next {a b : World} (h : Below a.drew.heap.size a.drew b) : Below a.heap.size a b := ⟨h.os, h.tape, h.output, h.size, h.block⟩

set_option maxHeartbeats 4000000 in
set_option maxRecDepth 100000 in
theorem specAdd_any (A : Option Addr) (n c : Nat) (xs : List (Int × Int)) (x y : Int) (w : World) (hr : RP w w.heap.size A n xs) (hn : n ≤ 2097152) (hc : n ≤ c) (hm : c ≤ 9223372036854775807) :
    Calls Try.prog 32 #[.slice A n c, .agg #[.int .i64 x, .int .i64 y]] w (RetMB w (addR xs (x, y)).1 (addR xs (x, y)).2) := by
  have HL := hide hr.len
  have HP := hide (fun (W : World) (hb : Below w.heap.size w W) => specPut_any A n c xs x y W ((hr.below hb).more hb.size) (by omega) hc hm)
  have HG := hide (fun (W : World) (hb : Below w.heap.size w W) => l5Good_any A n c xs W ((hr.below hb).more hb.size) (by omega))
  clear hr
  go_enter Try.func32, Try.ntmps32
  go_wp2_with fail
  have K1 : Hid (Whl (w.alloc (.cells #[.int .i64 x, .int .i64 y] 43)) w.heap.size 43 #[.int .i64 x, .int .i64 y]) := Whl.here w _ _
  have HB1 : Hid (Below w.heap.size w (w.alloc (.cells #[.int .i64 x, .int .i64 y] 43))) := (Below.refl _ w).alloc (Nat.le_refl _) _
  generalize w.alloc (.cells #[.int .i64 x, .int .i64 y] 43) = w1 at K1 HB1 ⊢
  have HG1 := hide (unhide HG w1 (unhide HB1))
  clear HG
  rcases t1 : trkB xs with _ | _
  · have HRR : Hid (addR xs (x, y) = ([], false)) := by unfold Hid addR; rw [t1]; rfl
    rw [t1] at HG1
    refine (unhide HG1).mono ?_
    rintro e w2 ⟨rfl, hb⟩
    have HB2 := hide (below_next (unhide HB1) hb)
    clear hb
    go_wp2_with fail
    go_ret2
    rw [unhide HRR]
    exact ⟨_, 0, 0, rfl, OwnP.empty _ _ (unhide HB2).size, (unhide HB2).alloc (unhide HB2).size _⟩
  · have HS := hide (add_same (x, y) (trk_of t1).1)
    rw [t1] at HG1
    refine (unhide HG1).mono ?_
    rintro e w2 ⟨rfl, hb⟩
    have HB2 := hide (below_next (unhide HB1) hb)
    have K2 := hide (Whl.below (unhide K1) hb)
    clear hb
    have k1 : w2.cell? ⟨w.heap.size, 0, none⟩ = some (.int .i64 x) := (unhide K2).cell 0
    have k2 : w2.cell? ⟨w.heap.size, 1, none⟩ = some (.int .i64 y) := (unhide K2).cell 1
    go_wp2_with fail
    clear k1 k2
    refine (unhide HP _ (unhide HB2)).mono ?_
    rintro e w3 ⟨A3, n3, c3, rfl, hO, hb⟩
    have hn3 : n3 ≤ 4194304 := by have := hO.len; have := unhide HL; rw [putF_len] at *; omega
    have HB3 := hide (below_next (unhide HB2) hb)
    have HG3 := hide (l5Good_any A3 n3 c3 _ w3 hO.rp (by omega))
    have HO3 := hide (hO.less (unhide HB2).size)
    clear hO hb HP
    go_wp2_with fail
    rcases t2 : trkB (putF (x, y) xs) with _ | _
    · have HRR : Hid (addR xs (x, y) = ([], false)) := by unfold Hid addR; rw [t1, (unhide HS).1, t2]; rfl
      rw [t2] at HG3
      refine (unhide HG3).mono ?_
      rintro e w4 ⟨rfl, hb⟩
      have HB4 := hide (below_next (unhide HB3) hb)
      clear hb
      go_wp2_with fail
      go_ret2
      rw [unhide HRR]
      exact ⟨_, 0, 0, rfl, OwnP.empty _ _ (unhide HB4).size, (unhide HB4).alloc (unhide HB4).size _⟩
    · have HRR : Hid (addR xs (x, y) = (putF (x, y) xs, true)) := by unfold Hid addR; rw [t1, (unhide HS).1, t2, (unhide HS).2 t2]; rfl
      rw [t2] at HG3
      refine (unhide HG3).mono ?_
      rintro e w4 ⟨rfl, hb⟩
      have HB4 := hide (below_next (unhide HB3) hb)
      have HO4 := hide ((unhide HO3).below hb (Nat.le_refl _))
      clear hb
      go_wp2_with fail
      go_ret2
      rw [unhide HRR]
      exact ⟨A3, n3, c3, rfl, unhide HO4, unhide HB4⟩
end Go.Proofs.Ytmpgafanlgnpeaa
