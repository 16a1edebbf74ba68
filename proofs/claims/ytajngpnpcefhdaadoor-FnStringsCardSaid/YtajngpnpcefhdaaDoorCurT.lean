/- The reference's cursor over bytes: texts are drawn; a big input. -/
import Derived.Test.YtajngpnpcefhdaaDoorProg
import Derived.Test.YtajngpnpcefhdaaDoorCur
import Derived.Test.YtajngpnpcefhdaaDoorDraw
import Derived.Test.YtajngpnpcefhdaaDoorCurN
import Derived.Test.YtajngpnpcefhdaaDoorTxt
namespace Go.Proofs.YtajngpnpcefhdaaDoor
open Go.RowKit

/-- a text comes back and the cursor -/
def RetCT (w : World) (g : Nat) (A : Option Addr) (n c : Nat) (xs : List Int) (b : Nat) (P : ByteArray → Prop) (e : Ending) (w' : World) : Prop :=
  ∃ x : ByteArray, e = .returned (.string x) ∧ P x ∧ Cur w' g A n c xs b ∧ w.grownBy w' (some g)
set_option maxHeartbeats 1000000 in
/-- one of the texts of a row that lies elsewhere -/
theorem of_any (g n c b : Nat) (A : Option Addr) (xs : List Int) (L : Option Addr) (m d : Nat) (ys : List ByteArray) (w : World) (h : Cur w g A n c xs b) (hn : n ≤ 1048576) (hb : b ≤ 4611686018427387900) (hr : RT w w.heap.size L m ys) (hg : ∀ a, L = some a → a.block ≠ g) (h1 : 1 ≤ m) (h2 : m ≤ 1000000) :
    Calls Tryd.prog 36 #[.pointer (some ⟨g, 0, none⟩), .slice L m d] w (RetCT w g A n c xs (b + 2) fun x => x ∈ ys) := by
  have HP := hide (pick_any g n c b A xs m w h hn hb (by omega) (by omega))
  have HR := hide hr
  have HA := hide hg
  clear h hr hg
  go_enter Tryd.func36, Tryd.ntmps36
  go_wp2_with fail
  refine (unhide HP).mono ?_
  rintro e w1 ⟨x, rfl, ⟨hx0, hx1⟩, hC, hg⟩
  have HC1 := hide hC
  have HG1 := hide hg
  clear hC hg
  obtain ⟨k, rfl⟩ : ∃ k : Nat, x = (k : Int) := ⟨x.toNat, by omega⟩
  obtain ⟨ad, y, rfl, hbk, hy, hc⟩ := (unhide HR).get (k := k) (by omega)
  have hc' : w1.cell? (ad.add k) = some (.string y) := (World.cell?_of_block ((unhide HG1).block (ad.add k).block (by rw [block_of_add]; exact hbk) (by rw [block_of_add]; intro e; injection e with e; exact unhide HA _ rfl e))).trans hc
  have l1 : (k : Int) < (m : Int) := hx1
  have l2 : k < m := by omega
  clear hc
  go_wp2_with fail
  go_ret
  exact ⟨y, rfl, List.mem_of_getElem? (unhide hy), unhide HC1, unhide HG1⟩
/-- one of the texts of a literal -/
theorem of_lit (g n c b gl : Nat) (A : Option Addr) (xs : List Int) (w : World) (hq : gl = w.heap.size) (ys : List ByteArray) (m : Nat) (cs : Array Value) (P : ByteArray → Prop) (hc : cs = (cT ys).toArray) (hm : ys.length = m) (h1 : 1 ≤ m) (h2 : m ≤ 1000) (hP : ∀ y ∈ ys, P y)
    (h : Cur w g A n c xs b) (hn : n ≤ 1048576) (hb : b ≤ 4611686018427387900) :
    Calls Tryd.prog 36 #[.pointer (some ⟨g, 0, none⟩), .slice (some ⟨gl, 0, none⟩) m m] (w.alloc (.cells cs 9)) (RetCT w g A n c xs (b + 2) P) := by
  subst hq
  have hr : RT (w.alloc (.cells cs 9)) (w.alloc (.cells cs 9)).heap.size (some ⟨w.heap.size, 0, none⟩) m ys := by
    refine ⟨by rw [cT_length, hm]; omega, fun _ => ⟨_, rfl, by simp, fun j u hu => ?_⟩⟩
    have e : (⟨w.heap.size, 0, none⟩ : Addr).add j = ⟨w.heap.size, j, none⟩ := by simp [Addr.add]; omega
    rw [e, (Whl.here w 9 cs).cell j, hc]
    simpa using hu
  refine (of_any g n c b A xs (some ⟨w.heap.size, 0, none⟩) m m ys _ (h.alloc _) hn hb hr (fun a e => by injection e with e; subst e; exact Nat.ne_of_gt h.lt) h1 (by omega)).mono ?_
  rintro e w' ⟨x, rfl, hx, hC, hg⟩
  exact ⟨x, rfl, hP x hx, hC, grownBy_trans (grown_alloc (World.grownBy.refl w _) _) hg⟩
end Go.Proofs.YtajngpnpcefhdaaDoor
