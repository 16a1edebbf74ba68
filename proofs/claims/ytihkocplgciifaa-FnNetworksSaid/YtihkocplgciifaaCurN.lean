/- The reference's cursor over bytes, made new; a big input. -/
import Derived.Test.YtihkocplgciifaaProg
import Derived.Test.YtihkocplgciifaaCur
import Derived.Test.YtihkocplgciifaaDraw
namespace Go.Proofs.Ytihkocplgciifaa
open Go.RowKit

theorem RB.later {w W : World} {A : Option Addr} {n : Nat} {xs : List Int} (h : RB w w.heap.size A n xs) (hb : Below w.heap.size w W) : RB W W.heap.size A n xs := ⟨(h.1.below hb).more hb.size, h.2⟩
/-- a new cursor -/
theorem Cur.new {w : World} {A : Option Addr} {n : Nat} {xs : List Int} (c : Nat) (h : RB w w.heap.size A n xs) : Cur (w.alloc (.cells #[.slice A n c, .int .i64 0, .int .u64 0] 101)) w.heap.size A n c xs 0 :=
  ⟨⟨h.1.below ((Below.refl _ w).alloc (Nat.le_refl _) _), h.2⟩, 0, 0, Nat.le_refl _, Whl.here w _ _⟩
end Go.Proofs.Ytihkocplgciifaa
