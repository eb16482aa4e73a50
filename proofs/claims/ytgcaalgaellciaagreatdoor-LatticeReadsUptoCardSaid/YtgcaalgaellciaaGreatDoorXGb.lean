/- errors.errorType and what a label's texts read: as one fact. -/
import Derived.Test.YtgcaalgaellciaaGreatDoorXAs
import Derived.Test.YtgcaalgaellciaaGreatDoorXGl
namespace Go.Proofs.YtgcaalgaellciaaGreatDoor.Both
open Go.RowKit
structure GE (w : World) : Prop where
  as_ : As.GE w
  lab : Lab.GE w
theorem GE.below {w w1 : World} (h : GE w) (hb : Below w.heap.size w w1) : GE w1 := ⟨h.as_.below hb, h.lab.below hb⟩
theorem GE.drewN {w : World} (h : GE w) (n : Nat) : GE (w.drewN n) := ⟨h.as_, h.lab.drewN n⟩
end Go.Proofs.YtgcaalgaellciaaGreatDoor.Both
