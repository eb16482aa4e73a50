/- The library's contract of slices.Clone (at columns) at this program's numbers. -/
import Derived.Test.YtkcbgnhgjlbmlaaDoorProg
import Derived.Test.YtkcbgnhgjlbmlaaDoorWWords
import Derived.Shelf.SlicesE.Clone
namespace Go.Proofs.YtkcbgnhgjlbmlaaDoor.Cln
open Go.RowKit Go.Shelf Go.Proofs.YtkcbgnhgjlbmlaaDoorW.PrintWords
set_option linter.unusedVariables false
set_option linter.unusedSimpArgs false
def clnSlLaysE041Ren : Go.Shelf.Ren := ⟨fun | 41 => 21 | n => n, fun | 4 => 4 | 22 => 23 | 23 => 39 | n => n, fun n => n⟩
theorem clnSlLaysE041 : Go.Proofs.SlLaysE0.n41 Tryd.prog clnSlLaysE041Ren := {
  mixed := by kernel_rfl
  f41 := ⟨Tryd.f21.name, by decide, Tryd.func21.trans (congrArg some (by kernel_rfl))⟩
  t4 := Tryd.underlying4
  a4 := Tryd.isAgg4
  z4 := Tryd.sizeOf4
  v4 := Tryd.zeroValue4
  t22 := Tryd.underlying23
  a22 := Tryd.isAgg23
  z22 := Tryd.sizeOf23
  v22 := Tryd.zeroValue23 }

end Go.Proofs.YtkcbgnhgjlbmlaaDoor.Cln
