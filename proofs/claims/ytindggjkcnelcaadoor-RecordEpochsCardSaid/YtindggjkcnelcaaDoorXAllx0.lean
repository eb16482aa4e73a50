/- Printed by this session's program (wip/print) out of the translation, for the statement named in the file's name. -/
import Derived.Test.YtindggjkcnelcaaDoorProg
import Derived.Below
import Derived.Deep.Draws
import Derived.Deep.AppendLies
import Derived.Maps.AppendAt
import Derived.OwnWalk
import Derived.Laws.BytesArg
import Derived.Laws.MakeOwn
import Derived.Laws.OwnMore
import Derived.Deep.OwnRows
import Derived.Tactics
import Derived.Lib.ConvBytes
import Derived.Laws.Slices
import Derived.WalkKit
import Derived.KernelRfl
import Derived.RowKit3
import Derived.Deep.LoopGhost
import Derived.Deep.QuietTactic
import Derived.BigQuiet
import Derived.WideLaws
import Derived.Deep.DeepCutAuto
import Derived.Deep.CutBlock
import Derived.Deep.RegionHeld3
import Derived.Laws.Rows
import Derived.Lib.AppendStr
import Derived.ArgAppend
import Derived.Laws.IdiomCopy
import Derived.OrdersHeld
import Derived.Laws.BitsLemmas
import Derived.RowKit
import Derived.Deep.WholeRow
import Derived.Laws.Closers25b
import Derived.LaidEql
import Derived.Lib.IfaceEq
import Derived.Stop.Asserts
import Derived.Test.YtindggjkcnelcaaDoorWWords
import Derived.Test.YtindggjkcnelcaaDoorWLast
import Derived.Test.YtindggjkcnelcaaDoorWTab
import Derived.Test.YtindggjkcnelcaaDoorWFour
import Derived.Test.YtindggjkcnelcaaDoorWQPut
import Derived.Test.YtindggjkcnelcaaDoorWApart
import Derived.Test.YtindggjkcnelcaaDoorWArr
import Derived.Test.YtindggjkcnelcaaDoorWZeros
import Derived.Test.YtindggjkcnelcaaDoorWFoot
import Derived.Test.YtindggjkcnelcaaDoorWKept
import Derived.Test.YtindggjkcnelcaaDoorWShare
import Derived.Test.YtindggjkcnelcaaDoorWN
import Derived.Test.YtindggjkcnelcaaDoorWFootNe
import Derived.Test.YtindggjkcnelcaaDoorWAt
import Derived.Test.YtindggjkcnelcaaDoorWEqStruct
import Derived.Test.YtindggjkcnelcaaDoorWRepsOne
import Derived.Test.YtindggjkcnelcaaDoorWInv
import Derived.Test.YtindggjkcnelcaaDoorWInvWords
import Derived.Test.YtindggjkcnelcaaDoorWGuard
import Derived.Test.YtindggjkcnelcaaDoorWNEv
import Derived.Test.YtindggjkcnelcaaDoorWMore
import Derived.Test.YtindggjkcnelcaaDoorXWords
import Derived.Test.YtindggjkcnelcaaDoorXAs
namespace Go.Proofs.YtindggjkcnelcaaDoor.XAll
open Go.RowKit Go.Proofs.YtindggjkcnelcaaDoorW.PrintWords Go.Proofs.YtindggjkcnelcaaDoorW.PrintLast Go.Proofs.YtindggjkcnelcaaDoorW.PrintMore Go.Proofs.YtindggjkcnelcaaDoor.As
attribute [local go_sem] max2_int min2_int max_two min_two max_three min_three max_four min_four   -- for this text's walks alone
set_option linter.unusedVariables false
set_option linter.unusedSimpArgs false



def errW : Option Int → Value
  | none => .nilIface
  | some c => .iface 46 (.int .i64 c)
theorem errW_none : errW none = .nilIface := rfl
theorem errW_some (c : Int) : errW (some c) = .iface 46 (.int .i64 c) := rfl

theorem info5 : (Tryd.prog.info? 5).map (fun i => (i.zero, i.size, i.bytes)) = some (some (.int .u8 0), 1, 1) := by kernel_rfl
-- the values' own types

end Go.Proofs.YtindggjkcnelcaaDoor.XAll
