/- Printed by this session's program (wip/print) out of the translation, for the statement named in the file's name. -/
import Derived.Test.YtddhlienjbffgaaDoorProg
import Derived.Below
import Derived.Deep.Draws
import Derived.Deep.AppendLies
import Derived.Maps.AppendAt
import Derived.OwnWalk
import Derived.Laws.BytesArg
import Derived.Laws.MakeOwn
import Derived.Laws.OwnMore
import Derived.Deep.OwnRows
import Derived.Tactics
import Derived.Lib.ConvBytes
import Derived.Laws.Slices
import Derived.WalkKit
import Derived.KernelRfl
import Derived.RowKit3
import Derived.Deep.LoopGhost
import Derived.Deep.QuietTactic
import Derived.BigQuiet
import Derived.WideLaws
import Derived.Deep.DeepCutAuto
import Derived.Deep.CutBlock
import Derived.Deep.RegionHeld3
import Derived.Laws.Rows
import Derived.Lib.AppendStr
import Derived.ArgAppend
import Derived.Laws.IdiomCopy
import Derived.OrdersHeld
import Derived.Laws.BitsLemmas
import Derived.RowKit
import Derived.Deep.WholeRow
import Derived.Laws.Closers25b
import Derived.LaidEql
import Derived.Lib.IfaceEq
import Derived.Stop.Asserts
import Derived.Test.YtddhlienjbffgaaDoorWWords
import Derived.Test.YtddhlienjbffgaaDoorWLast
import Derived.Test.YtddhlienjbffgaaDoorWTab
import Derived.Test.YtddhlienjbffgaaDoorWFour
import Derived.Test.YtddhlienjbffgaaDoorWQPut
import Derived.Test.YtddhlienjbffgaaDoorWApart
import Derived.Test.YtddhlienjbffgaaDoorWArr
import Derived.Test.YtddhlienjbffgaaDoorWZeros
import Derived.Test.YtddhlienjbffgaaDoorWFoot
import Derived.Test.YtddhlienjbffgaaDoorWKept
import Derived.Test.YtddhlienjbffgaaDoorWShare
import Derived.Test.YtddhlienjbffgaaDoorWN
import Derived.Test.YtddhlienjbffgaaDoorWFootNe
import Derived.Test.YtddhlienjbffgaaDoorWAt
import Derived.Test.YtddhlienjbffgaaDoorWEqStruct
import Derived.Test.YtddhlienjbffgaaDoorWRepsOne
import Derived.Test.YtddhlienjbffgaaDoorWInv
import Derived.Test.YtddhlienjbffgaaDoorWInvWords
import Derived.Test.YtddhlienjbffgaaDoorWGuard
import Derived.Test.YtddhlienjbffgaaDoorWNEv
import Derived.Test.YtddhlienjbffgaaDoorWMore
import Derived.Test.YtddhlienjbffgaaDoorXWords
import Derived.Test.YtddhlienjbffgaaDoorXWordsV
import Derived.Test.YtddhlienjbffgaaDoorXAs
namespace Go.Proofs.YtddhlienjbffgaaDoor.XAll
open Go.RowKit Go.Proofs.YtddhlienjbffgaaDoorW.PrintWords Go.Proofs.YtddhlienjbffgaaDoorW.PrintLast Go.Proofs.YtddhlienjbffgaaDoorW.PrintMore Go.Proofs.YtddhlienjbffgaaDoor.As
attribute [local go_sem] str_gtr str_leq str_geq max2_int min2_int max_two min_two max_three min_three max_four min_four   -- for this text's walks alone
set_option linter.unusedVariables false
set_option linter.unusedSimpArgs false
set_option linter.unnecessarySimpa false



def errW : Option Int → Value
  | none => .nilIface
  | some c => .iface 36 (.int .i64 c)
theorem errW_none : errW none = .nilIface := rfl
theorem errW_some (c : Int) : errW (some c) = .iface 36 (.int .i64 c) := rfl

theorem info5 : (Tryd.prog.info? 5).map (fun i => (i.zero, i.size, i.bytes)) = some (some (.int .u8 0), 1, 1) := by kernel_rfl
-- the values' own types

end Go.Proofs.YtddhlienjbffgaaDoor.XAll
