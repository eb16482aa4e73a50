/- What must come, of layer 6. -/
import Derived.Test.YtcchjnadhjeniaaDoorXAllx19
namespace Go.Proofs.YtcchjnadhjeniaaDoor.Pure
open Go.RowKit Go.Proofs.YtcchjnadhjeniaaDoor.XAll Go.Proofs.YtcchjnadhjeniaaDoorW.PrintWords Go.Proofs.YtcchjnadhjeniaaDoorW.PrintLast
set_option maxRecDepth 20000 in
theorem sure06_20 : barbicanlaw06_sure.f 20 = some true := by decide +kernel
theorem sure06 (k : Nat) (hk : 20 ≤ k) : barbicanlaw06_sure.f k = some true := at_rounds (g := fun k => barbicanlaw06_sure.f k) (fun k => barbicanlaw06_sure.mono k) hk sure06_20
end Go.Proofs.YtcchjnadhjeniaaDoor.Pure
