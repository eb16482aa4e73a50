/- Words of this session: how an argument's datum reads as a value of a kind, with its bulk; kind by kind. -/
import Derived.Test.YtnflmaonilabgaaDoorWWords
import Derived.Test.YtnflmaonilabgaaDoorRows
import Derived.Deep.Slices
import Derived.SizedLaws
namespace Go.Proofs.YtnflmaonilabgaaDoorW.PrintWords
open Go.RowKit
namespace Kd
section
variable {P : Program} {W : World} {t : TypeId}
end
end Kd
section
open Go.ChangeShapes Go.WideShapes
end
end Go.Proofs.YtnflmaonilabgaaDoorW.PrintWords
