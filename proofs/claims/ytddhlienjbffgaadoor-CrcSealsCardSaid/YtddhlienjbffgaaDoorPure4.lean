import Derived.Test.YtddhlienjbffgaaDoorXAllx5
import Derived.Test.YtddhlienjbffgaaDoorXAllx1
import Derived.Test.YtddhlienjbffgaaDoorCrcSealL
namespace Go.Proofs.YtddhlienjbffgaaDoor.Pure
open Go.RowKit Go.Proofs.YtddhlienjbffgaaDoor.XAll Go.Proofs.YtddhlienjbffgaaDoorW.PrintWords Go.Proofs.YtddhlienjbffgaaDoorW.PrintLast
open CrcL
theorem sure4 : barbicanlaw04_sure.f = some true := by
  unfold barbicanlaw04_sure.f
  rw [sum4_f _ (by unfold Bytes; decide), Option.bind_some]
  decide +kernel
theorem twin4 (l : List Int) (h : l.length < 140737488355328) : barbicanlaw04_twin.f l = some l := by
  unfold barbicanlaw04_twin.f
  rw [if_pos (by simpa using h)]
  rfl
theorem bulk_len (l : List Int) : (l.map (fun _ : Int => 1)).sum = l.length := by
  induction l with
  | nil => rfl
  | cons a l ih => simp only [List.map_cons, List.sum_cons, List.length_cons, ih]; omega
end Go.Proofs.YtddhlienjbffgaaDoor.Pure
