/- errors.errorType, the tables of unicode/utf8 and internal/bytealg.MaxLen: what the row lists, and the world's shape, give the fact that the walks take; a world that meets the list. -/
import Derived.Test.YtkcbgnhgjlbmlaaDoorXDoor
import Derived.Test.YtkcbgnhgjlbmlaaDoorXGs
import Derived.Shelf.Vars
namespace Go.Proofs.YtkcbgnhgjlbmlaaDoor.DoorStr
open Go.RowKit Go.Proofs.YtkcbgnhgjlbmlaaDoor.Str
set_option linter.unusedVariables false
set_option maxRecDepth 100000
abbrev tables : List (String × DataW Unit) := [("unicode/utf8.acceptRanges", Rows.laid_unicode_utf8_acceptRanges), ("unicode/utf8.first", Rows.laid_unicode_utf8_first)]
abbrev list : List (String × DataW Unit) := [("unicode/utf8.acceptRanges", Rows.laid_unicode_utf8_acceptRanges), ("errors.errorType", Rows.laid_errors_errorType), ("unicode/utf8.first", Rows.laid_unicode_utf8_first)]
theorem max_of {W : World} (hs : W.ShapedOpen Tryd.prog) : ∃ m, W.cell? ⟨1, 0, none⟩ = some (.int .i64 m) :=
  cell_of_shapedOpen_int (t := 3) (zero := #[.int .i64 0]) hs (of_decide_eq_true (by kernel_rfl)) (by kernel_rfl) rfl (by kernel_rfl) (by kernel_rfl) Tryd.underlying3
theorem ge_of_laid {W : World} (h : laidMetH Tryd.prog list W) (hs : W.ShapedOpen Tryd.prog) : GE W := by
  have h' : laidMet Tryd.prog tables W ∧ handlesMet Tryd.prog [("errors.errorType", Rows.laid_errors_errorType)] W := h
  exact ⟨Door.ge_of_handles h'.2, max_of hs⟩
def litsOf {H : Type} : DataW H → List Value
  | .agg l => l.flatMap fun
    | .lit (.int k n) => [.int k n]
    | .agg m => m.map fun
      | .lit (.int k n) => .int k n
      | _ => .nilIface
    | _ => []
  | _ => []
noncomputable def put (w : World) (g : Nat) (cs : Array Value) : World := { w with heap := w.heap.modify g fun
      | .cells _ t frozen => .cells cs t frozen
      | o => o }
noncomputable def tabWorld (os : Os) : World := put (put (World.holding Tryd.prog os ⟨#[], #[], []⟩) 3 (litsOf (H := Unit) Rows.laid_unicode_utf8_acceptRanges).toArray) 2 (litsOf (H := Unit) Rows.laid_unicode_utf8_first).toArray
noncomputable def laidWorld (os : Os) : World := put (tabWorld os) 0 #[.iface 84 (.agg #[.pointer (some ⟨4, 29, none⟩)])]
theorem laidWorld_met0 (os : Os) (args : Array Value) : laidMet Tryd.prog (list.filter fun x => x.2.handleName?.isNone) ((laidWorld os).forCall (fun _ _ => 0) ⟨#[], args, []⟩).memory :=
  (show laidMet Tryd.prog tables ((laidWorld os).forCall (fun _ _ => 0) ⟨#[], args, []⟩).memory from laidMet_of_run' 8 (by kernel_rfl) (by kernel_rfl))
theorem laidWorld_met (os : Os) (args : Array Value) : laidMetH Tryd.prog list ((laidWorld os).forCall (fun _ _ => 0) ⟨#[], args, []⟩).memory :=
  laidMetH_of_parts (laidWorld_met0 os args) (by kernel_rfl)
theorem tabWorld_met (os : Os) (args : Array Value) : laidMetH Tryd.prog tables ((tabWorld os).forCall (fun _ _ => 0) ⟨#[], args, []⟩).memory :=
  (show laidMet Tryd.prog tables ((tabWorld os).forCall (fun _ _ => 0) ⟨#[], args, []⟩).memory from laidMet_of_run' 8 (by kernel_rfl) (by kernel_rfl))
end Go.Proofs.YtkcbgnhgjlbmlaaDoor.DoorStr
