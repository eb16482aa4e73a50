/- errors.errorType and a label's variables: what the row lists gives the fact that the walks take; a world that meets the list. -/
import Derived.Test.YtckgmbkhdgcldaaDoorRows
import Derived.Test.YtckgmbkhdgcldaaDoorXGb
import Derived.Test.YtckgmbkhdgcldaaDoorXDoor
import Derived.Test.YtckgmbkhdgcldaaDoorXDoorLab
namespace Go.Proofs.YtckgmbkhdgcldaaDoor.DoorBoth
open Go.RowKit Go.Proofs.YtckgmbkhdgcldaaDoor.Both
set_option linter.unusedVariables false
set_option maxRecDepth 100000
abbrev list : List (String × DataW Unit) := [("math/bits.deBruijn32tab", Rows.laid_math_bits_deBruijn32tab), ("math/bits.deBruijn64tab", Rows.laid_math_bits_deBruijn64tab), ("internal/strconv.uint64pow10", Rows.laid_internal_strconv_uint64pow10), ("errors.errorType", Rows.laid_errors_errorType), ("strconv.ErrRange", Rows.laid_strconv_ErrRange), ("strconv.ErrSyntax", Rows.laid_strconv_ErrSyntax)]
theorem ge_of_laid {W : World} (h : laidMetH Tryd.prog list W) : GE W := by
  have h' : laidMet Tryd.prog DoorLab.list W ∧ handlesMet Tryd.prog [("errors.errorType", Rows.laid_errors_errorType)] W := h
  exact ⟨Door.ge_of_handles h'.2, DoorLab.ge_of_laid0 h'.1⟩
noncomputable def laidWorld (os : Os) : World := DoorLab.put (DoorLab.laidWorld os) 1 #[.iface 86 (.agg #[.pointer (some ⟨7, 29, none⟩)])]
theorem laidWorld_met0 (os : Os) (args : Array Value) : laidMet Tryd.prog (list.filter fun x => x.2.handleName?.isNone) ((laidWorld os).forCall (fun _ _ => 0) ⟨#[], args, []⟩).memory :=
  (show laidMet Tryd.prog DoorLab.list ((laidWorld os).forCall (fun _ _ => 0) ⟨#[], args, []⟩).memory from laidMet_of_run' 8 (by kernel_rfl) (by kernel_rfl))
theorem laidWorld_met (os : Os) (args : Array Value) : laidMetH Tryd.prog list ((laidWorld os).forCall (fun _ _ => 0) ⟨#[], args, []⟩).memory :=
  laidMetH_of_parts (laidWorld_met0 os args) (by kernel_rfl)
end Go.Proofs.YtckgmbkhdgcldaaDoor.DoorBoth
