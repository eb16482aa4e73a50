/- The variables that a label's texts read: what the row lists gives the fact that the walks take; a world that meets the list. -/
import Derived.Test.YtgcaalgaellciaaDoorRows
import Derived.Test.YtgcaalgaellciaaDoorXGl
import Derived.LaidHandle
import Derived.LaidLaws
import Derived.Stop.LaidErr
import Derived.Lib.LaidTab
import Derived.RowKit
import Derived.RowKitTokens
import Derived.Deep.DeepHandedRow
namespace Go.Proofs.YtgcaalgaellciaaDoor.DoorLab
open Go.RowKit Go.Proofs.YtgcaalgaellciaaDoor.Lab
set_option linter.unusedVariables false
set_option maxRecDepth 100000
abbrev list : List (String × DataW Unit) := [("math/bits.deBruijn32tab", Rows.laid_math_bits_deBruijn32tab), ("math/bits.deBruijn64tab", Rows.laid_math_bits_deBruijn64tab), ("internal/strconv.uint64pow10", Rows.laid_internal_strconv_uint64pow10), ("strconv.ErrRange", Rows.laid_strconv_ErrRange), ("strconv.ErrSyntax", Rows.laid_strconv_ErrSyntax)]
theorem star : "*" ++ "errors.errorString" = "*errors.errorString" := by decide
theorem row (u : TypeId) (h : Tryd.prog.typeName? 3 u = some "*errors.errorString") : u = 126 :=
  typeName_ptr_named (nm := "errors.errorString") (by rw [star]; kernel_rfl) (by kernel_rfl) (by decide) u (by rw [star]; exact h)
theorem ge_of_laid0 {W : World} (h : laidMet Tryd.prog list W) : GE W := by
  have h1 : laidMet Tryd.prog [("strconv.ErrRange", Rows.laid_strconv_ErrRange), ("strconv.ErrSyntax", Rows.laid_strconv_ErrSyntax)] W := h.tail.tail.tail
  have hrow := row
  obtain ⟨a1, s1, e1, _⟩ := laid_sentinel (g := 5) (ti := 25) (tp := 126) (te := 128) (ts := 9) h1 (by kernel_rfl) (by kernel_rfl) Tryd.underlying25 hrow Tryd.underlying126 Tryd.underlying128 rfl rfl Tryd.underlying9 (by kernel_rfl) (by kernel_rfl)
  obtain ⟨a2, s2, e2, _⟩ := laid_sentinel (g := 4) (ti := 25) (tp := 126) (te := 128) (ts := 9) h1.tail (by kernel_rfl) (by kernel_rfl) Tryd.underlying25 hrow Tryd.underlying126 Tryd.underlying128 rfl rfl Tryd.underlying9 (by kernel_rfl) (by kernel_rfl)
  have ht := Lib.tabIs_of_head (k := .u8) (zs := Lib.deBruijn32tab.map Int.ofNat) (g := 0) (t := 83) (e := 5) (n := 32) (by kernel_rfl) (by kernel_rfl) Tryd.underlying83 Tryd.underlying5 (by kernel_rfl) (by kernel_rfl) (show laidMet Tryd.prog (("math/bits.deBruijn32tab", Lib.tabData .u8 (Lib.deBruijn32tab.map Int.ofNat)) :: _) W from h)
  have c2 : W.cell? ⟨4, 0, none⟩ = some (.iface 126 (.pointer (some a2))) := by
    have := World.var?_cell (show Tryd.prog.globalNamed "strconv.ErrSyntax" = some 4 by kernel_rfl) e2 0
    simpa using this
  have c1 : W.cell? ⟨5, 0, none⟩ = some (.iface 126 (.pointer (some a1))) := by
    have := World.var?_cell (show Tryd.prog.globalNamed "strconv.ErrRange" = some 5 by kernel_rfl) e1 0
    simpa using this
  refine ⟨⟨_, _, c2⟩, ⟨_, _, c1⟩, fun j hj => ?_⟩
  · have hl : (Lib.deBruijn32tab.map Int.ofNat).length = 32 := rfl
    have := ht.cell (show Tryd.prog.globalNamed "math/bits.deBruijn32tab" = some 0 by kernel_rfl) j (by omega)
    rw [this]
    have h32 : Lib.deBruijn32tab.length = 32 := rfl
    simp [List.getD, List.getElem?_map, List.getElem?_eq_getElem (show j < Lib.deBruijn32tab.length by omega)]
theorem ge_of_laid {W : World} (h : laidMetH Tryd.prog list W) : GE W := ge_of_laid0 h
abbrev rangeS : ByteArray := { data := #[118, 97, 108, 117, 101, 32, 111, 117, 116, 32, 111, 102, 32, 114, 97, 110, 103, 101] }
abbrev syntaxS : ByteArray := { data := #[105, 110, 118, 97, 108, 105, 100, 32, 115, 121, 110, 116, 97, 120] }
noncomputable def low : Nat := (World.holding Tryd.prog default ⟨#[], #[], []⟩).heap.size
def litsOf {H : Type} : DataW H → Array Value
  | .agg l => (l.map fun
    | .lit (.int k n) => .int k n
    | _ => .nilIface).toArray
  | _ => #[]
noncomputable def put (w : World) (g : Nat) (cs : Array Value) : World := { w with heap := w.heap.modify g fun
      | .cells _ t frozen => .cells cs t frozen
      | o => o }
/-- The settled world with two blocks more, errors' texts; and the listed variables. -/
noncomputable def laidWorld (os : Os) : World :=
  put (put (put (put (put (World.holding Tryd.prog os ⟨#[.cells #[.string rangeS] 128, .cells #[.string syntaxS] 128], #[], []⟩)
    5 #[.iface 126 (.pointer (some ⟨low, 0, none⟩))]) 4 #[.iface 126 (.pointer (some ⟨low + 1, 0, none⟩))])
    0 (litsOf (H := Unit) Rows.laid_math_bits_deBruijn32tab)) 7 (litsOf (H := Unit) Rows.laid_math_bits_deBruijn64tab)) 6 (litsOf (H := Unit) Rows.laid_internal_strconv_uint64pow10)
theorem laidWorld_met0 (os : Os) (args : Array Value) : laidMet Tryd.prog list ((laidWorld os).forCall (fun _ _ => 0) ⟨#[], args, []⟩).memory :=
  laidMet_of_run' 8 (by kernel_rfl) (by kernel_rfl)
theorem laidWorld_met (os : Os) (args : Array Value) : laidMetH Tryd.prog list ((laidWorld os).forCall (fun _ _ => 0) ⟨#[], args, []⟩).memory := laidWorld_met0 os args
end Go.Proofs.YtgcaalgaellciaaDoor.DoorLab
