/- The variables that a lattice's texts read: what the row lists gives the fact that the walks take; a world that meets the list. -/
import Derived.Test.YtgcaalgaellciaaDoorXDoorLab
namespace Go.Proofs.YtgcaalgaellciaaDoor.DoorLat
open Go.RowKit Go.Proofs.YtgcaalgaellciaaDoor.Lab
set_option linter.unusedVariables false
set_option maxRecDepth 100000
abbrev list : List (String × DataW Unit) := [("math/bits.deBruijn32tab", Rows.laid_math_bits_deBruijn32tab), ("math/bits.deBruijn64tab", Rows.laid_math_bits_deBruijn64tab), ("internal/strconv.uint64pow10", Rows.laid_internal_strconv_uint64pow10), ("unicode/utf8.acceptRanges", Rows.laid_unicode_utf8_acceptRanges), ("strconv.ErrRange", Rows.laid_strconv_ErrRange), ("strconv.ErrSyntax", Rows.laid_strconv_ErrSyntax), ("unicode/utf8.first", Rows.laid_unicode_utf8_first)]
theorem ge_of_laid0 {W : World} (h : laidMet Tryd.prog list W) : GE W := by
  have h1 : laidMet Tryd.prog [("strconv.ErrRange", Rows.laid_strconv_ErrRange), ("strconv.ErrSyntax", Rows.laid_strconv_ErrSyntax), ("unicode/utf8.first", Rows.laid_unicode_utf8_first)] W := h.tail.tail.tail.tail
  have hrow := DoorLab.row
  obtain ⟨a1, s1, e1, _⟩ := laid_sentinel (g := 5) (ti := 25) (tp := 126) (te := 128) (ts := 9) h1 (by kernel_rfl) (by kernel_rfl) Tryd.underlying25 hrow Tryd.underlying126 Tryd.underlying128 rfl rfl Tryd.underlying9 (by kernel_rfl) (by kernel_rfl)
  obtain ⟨a2, s2, e2, _⟩ := laid_sentinel (g := 4) (ti := 25) (tp := 126) (te := 128) (ts := 9) h1.tail (by kernel_rfl) (by kernel_rfl) Tryd.underlying25 hrow Tryd.underlying126 Tryd.underlying128 rfl rfl Tryd.underlying9 (by kernel_rfl) (by kernel_rfl)
  have ht := Lib.tabIs_of_head (k := .u8) (zs := Lib.deBruijn32tab.map Int.ofNat) (g := 0) (t := 83) (e := 5) (n := 32) (by kernel_rfl) (by kernel_rfl) Tryd.underlying83 Tryd.underlying5 (by kernel_rfl) (by kernel_rfl) (show laidMet Tryd.prog (("math/bits.deBruijn32tab", Lib.tabData .u8 (Lib.deBruijn32tab.map Int.ofNat)) :: _) W from h)
  have c2 : W.cell? ⟨4, 0, none⟩ = some (.iface 126 (.pointer (some a2))) := by
    have := World.var?_cell (show Tryd.prog.globalNamed "strconv.ErrSyntax" = some 4 by kernel_rfl) e2 0
    simpa using this
  have c1 : W.cell? ⟨5, 0, none⟩ = some (.iface 126 (.pointer (some a1))) := by
    have := World.var?_cell (show Tryd.prog.globalNamed "strconv.ErrRange" = some 5 by kernel_rfl) e1 0
    simpa using this
  refine ⟨⟨_, _, c2⟩, ⟨_, _, c1⟩, fun j hj => ?_⟩
  · have hl : (Lib.deBruijn32tab.map Int.ofNat).length = 32 := rfl
    have := ht.cell (show Tryd.prog.globalNamed "math/bits.deBruijn32tab" = some 0 by kernel_rfl) j (by omega)
    rw [this]
    have h32 : Lib.deBruijn32tab.length = 32 := rfl
    simp [List.getD, List.getElem?_map, List.getElem?_eq_getElem (show j < Lib.deBruijn32tab.length by omega)]
theorem ge_of_laid {W : World} (h : laidMetH Tryd.prog list W) : GE W := ge_of_laid0 h
def litsOf {H : Type} : DataW H → List Value
  | .agg l => l.flatMap fun
    | .lit (.int k n) => [.int k n]
    | .agg m => m.map fun
      | .lit (.int k n) => .int k n
      | _ => .nilIface
    | _ => []
  | _ => []
noncomputable def laidWorld (os : Os) : World := DoorLab.put (DoorLab.put (DoorLab.laidWorld os) 3 (litsOf (H := Unit) Rows.laid_unicode_utf8_acceptRanges).toArray) 2 (litsOf (H := Unit) Rows.laid_unicode_utf8_first).toArray
theorem laidWorld_met0 (os : Os) (args : Array Value) : laidMet Tryd.prog list ((laidWorld os).forCall (fun _ _ => 0) ⟨#[], args, []⟩).memory :=
  laidMet_of_run' 8 (by kernel_rfl) (by kernel_rfl)
theorem laidWorld_met (os : Os) (args : Array Value) : laidMetH Tryd.prog list ((laidWorld os).forCall (fun _ _ => 0) ⟨#[], args, []⟩).memory := laidWorld_met0 os args
end Go.Proofs.YtgcaalgaellciaaDoor.DoorLat
