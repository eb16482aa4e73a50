/- errors.errorType and a lattice's variables: what the row lists gives the fact that the walks take; a world that meets the list. -/
import Derived.Test.YtgcaalgaellciaaGreatDoorXGb
import Derived.Test.YtgcaalgaellciaaGreatDoorRows
import Derived.Test.YtgcaalgaellciaaGreatDoorXAs
import Derived.LaidHandle
import Derived.LaidLaws
import Derived.RowKit
import Derived.RowKitTokens
import Derived.Deep.DeepHandedRow
import Derived.Test.YtgcaalgaellciaaGreatDoorXGl
import Derived.Stop.LaidErr
import Derived.Lib.LaidTab
/- The variables that a lattice's texts read: what the row lists gives the fact that the walks take; a world that meets the list. -/
/- The variables that a label's texts read: what the row lists gives the fact that the walks take; a world that meets the list. -/
namespace Go.Proofs.YtgcaalgaellciaaGreatDoor.DoorLab
open Go.RowKit Go.Proofs.YtgcaalgaellciaaGreatDoor.Lab
set_option linter.unusedVariables false
set_option maxRecDepth 100000
abbrev list : List (String × DataW Unit) := [("math/bits.deBruijn32tab", Rows.laid_math_bits_deBruijn32tab), ("math/bits.deBruijn64tab", Rows.laid_math_bits_deBruijn64tab), ("internal/strconv.uint64pow10", Rows.laid_internal_strconv_uint64pow10), ("strconv.ErrRange", Rows.laid_strconv_ErrRange), ("strconv.ErrSyntax", Rows.laid_strconv_ErrSyntax)]
theorem star : "*" ++ "errors.errorString" = "*errors.errorString" := by decide
theorem row (u : TypeId) (h : Tryz.prog.typeName? 3 u = some "*errors.errorString") : u = 159 :=
  typeName_ptr_named (nm := "errors.errorString") (by rw [star]; kernel_rfl) (by kernel_rfl) (by decide) u (by rw [star]; exact h)
theorem ge_of_laid0 {W : World} (h : laidMet Tryz.prog list W) : GE W := by
  have h1 : laidMet Tryz.prog [("strconv.ErrRange", Rows.laid_strconv_ErrRange), ("strconv.ErrSyntax", Rows.laid_strconv_ErrSyntax)] W := h.tail.tail.tail
  have hrow := row
  obtain ⟨a1, s1, e1, _⟩ := laid_sentinel (g := 6) (ti := 24) (tp := 159) (te := 161) (ts := 9) h1 (by kernel_rfl) (by kernel_rfl) Tryz.underlying24 hrow Tryz.underlying159 Tryz.underlying161 rfl rfl Tryz.underlying9 (by kernel_rfl) (by kernel_rfl)
  obtain ⟨a2, s2, e2, _⟩ := laid_sentinel (g := 5) (ti := 24) (tp := 159) (te := 161) (ts := 9) h1.tail (by kernel_rfl) (by kernel_rfl) Tryz.underlying24 hrow Tryz.underlying159 Tryz.underlying161 rfl rfl Tryz.underlying9 (by kernel_rfl) (by kernel_rfl)
  have ht := Lib.tabIs_of_head (k := .u8) (zs := Lib.deBruijn32tab.map Int.ofNat) (g := 1) (t := 126) (e := 5) (n := 32) (by kernel_rfl) (by kernel_rfl) Tryz.underlying126 Tryz.underlying5 (by kernel_rfl) (by kernel_rfl) (show laidMet Tryz.prog (("math/bits.deBruijn32tab", Lib.tabData .u8 (Lib.deBruijn32tab.map Int.ofNat)) :: _) W from h)
  have c2 : W.cell? ⟨5, 0, none⟩ = some (.iface 159 (.pointer (some a2))) := by
    have := World.var?_cell (show Tryz.prog.globalNamed "strconv.ErrSyntax" = some 5 by kernel_rfl) e2 0
    simpa using this
  have c1 : W.cell? ⟨6, 0, none⟩ = some (.iface 159 (.pointer (some a1))) := by
    have := World.var?_cell (show Tryz.prog.globalNamed "strconv.ErrRange" = some 6 by kernel_rfl) e1 0
    simpa using this
  refine ⟨⟨_, _, c2⟩, ⟨_, _, c1⟩, fun j hj => ?_⟩
  · have hl : (Lib.deBruijn32tab.map Int.ofNat).length = 32 := rfl
    have := ht.cell (show Tryz.prog.globalNamed "math/bits.deBruijn32tab" = some 1 by kernel_rfl) j (by omega)
    rw [this]
    have h32 : Lib.deBruijn32tab.length = 32 := rfl
    simp [List.getD, List.getElem?_map, List.getElem?_eq_getElem (show j < Lib.deBruijn32tab.length by omega)]
theorem ge_of_laid {W : World} (h : laidMetH Tryz.prog list W) : GE W := ge_of_laid0 h
abbrev rangeS : ByteArray := { data := #[118, 97, 108, 117, 101, 32, 111, 117, 116, 32, 111, 102, 32, 114, 97, 110, 103, 101] }
abbrev syntaxS : ByteArray := { data := #[105, 110, 118, 97, 108, 105, 100, 32, 115, 121, 110, 116, 97, 120] }
noncomputable def low : Nat := (World.holding Tryz.prog default ⟨#[], #[], []⟩).heap.size
def litsOf {H : Type} : DataW H → Array Value
  | .agg l => (l.map fun
    | .lit (.int k n) => .int k n
    | _ => .nilIface).toArray
  | _ => #[]
noncomputable def put (w : World) (g : Nat) (cs : Array Value) : World := { w with heap := w.heap.modify g fun
      | .cells _ t frozen => .cells cs t frozen
      | o => o }
/-- The settled world with two blocks more, errors' texts; and the listed variables. -/
noncomputable def laidWorld (os : Os) : World :=
  put (put (put (put (put (World.holding Tryz.prog os ⟨#[.cells #[.string rangeS] 161, .cells #[.string syntaxS] 161], #[], []⟩)
    6 #[.iface 159 (.pointer (some ⟨low, 0, none⟩))]) 5 #[.iface 159 (.pointer (some ⟨low + 1, 0, none⟩))])
    1 (litsOf (H := Unit) Rows.laid_math_bits_deBruijn32tab)) 8 (litsOf (H := Unit) Rows.laid_math_bits_deBruijn64tab)) 7 (litsOf (H := Unit) Rows.laid_internal_strconv_uint64pow10)
theorem laidWorld_met0 (os : Os) (args : Array Value) : laidMet Tryz.prog list ((laidWorld os).forCall (fun _ _ => 0) ⟨#[], args, []⟩).memory :=
  laidMet_of_run' 8 (by kernel_rfl) (by kernel_rfl)
theorem laidWorld_met (os : Os) (args : Array Value) : laidMetH Tryz.prog list ((laidWorld os).forCall (fun _ _ => 0) ⟨#[], args, []⟩).memory := laidWorld_met0 os args
end Go.Proofs.YtgcaalgaellciaaGreatDoor.DoorLab
namespace Go.Proofs.YtgcaalgaellciaaGreatDoor.DoorLat
open Go.RowKit Go.Proofs.YtgcaalgaellciaaGreatDoor.Lab
set_option linter.unusedVariables false
set_option maxRecDepth 100000
abbrev list : List (String × DataW Unit) := [("math/bits.deBruijn32tab", Rows.laid_math_bits_deBruijn32tab), ("math/bits.deBruijn64tab", Rows.laid_math_bits_deBruijn64tab), ("internal/strconv.uint64pow10", Rows.laid_internal_strconv_uint64pow10), ("unicode/utf8.acceptRanges", Rows.laid_unicode_utf8_acceptRanges), ("strconv.ErrRange", Rows.laid_strconv_ErrRange), ("strconv.ErrSyntax", Rows.laid_strconv_ErrSyntax), ("unicode/utf8.first", Rows.laid_unicode_utf8_first)]
theorem ge_of_laid0 {W : World} (h : laidMet Tryz.prog list W) : GE W := by
  have h1 : laidMet Tryz.prog [("strconv.ErrRange", Rows.laid_strconv_ErrRange), ("strconv.ErrSyntax", Rows.laid_strconv_ErrSyntax), ("unicode/utf8.first", Rows.laid_unicode_utf8_first)] W := h.tail.tail.tail.tail
  have hrow := DoorLab.row
  obtain ⟨a1, s1, e1, _⟩ := laid_sentinel (g := 6) (ti := 24) (tp := 159) (te := 161) (ts := 9) h1 (by kernel_rfl) (by kernel_rfl) Tryz.underlying24 hrow Tryz.underlying159 Tryz.underlying161 rfl rfl Tryz.underlying9 (by kernel_rfl) (by kernel_rfl)
  obtain ⟨a2, s2, e2, _⟩ := laid_sentinel (g := 5) (ti := 24) (tp := 159) (te := 161) (ts := 9) h1.tail (by kernel_rfl) (by kernel_rfl) Tryz.underlying24 hrow Tryz.underlying159 Tryz.underlying161 rfl rfl Tryz.underlying9 (by kernel_rfl) (by kernel_rfl)
  have ht := Lib.tabIs_of_head (k := .u8) (zs := Lib.deBruijn32tab.map Int.ofNat) (g := 1) (t := 126) (e := 5) (n := 32) (by kernel_rfl) (by kernel_rfl) Tryz.underlying126 Tryz.underlying5 (by kernel_rfl) (by kernel_rfl) (show laidMet Tryz.prog (("math/bits.deBruijn32tab", Lib.tabData .u8 (Lib.deBruijn32tab.map Int.ofNat)) :: _) W from h)
  have c2 : W.cell? ⟨5, 0, none⟩ = some (.iface 159 (.pointer (some a2))) := by
    have := World.var?_cell (show Tryz.prog.globalNamed "strconv.ErrSyntax" = some 5 by kernel_rfl) e2 0
    simpa using this
  have c1 : W.cell? ⟨6, 0, none⟩ = some (.iface 159 (.pointer (some a1))) := by
    have := World.var?_cell (show Tryz.prog.globalNamed "strconv.ErrRange" = some 6 by kernel_rfl) e1 0
    simpa using this
  refine ⟨⟨_, _, c2⟩, ⟨_, _, c1⟩, fun j hj => ?_⟩
  · have hl : (Lib.deBruijn32tab.map Int.ofNat).length = 32 := rfl
    have := ht.cell (show Tryz.prog.globalNamed "math/bits.deBruijn32tab" = some 1 by kernel_rfl) j (by omega)
    rw [this]
    have h32 : Lib.deBruijn32tab.length = 32 := rfl
    simp [List.getD, List.getElem?_map, List.getElem?_eq_getElem (show j < Lib.deBruijn32tab.length by omega)]
theorem ge_of_laid {W : World} (h : laidMetH Tryz.prog list W) : GE W := ge_of_laid0 h
def litsOf {H : Type} : DataW H → List Value
  | .agg l => l.flatMap fun
    | .lit (.int k n) => [.int k n]
    | .agg m => m.map fun
      | .lit (.int k n) => .int k n
      | _ => .nilIface
    | _ => []
  | _ => []
noncomputable def laidWorld (os : Os) : World := DoorLab.put (DoorLab.put (DoorLab.laidWorld os) 3 (litsOf (H := Unit) Rows.laid_unicode_utf8_acceptRanges).toArray) 2 (litsOf (H := Unit) Rows.laid_unicode_utf8_first).toArray
theorem laidWorld_met0 (os : Os) (args : Array Value) : laidMet Tryz.prog list ((laidWorld os).forCall (fun _ _ => 0) ⟨#[], args, []⟩).memory :=
  laidMet_of_run' 8 (by kernel_rfl) (by kernel_rfl)
theorem laidWorld_met (os : Os) (args : Array Value) : laidMetH Tryz.prog list ((laidWorld os).forCall (fun _ _ => 0) ⟨#[], args, []⟩).memory := laidWorld_met0 os args
end Go.Proofs.YtgcaalgaellciaaGreatDoor.DoorLat
/- The door's variable: what the row lists gives the fact that the walks take; a world that meets the list. After the guide's ToyasProofs. -/
namespace Go.Proofs.YtgcaalgaellciaaGreatDoor.Door
open Go.RowKit Go.Proofs.YtgcaalgaellciaaGreatDoor.As
set_option linter.unusedVariables false
theorem et : Tryz.prog.globalNamed "errors.errorType" = some 0 := by kernel_rfl
theorem rt : (Tryz.prog.cutTypes.find? (·.1 == "internal/reflectlite.rtype")).map (·.2) = some 110 := by kernel_rfl
theorem oneRow : ((List.range 193).filter fun t => Tryz.prog.rowNamed t [101, 114, 114, 111, 114]) = [24] := by kernel_rfl
theorem size : Tryz.prog.types.size = 193 := by kernel_rfl
theorem ge_of_handles {W : World} (h : handlesMet Tryz.prog [("errors.errorType", Rows.laid_errors_errorType)] W) : GE W := by
  obtain ⟨name, u, ty, e1, e2, e3, e4, e5⟩ := h _ (List.mem_singleton.2 rfl)
  have en : name = [101, 114, 114, 111, 114] := (Option.some.inj e1).symm
  subst en
  obtain rfl := Option.some.inj (rt.symm.trans e2)
  have hm : ty ∈ (List.range 193).filter fun t => Tryz.prog.rowNamed t [101, 114, 114, 111, 114] := List.mem_filter.2 ⟨List.mem_range.2 (by rw [← size]; exact e3), e4⟩
  rw [oneRow] at hm
  obtain rfl := List.mem_singleton.1 hm
  have hh : typeHandle Tryz.prog 24 = .pointer (some ⟨9, 24, none⟩) := by kernel_rfl
  rw [hh] at e5
  show W.cell? ⟨0, 0, none⟩ = _
  simpa using World.var?_cell et e5 0
theorem ge_of_laid {W : World} (h : laidMetH Tryz.prog [("errors.errorType", Rows.laid_errors_errorType)] W) : GE W :=
  ge_of_handles (show laidMet Tryz.prog [] W ∧ handlesMet Tryz.prog [("errors.errorType", Rows.laid_errors_errorType)] W from h).2
noncomputable def laidWorld (os : Os) : World :=
  let w0 := World.holding Tryz.prog os ⟨#[], #[], []⟩
  { w0 with heap := w0.heap.modify 0 fun
      | .cells _ t frozen => .cells #[.iface 110 (.agg #[.pointer (some ⟨9, 24, none⟩)])] t frozen
      | o => o }
theorem laidWorld_met (os : Os) (args : Array Value) : laidMetH Tryz.prog [("errors.errorType", Rows.laid_errors_errorType)] ((laidWorld os).forCall (fun _ _ => 0) ⟨#[], args, []⟩).memory :=
  laidMetH_of_parts (laidMet_nil _ _) (by kernel_rfl)
end Go.Proofs.YtgcaalgaellciaaGreatDoor.Door
namespace Go.Proofs.YtgcaalgaellciaaGreatDoor.DoorBotl
open Go.RowKit Go.Proofs.YtgcaalgaellciaaGreatDoor.Both
set_option linter.unusedVariables false
set_option maxRecDepth 100000
abbrev list : List (String × DataW Unit) := [("math/bits.deBruijn32tab", Rows.laid_math_bits_deBruijn32tab), ("math/bits.deBruijn64tab", Rows.laid_math_bits_deBruijn64tab), ("internal/strconv.uint64pow10", Rows.laid_internal_strconv_uint64pow10), ("unicode/utf8.acceptRanges", Rows.laid_unicode_utf8_acceptRanges), ("errors.errorType", Rows.laid_errors_errorType), ("strconv.ErrRange", Rows.laid_strconv_ErrRange), ("strconv.ErrSyntax", Rows.laid_strconv_ErrSyntax), ("unicode/utf8.first", Rows.laid_unicode_utf8_first)]
theorem ge_of_laid {W : World} (h : laidMetH Tryz.prog list W) : GE W := by
  have h' : laidMet Tryz.prog DoorLat.list W ∧ handlesMet Tryz.prog [("errors.errorType", Rows.laid_errors_errorType)] W := h
  exact ⟨Door.ge_of_handles h'.2, DoorLat.ge_of_laid0 h'.1⟩
noncomputable def laidWorld (os : Os) : World := DoorLab.put (DoorLat.laidWorld os) 0 #[.iface 110 (.agg #[.pointer (some ⟨9, 24, none⟩)])]
theorem laidWorld_met0 (os : Os) (args : Array Value) : laidMet Tryz.prog (list.filter fun x => x.2.handleName?.isNone) ((laidWorld os).forCall (fun _ _ => 0) ⟨#[], args, []⟩).memory :=
  (show laidMet Tryz.prog DoorLat.list ((laidWorld os).forCall (fun _ _ => 0) ⟨#[], args, []⟩).memory from laidMet_of_run' 8 (by kernel_rfl) (by kernel_rfl))
theorem laidWorld_met (os : Os) (args : Array Value) : laidMetH Tryz.prog list ((laidWorld os).forCall (fun _ _ => 0) ⟨#[], args, []⟩).memory :=
  laidMetH_of_parts (laidWorld_met0 os args) (by kernel_rfl)
end Go.Proofs.YtgcaalgaellciaaGreatDoor.DoorBotl
