/-
  DERIVED. GIVEN WITH THE SEED: THE CARDS: each row of YtkcbgnhgjlbmlaaDoorRows.lean that lists a variable, with what it lists TIED to the program's text (the seventh form; the later family's looks); each row that meets fmt, with fmt's text TOLD by the authors' own Lean function (tested against real Go, not proved from fmt's source: count such statements apart). THE CARD IS WHAT COUNTS. Prove the row's statement (the work); the ties are given (YtkcbgnhgjlbmlaaDoorTie.lean); close each card by the builder's one call (the guide's Derived/Test/ToyasCard.lean, 'card_holds'). Laid BY PROGRAM, IN A SANDBOX (cutbox-door.mjs). By AI agents, Wed Nov 11 2026. No macro, syntax, notation, axiom, sorry.
-/
import Derived.Test.YtkcbgnhgjlbmlaaDoorRows
import GoSem.ClaimSeven
namespace Go.Proofs.YtkcbgnhgjlbmlaaDoor
namespace Rows

/-- THE TIED CARD OF 'barbicanlaw15.TableCatalogs'. -/
def tableCatalogsCard : Claim7 := { stood := { row := tableCatalogsRow, standIns := [], harness := (true, "f07ace7ade4278a7038987c5dcf520ce2ee3611471f504b1d71a2183320e2fd0"), looks := true }, kinds := [], alts := [], laidByText := true, laidKinds := [.data, .handle, .pinned], laidTests := true, laidLooks := .later }
def TableCatalogsCardSaid : Prop := Claim7.holds Tryd.pinned (.plain (OpenSpec.ofChange tableCatalogsSpec)) tableCatalogsCard

/-- THE SECOND FORM's CARD OF 'barbicanlaw15.TableCatalogs'. -/
def tableCatalogsUptoCard : Claim7 := { stood := { row := tableCatalogsUptoRow, standIns := [], harness := (true, "f07ace7ade4278a7038987c5dcf520ce2ee3611471f504b1d71a2183320e2fd0"), looks := true }, kinds := [], alts := [], laidByText := true, laidKinds := [.data, .handle, .pinned], laidTests := true, laidLooks := .later }
def TableCatalogsUptoCardSaid : Prop := Claim7.holds Tryd.pinned (.plain (OpenSpec.upto tableCatalogsSpec)) tableCatalogsUptoCard
end Rows
end Go.Proofs.YtkcbgnhgjlbmlaaDoor
