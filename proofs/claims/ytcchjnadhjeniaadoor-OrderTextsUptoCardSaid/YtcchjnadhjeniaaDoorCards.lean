/-
  DERIVED. GIVEN WITH THE SEED: THE CARDS: each row of YtcchjnadhjeniaaDoorRows.lean that lists a variable, with what it lists TIED to the program's text (the seventh form; the later family's looks); each row that meets fmt, with fmt's text TOLD by the authors' own Lean function (tested against real Go, not proved from fmt's source: count such statements apart). THE CARD IS WHAT COUNTS. Prove the row's statement (the work); the ties are given (YtcchjnadhjeniaaDoorTie.lean); close each card by the builder's one call (the guide's Derived/Test/ToyasCard.lean, 'card_holds'). Laid BY PROGRAM, IN A SANDBOX (cutbox-door.mjs). By AI agents, Wed Nov 11 2026. No macro, syntax, notation, axiom, sorry.
-/
import Derived.Test.YtcchjnadhjeniaaDoorRows
import GoSem.ClaimSeven
namespace Go.Proofs.YtcchjnadhjeniaaDoor
namespace Rows

/-- THE TIED CARD OF 'barbicanlaw06.OrderTexts'. -/
def orderTextsCard : Claim7 := { stood := { row := orderTextsRow, standIns := [], harness := (true, "4245eea0178373ea90e3aa8012bbf33ceac47128ca6f0d5138fc58816ae3bfd3"), looks := true }, kinds := [], alts := [], laidByText := true, laidKinds := [.handle], laidTests := true, laidLooks := .later }
def OrderTextsCardSaid : Prop := Claim7.holds Tryd.pinned (.plain (OpenSpec.ofChange orderTextsSpec)) orderTextsCard

/-- THE SECOND FORM's CARD OF 'barbicanlaw06.OrderTexts'. -/
def orderTextsUptoCard : Claim7 := { stood := { row := orderTextsUptoRow, standIns := [], harness := (true, "4245eea0178373ea90e3aa8012bbf33ceac47128ca6f0d5138fc58816ae3bfd3"), looks := true }, kinds := [], alts := [], laidByText := true, laidKinds := [.handle], laidTests := true, laidLooks := .later }
def OrderTextsUptoCardSaid : Prop := Claim7.holds Tryd.pinned (.plain (OpenSpec.upto orderTextsSpec)) orderTextsUptoCard
end Rows
end Go.Proofs.YtcchjnadhjeniaaDoor
