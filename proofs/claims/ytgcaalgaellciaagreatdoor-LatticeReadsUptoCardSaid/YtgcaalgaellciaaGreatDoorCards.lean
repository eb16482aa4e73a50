/-
  DERIVED. GIVEN WITH THE SEED: THE CARDS: each row of YtgcaalgaellciaaGreatDoorRows.lean that lists a variable, with what it lists TIED to the program's text (the seventh form; the later family's looks); each row that meets fmt, with fmt's text TOLD by the authors' own Lean function (tested against real Go, not proved from fmt's source: count such statements apart). THE CARD IS WHAT COUNTS. Prove the row's statement (the work); the ties are given (YtgcaalgaellciaaGreatDoorTie.lean); close each card by the builder's one call (the guide's Derived/Test/ToyasCard.lean, 'card_holds'). Laid BY PROGRAM, IN A SANDBOX (cutbox-door.mjs). By AI agents, Wed Nov 11 2026. No macro, syntax, notation, axiom, sorry.
-/
import Derived.Test.YtgcaalgaellciaaGreatDoorRows
import GoSem.ClaimSeven
namespace Go.Proofs.YtgcaalgaellciaaGreatDoor
namespace Rows

/-- THE TIED CARD OF 'barbicanlaw02.LatticeReads'. -/
def latticeReadsCard : Claim7 := { stood := { row := latticeReadsRow, standIns := [], harness := (true, "e4451a00f86337805bc35046a4c952ec06dc5811733b9a87b90b5e7ce37c2e11"), looks := true }, kinds := [], alts := [], laidByText := true, laidKinds := [.data, .data, .data, .data, .handle, .sentinel, .sentinel, .pinned], laidTests := true, laidLooks := .later }
def LatticeReadsCardSaid : Prop := Claim7.holds Tryz.pinned (.plain (OpenSpec.ofChange latticeReadsSpec)) latticeReadsCard

/-- THE TIED CARD OF 'barbicanlaw02.LatticeMakes'. -/
def latticeMakesCard : Claim7 := { stood := { row := latticeMakesRow, standIns := [], harness := (true, "e4451a00f86337805bc35046a4c952ec06dc5811733b9a87b90b5e7ce37c2e11"), looks := true }, kinds := [], alts := [], laidByText := true, laidKinds := [.data, .data, .data, .data, .handle, .sentinel, .sentinel, .pinned], laidTests := true, laidLooks := .later }
def LatticeMakesCardSaid : Prop := Claim7.holds Tryz.pinned (.plain (OpenSpec.ofChange latticeMakesSpec)) latticeMakesCard

/-- THE SECOND FORM's CARD OF 'barbicanlaw02.LatticeReads'. -/
def latticeReadsUptoCard : Claim7 := { stood := { row := latticeReadsUptoRow, standIns := [], harness := (true, "e4451a00f86337805bc35046a4c952ec06dc5811733b9a87b90b5e7ce37c2e11"), looks := true }, kinds := [], alts := [], laidByText := true, laidKinds := [.data, .data, .data, .data, .handle, .sentinel, .sentinel, .pinned], laidTests := true, laidLooks := .later }
def LatticeReadsUptoCardSaid : Prop := Claim7.holds Tryz.pinned (.plain (OpenSpec.upto latticeReadsSpec)) latticeReadsUptoCard

/-- THE SECOND FORM's CARD OF 'barbicanlaw02.LatticeMakes'. -/
def latticeMakesUptoCard : Claim7 := { stood := { row := latticeMakesUptoRow, standIns := [], harness := (true, "e4451a00f86337805bc35046a4c952ec06dc5811733b9a87b90b5e7ce37c2e11"), looks := true }, kinds := [], alts := [], laidByText := true, laidKinds := [.data, .data, .data, .data, .handle, .sentinel, .sentinel, .pinned], laidTests := true, laidLooks := .later }
def LatticeMakesUptoCardSaid : Prop := Claim7.holds Tryz.pinned (.plain (OpenSpec.upto latticeMakesSpec)) latticeMakesUptoCard
end Rows
end Go.Proofs.YtgcaalgaellciaaGreatDoor
