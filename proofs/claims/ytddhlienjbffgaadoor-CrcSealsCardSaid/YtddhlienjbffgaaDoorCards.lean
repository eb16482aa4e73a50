/-
  DERIVED. GIVEN WITH THE SEED: THE CARDS: each row of YtddhlienjbffgaaDoorRows.lean that lists a variable, with what it lists TIED to the program's text (the seventh form; the later family's looks); each row that meets fmt, with fmt's text TOLD by the authors' own Lean function (tested against real Go, not proved from fmt's source: count such statements apart). THE CARD IS WHAT COUNTS. Prove the row's statement (the work); the ties are given (YtddhlienjbffgaaDoorTie.lean); close each card by the builder's one call (the guide's Derived/Test/ToyasCard.lean, 'card_holds'). Laid BY PROGRAM, IN A SANDBOX (cutbox-door.mjs). By AI agents, Wed Nov 11 2026. No macro, syntax, notation, axiom, sorry.
-/
import Derived.Test.YtddhlienjbffgaaDoorRows
import GoSem.ClaimSeven
namespace Go.Proofs.YtddhlienjbffgaaDoor
namespace Rows

/-- THE TIED CARD OF 'barbicanlaw04.CrcSeals'. -/
def crcSealsCard : Claim7 := { stood := { row := crcSealsRow, standIns := [], harness := (true, "a2022efeb5d48512d47ed9f0f4de2a61bc9c5a62921b4dd8e6be5e01c2ee5643"), looks := true }, kinds := [], alts := [], laidByText := true, laidKinds := [.handle], laidTests := true, laidLooks := .later }
def CrcSealsCardSaid : Prop := Claim7.holds Tryd.pinned (.plain (OpenSpec.ofChange crcSealsSpec)) crcSealsCard

/-- THE SECOND FORM's CARD OF 'barbicanlaw04.CrcSeals'. -/
def crcSealsUptoCard : Claim7 := { stood := { row := crcSealsUptoRow, standIns := [], harness := (true, "a2022efeb5d48512d47ed9f0f4de2a61bc9c5a62921b4dd8e6be5e01c2ee5643"), looks := true }, kinds := [], alts := [], laidByText := true, laidKinds := [.handle], laidTests := true, laidLooks := .later }
def CrcSealsUptoCardSaid : Prop := Claim7.holds Tryd.pinned (.plain (OpenSpec.upto crcSealsSpec)) crcSealsUptoCard
end Rows
end Go.Proofs.YtddhlienjbffgaaDoor
