/-
  DERIVED. GIVEN WITH THE SEED: THE CARDS: each row of YtgcaalgaellciaaDoorRows.lean that lists a variable, with what it lists TIED to the program's text (the seventh form; the later family's looks); each row that meets fmt, with fmt's text TOLD by the authors' own Lean function (tested against real Go, not proved from fmt's source: count such statements apart). THE CARD IS WHAT COUNTS. Prove the row's statement (the work); the ties are given (YtgcaalgaellciaaDoorTie.lean); close each card by the builder's one call (the guide's Derived/Test/ToyasCard.lean, 'card_holds'). Laid BY PROGRAM, IN A SANDBOX (cutbox-door.mjs). By AI agents, Wed Nov 11 2026. No macro, syntax, notation, axiom, sorry.
-/
import Derived.Test.YtgcaalgaellciaaDoorRows
import GoSem.ClaimSeven
namespace Go.Proofs.YtgcaalgaellciaaDoor
namespace Rows

/-- THE TIED CARD OF 'barbicanlaw02.LatticeOrder'. -/
def latticeOrderCard : Claim7 := { stood := { row := latticeOrderRow, standIns := [], harness := (true, "e75bddf855eff70630bc4750b98030fdaf0b8360eb0ba817a065f8b19d014aba"), looks := true }, kinds := [], alts := [], laidByText := true, laidKinds := [.data, .data, .data, .data, .sentinel, .sentinel, .pinned], laidTests := true, laidLooks := .later }
def LatticeOrderCardSaid : Prop := Claim7.holds Tryd.pinned (.plain (OpenSpec.ofChange latticeOrderSpec)) latticeOrderCard

/-- THE TIED CARD OF 'barbicanlaw02.LatticeLies'. -/
def latticeLiesCard : Claim7 := { stood := { row := latticeLiesRow, standIns := [], harness := (true, "e75bddf855eff70630bc4750b98030fdaf0b8360eb0ba817a065f8b19d014aba"), looks := true }, kinds := [], alts := [], laidByText := true, laidKinds := [.data, .data, .data, .data, .sentinel, .sentinel, .pinned], laidTests := true, laidLooks := .later }
def LatticeLiesCardSaid : Prop := Claim7.holds Tryd.pinned (.plain (OpenSpec.ofChange latticeLiesSpec)) latticeLiesCard

/-- THE SECOND FORM's CARD OF 'barbicanlaw02.LatticeOrder'. -/
def latticeOrderUptoCard : Claim7 := { stood := { row := latticeOrderUptoRow, standIns := [], harness := (true, "e75bddf855eff70630bc4750b98030fdaf0b8360eb0ba817a065f8b19d014aba"), looks := true }, kinds := [], alts := [], laidByText := true, laidKinds := [.data, .data, .data, .data, .sentinel, .sentinel, .pinned], laidTests := true, laidLooks := .later }
def LatticeOrderUptoCardSaid : Prop := Claim7.holds Tryd.pinned (.plain (OpenSpec.upto latticeOrderSpec)) latticeOrderUptoCard

/-- THE SECOND FORM's CARD OF 'barbicanlaw02.LatticeLies'. -/
def latticeLiesUptoCard : Claim7 := { stood := { row := latticeLiesUptoRow, standIns := [], harness := (true, "e75bddf855eff70630bc4750b98030fdaf0b8360eb0ba817a065f8b19d014aba"), looks := true }, kinds := [], alts := [], laidByText := true, laidKinds := [.data, .data, .data, .data, .sentinel, .sentinel, .pinned], laidTests := true, laidLooks := .later }
def LatticeLiesUptoCardSaid : Prop := Claim7.holds Tryd.pinned (.plain (OpenSpec.upto latticeLiesSpec)) latticeLiesUptoCard
end Rows
end Go.Proofs.YtgcaalgaellciaaDoor
