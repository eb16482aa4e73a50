/-
  DERIVED. GIVEN WITH THE SEED: THE CARDS: each row of YtindggjkcnelcaaDoorRows.lean that lists a variable, with what it lists TIED to the program's text (the seventh form; the later family's looks); each row that meets fmt, with fmt's text TOLD by the authors' own Lean function (tested against real Go, not proved from fmt's source: count such statements apart). THE CARD IS WHAT COUNTS. Prove the row's statement (the work); the ties are given (YtindggjkcnelcaaDoorTie.lean); close each card by the builder's one call (the guide's Derived/Test/ToyasCard.lean, 'card_holds'). Laid BY PROGRAM, IN A SANDBOX (cutbox-door.mjs). By AI agents, Wed Nov 11 2026. No macro, syntax, notation, axiom, sorry.
-/
import Derived.Test.YtindggjkcnelcaaDoorRows
import GoSem.ClaimSeven
namespace Go.Proofs.YtindggjkcnelcaaDoor
namespace Rows

/-- THE TIED CARD OF 'barbicanlaw04.CrcSeals'. -/
def crcSealsCard : Claim7 := { stood := { row := crcSealsRow, standIns := [], harness := (true, "3fd37b5637cd17892222b6f953bd462b5ab45e9517bc044c3adb1eddc51c5457"), looks := true }, kinds := [], alts := [], laidByText := true, laidKinds := [.handle], laidTests := true, laidLooks := .later }
def CrcSealsCardSaid : Prop := Claim7.holds Tryd.pinned (.plain (OpenSpec.ofChange crcSealsSpec)) crcSealsCard

/-- THE TIED CARD OF 'barbicanlaw04.CrcBursts'. -/
def crcBurstsCard : Claim7 := { stood := { row := crcBurstsRow, standIns := [], harness := (true, "3fd37b5637cd17892222b6f953bd462b5ab45e9517bc044c3adb1eddc51c5457"), looks := true }, kinds := [], alts := [], laidByText := true, laidKinds := [.handle], laidTests := true, laidLooks := .later }
def CrcBurstsCardSaid : Prop := Claim7.holds Tryd.pinned (.plain (OpenSpec.ofChange crcBurstsSpec)) crcBurstsCard

/-- THE TIED CARD OF 'barbicanlaw10.RecordFrames'. -/
def recordFramesCard : Claim7 := { stood := { row := recordFramesRow, standIns := [], harness := (true, "3fd37b5637cd17892222b6f953bd462b5ab45e9517bc044c3adb1eddc51c5457"), looks := true }, kinds := [], alts := [], laidByText := true, laidKinds := [.handle], laidTests := true, laidLooks := .later }
def RecordFramesCardSaid : Prop := Claim7.holds Tryd.pinned (.plain (OpenSpec.ofChange recordFramesSpec)) recordFramesCard

/-- THE TIED CARD OF 'barbicanlaw10.RecordLengths'. -/
def recordLengthsCard : Claim7 := { stood := { row := recordLengthsRow, standIns := [], harness := (true, "3fd37b5637cd17892222b6f953bd462b5ab45e9517bc044c3adb1eddc51c5457"), looks := true }, kinds := [], alts := [], laidByText := true, laidKinds := [.handle], laidTests := true, laidLooks := .later }
def RecordLengthsCardSaid : Prop := Claim7.holds Tryd.pinned (.plain (OpenSpec.ofChange recordLengthsSpec)) recordLengthsCard

/-- THE TIED CARD OF 'barbicanlaw10.RecordEpochs'. -/
def recordEpochsCard : Claim7 := { stood := { row := recordEpochsRow, standIns := [], harness := (true, "3fd37b5637cd17892222b6f953bd462b5ab45e9517bc044c3adb1eddc51c5457"), looks := true }, kinds := [], alts := [], laidByText := true, laidKinds := [.handle], laidTests := true, laidLooks := .later }
def RecordEpochsCardSaid : Prop := Claim7.holds Tryd.pinned (.plain (OpenSpec.ofChange recordEpochsSpec)) recordEpochsCard

/-- THE SECOND FORM's CARD OF 'barbicanlaw04.CrcSeals'. -/
def crcSealsUptoCard : Claim7 := { stood := { row := crcSealsUptoRow, standIns := [], harness := (true, "3fd37b5637cd17892222b6f953bd462b5ab45e9517bc044c3adb1eddc51c5457"), looks := true }, kinds := [], alts := [], laidByText := true, laidKinds := [.handle], laidTests := true, laidLooks := .later }
def CrcSealsUptoCardSaid : Prop := Claim7.holds Tryd.pinned (.plain (OpenSpec.upto crcSealsSpec)) crcSealsUptoCard

/-- THE SECOND FORM's CARD OF 'barbicanlaw04.CrcBursts'. -/
def crcBurstsUptoCard : Claim7 := { stood := { row := crcBurstsUptoRow, standIns := [], harness := (true, "3fd37b5637cd17892222b6f953bd462b5ab45e9517bc044c3adb1eddc51c5457"), looks := true }, kinds := [], alts := [], laidByText := true, laidKinds := [.handle], laidTests := true, laidLooks := .later }
def CrcBurstsUptoCardSaid : Prop := Claim7.holds Tryd.pinned (.plain (OpenSpec.upto crcBurstsSpec)) crcBurstsUptoCard

/-- THE SECOND FORM's CARD OF 'barbicanlaw10.RecordFrames'. -/
def recordFramesUptoCard : Claim7 := { stood := { row := recordFramesUptoRow, standIns := [], harness := (true, "3fd37b5637cd17892222b6f953bd462b5ab45e9517bc044c3adb1eddc51c5457"), looks := true }, kinds := [], alts := [], laidByText := true, laidKinds := [.handle], laidTests := true, laidLooks := .later }
def RecordFramesUptoCardSaid : Prop := Claim7.holds Tryd.pinned (.plain (OpenSpec.upto recordFramesSpec)) recordFramesUptoCard

/-- THE SECOND FORM's CARD OF 'barbicanlaw10.RecordLengths'. -/
def recordLengthsUptoCard : Claim7 := { stood := { row := recordLengthsUptoRow, standIns := [], harness := (true, "3fd37b5637cd17892222b6f953bd462b5ab45e9517bc044c3adb1eddc51c5457"), looks := true }, kinds := [], alts := [], laidByText := true, laidKinds := [.handle], laidTests := true, laidLooks := .later }
def RecordLengthsUptoCardSaid : Prop := Claim7.holds Tryd.pinned (.plain (OpenSpec.upto recordLengthsSpec)) recordLengthsUptoCard

/-- THE SECOND FORM's CARD OF 'barbicanlaw10.RecordEpochs'. -/
def recordEpochsUptoCard : Claim7 := { stood := { row := recordEpochsUptoRow, standIns := [], harness := (true, "3fd37b5637cd17892222b6f953bd462b5ab45e9517bc044c3adb1eddc51c5457"), looks := true }, kinds := [], alts := [], laidByText := true, laidKinds := [.handle], laidTests := true, laidLooks := .later }
def RecordEpochsUptoCardSaid : Prop := Claim7.holds Tryd.pinned (.plain (OpenSpec.upto recordEpochsSpec)) recordEpochsUptoCard
end Rows
end Go.Proofs.YtindggjkcnelcaaDoor
