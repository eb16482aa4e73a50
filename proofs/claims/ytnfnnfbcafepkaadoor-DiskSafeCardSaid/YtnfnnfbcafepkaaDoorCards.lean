/-
  DERIVED. GIVEN WITH THE SEED: THE CARDS: each row of YtnfnnfbcafepkaaDoorRows.lean that lists a variable, with what it lists TIED to the program's text (the seventh form; the later family's looks); each row that meets fmt, with fmt's text TOLD by the authors' own Lean function (tested against real Go, not proved from fmt's source: count such statements apart). THE CARD IS WHAT COUNTS. Prove the row's statement (the work); the ties are given (YtnfnnfbcafepkaaDoorTie.lean); close each card by the builder's one call (the guide's Derived/Test/ToyasCard.lean, 'card_holds'). Laid BY PROGRAM, IN A SANDBOX (cutbox-door.mjs). By AI agents, Wed Nov 11 2026. No macro, syntax, notation, axiom, sorry.
-/
import Derived.Test.YtnfnnfbcafepkaaDoorRows
import GoSem.ClaimSeven
namespace Go.Proofs.YtnfnnfbcafepkaaDoor
namespace Rows

/-- THE TIED CARD OF 'barbicanlaw08.DiskArmed'. -/
def diskArmedCard : Claim7 := { stood := { row := diskArmedRow, standIns := [], harness := (true, "34d56961f32581365ddbab3777f6d7aee6376ad0581c5ba3e0cf49a289bb4640"), looks := true }, kinds := [], alts := [], laidByText := true, laidKinds := [.handle], laidTests := true, laidLooks := .later }
def DiskArmedCardSaid : Prop := Claim7.holds Tryd.pinned (.plain (OpenSpec.ofChange diskArmedSpec)) diskArmedCard

/-- THE TIED CARD OF 'barbicanlaw08.DiskSafe'. -/
def diskSafeCard : Claim7 := { stood := { row := diskSafeRow, standIns := [], harness := (true, "34d56961f32581365ddbab3777f6d7aee6376ad0581c5ba3e0cf49a289bb4640"), looks := true }, kinds := [], alts := [], laidByText := true, laidKinds := [.handle], laidTests := true, laidLooks := .later }
def DiskSafeCardSaid : Prop := Claim7.holds Tryd.pinned (.plain (OpenSpec.ofChange diskSafeSpec)) diskSafeCard

/-- THE TIED CARD OF 'barbicanlaw08.DiskRuns'. -/
def diskRunsCard : Claim7 := { stood := { row := diskRunsRow, standIns := [], harness := (true, "34d56961f32581365ddbab3777f6d7aee6376ad0581c5ba3e0cf49a289bb4640"), looks := true }, kinds := [], alts := [], laidByText := true, laidKinds := [.handle], laidTests := true, laidLooks := .later }
def DiskRunsCardSaid : Prop := Claim7.holds Tryd.pinned (.plain (OpenSpec.ofChange diskRunsSpec)) diskRunsCard

/-- THE SECOND FORM's CARD OF 'barbicanlaw08.DiskArmed'. -/
def diskArmedUptoCard : Claim7 := { stood := { row := diskArmedUptoRow, standIns := [], harness := (true, "34d56961f32581365ddbab3777f6d7aee6376ad0581c5ba3e0cf49a289bb4640"), looks := true }, kinds := [], alts := [], laidByText := true, laidKinds := [.handle], laidTests := true, laidLooks := .later }
def DiskArmedUptoCardSaid : Prop := Claim7.holds Tryd.pinned (.plain (OpenSpec.upto diskArmedSpec)) diskArmedUptoCard

/-- THE SECOND FORM's CARD OF 'barbicanlaw08.DiskSafe'. -/
def diskSafeUptoCard : Claim7 := { stood := { row := diskSafeUptoRow, standIns := [], harness := (true, "34d56961f32581365ddbab3777f6d7aee6376ad0581c5ba3e0cf49a289bb4640"), looks := true }, kinds := [], alts := [], laidByText := true, laidKinds := [.handle], laidTests := true, laidLooks := .later }
def DiskSafeUptoCardSaid : Prop := Claim7.holds Tryd.pinned (.plain (OpenSpec.upto diskSafeSpec)) diskSafeUptoCard

/-- THE SECOND FORM's CARD OF 'barbicanlaw08.DiskRuns'. -/
def diskRunsUptoCard : Claim7 := { stood := { row := diskRunsUptoRow, standIns := [], harness := (true, "34d56961f32581365ddbab3777f6d7aee6376ad0581c5ba3e0cf49a289bb4640"), looks := true }, kinds := [], alts := [], laidByText := true, laidKinds := [.handle], laidTests := true, laidLooks := .later }
def DiskRunsUptoCardSaid : Prop := Claim7.holds Tryd.pinned (.plain (OpenSpec.upto diskRunsSpec)) diskRunsUptoCard
end Rows
end Go.Proofs.YtnfnnfbcafepkaaDoor
