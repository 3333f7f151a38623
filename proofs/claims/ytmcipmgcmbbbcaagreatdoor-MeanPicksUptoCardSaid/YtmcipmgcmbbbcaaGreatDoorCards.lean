/-
  DERIVED. GIVEN WITH THE SEED: THE CARDS: each row of YtmcipmgcmbbbcaaGreatDoorRows.lean that lists a variable, with what it lists TIED to the program's text (the seventh form; the later family's looks); each row that meets fmt, with fmt's text TOLD by the authors' own Lean function (tested against real Go, not proved from fmt's source: count such statements apart). THE CARD IS WHAT COUNTS. Prove the row's statement (the work); the ties are given (YtmcipmgcmbbbcaaGreatDoorTie.lean); close each card by the builder's one call (the guide's Derived/Test/ToyasCard.lean, 'card_holds'). Laid BY PROGRAM, IN A SANDBOX (cutbox-door.mjs). By AI agents, Wed Nov 11 2026. No macro, syntax, notation, axiom, sorry.
-/
import Derived.Test.YtmcipmgcmbbbcaaGreatDoorRows
import GoSem.ClaimSeven
namespace Go.Proofs.YtmcipmgcmbbbcaaGreatDoor
namespace Rows

/-- THE TIED CARD OF 'swardlaw06.MeanEvals'. -/
def meanEvalsCard : Claim7 := { stood := { row := meanEvalsRow, standIns := [], harness := (true, "b7ac56e8c500d422fc821b9d3f7a12e8bcaa94d3f95a159ce281e93b32c76aad"), looks := true }, kinds := [], alts := [], laidByText := true, laidKinds := [.data, .data, .data, .listed, .data], laidTests := true, laidLooks := .later }
def MeanEvalsCardSaid : Prop := Claim7.holds Tryz.pinned (.plain (OpenSpec.ofChange meanEvalsSpec)) meanEvalsCard

/-- THE TIED CARD OF 'swardlaw06.MeanNames'. -/
def meanNamesCard : Claim7 := { stood := { row := meanNamesRow, standIns := [], harness := (true, "b7ac56e8c500d422fc821b9d3f7a12e8bcaa94d3f95a159ce281e93b32c76aad"), looks := true }, kinds := [], alts := [], laidByText := true, laidKinds := [.data, .data, .data, .listed, .data], laidTests := true, laidLooks := .later }
def MeanNamesCardSaid : Prop := Claim7.holds Tryz.pinned (.plain (OpenSpec.ofChange meanNamesSpec)) meanNamesCard

/-- THE TIED CARD OF 'swardlaw06.MeanStarts'. -/
def meanStartsCard : Claim7 := { stood := { row := meanStartsRow, standIns := [], harness := (true, "b7ac56e8c500d422fc821b9d3f7a12e8bcaa94d3f95a159ce281e93b32c76aad"), looks := true }, kinds := [], alts := [], laidByText := true, laidKinds := [.data, .data, .data, .listed, .data], laidTests := true, laidLooks := .later }
def MeanStartsCardSaid : Prop := Claim7.holds Tryz.pinned (.plain (OpenSpec.ofChange meanStartsSpec)) meanStartsCard

/-- THE TIED CARD OF 'swardlaw06.MeanRuns'. -/
def meanRunsCard : Claim7 := { stood := { row := meanRunsRow, standIns := [], harness := (true, "b7ac56e8c500d422fc821b9d3f7a12e8bcaa94d3f95a159ce281e93b32c76aad"), looks := true }, kinds := [], alts := [], laidByText := true, laidKinds := [.data, .data, .data, .listed, .data], laidTests := true, laidLooks := .later }
def MeanRunsCardSaid : Prop := Claim7.holds Tryz.pinned (.plain (OpenSpec.ofChange meanRunsSpec)) meanRunsCard

/-- THE TIED CARD OF 'swardlaw06.MeanBreaks'. -/
def meanBreaksCard : Claim7 := { stood := { row := meanBreaksRow, standIns := [], harness := (true, "b7ac56e8c500d422fc821b9d3f7a12e8bcaa94d3f95a159ce281e93b32c76aad"), looks := true }, kinds := [], alts := [], laidByText := true, laidKinds := [.data, .data, .data, .listed, .data], laidTests := true, laidLooks := .later }
def MeanBreaksCardSaid : Prop := Claim7.holds Tryz.pinned (.plain (OpenSpec.ofChange meanBreaksSpec)) meanBreaksCard

/-- THE TIED CARD OF 'swardlaw06.MeanTouches'. -/
def meanTouchesCard : Claim7 := { stood := { row := meanTouchesRow, standIns := [], harness := (true, "b7ac56e8c500d422fc821b9d3f7a12e8bcaa94d3f95a159ce281e93b32c76aad"), looks := true }, kinds := [], alts := [], laidByText := true, laidKinds := [.data, .data, .data, .listed, .data], laidTests := true, laidLooks := .later }
def MeanTouchesCardSaid : Prop := Claim7.holds Tryz.pinned (.plain (OpenSpec.ofChange meanTouchesSpec)) meanTouchesCard

/-- THE TIED CARD OF 'swardlaw06.MeanFrame'. -/
def meanFrameCard : Claim7 := { stood := { row := meanFrameRow, standIns := [], harness := (true, "b7ac56e8c500d422fc821b9d3f7a12e8bcaa94d3f95a159ce281e93b32c76aad"), looks := true }, kinds := [], alts := [], laidByText := true, laidKinds := [.data, .data, .data, .listed, .data], laidTests := true, laidLooks := .later }
def MeanFrameCardSaid : Prop := Claim7.holds Tryz.pinned (.plain (OpenSpec.ofChange meanFrameSpec)) meanFrameCard

/-- THE TIED CARD OF 'swardlaw06.MeanPicks'. -/
def meanPicksCard : Claim7 := { stood := { row := meanPicksRow, standIns := [], harness := (true, "b7ac56e8c500d422fc821b9d3f7a12e8bcaa94d3f95a159ce281e93b32c76aad"), looks := true }, kinds := [], alts := [], laidByText := true, laidKinds := [.data, .data, .data, .listed, .data], laidTests := true, laidLooks := .later }
def MeanPicksCardSaid : Prop := Claim7.holds Tryz.pinned (.plain (OpenSpec.ofChange meanPicksSpec)) meanPicksCard

/-- THE TIED CARD OF 'swardlaw06.MeanLeast'. -/
def meanLeastCard : Claim7 := { stood := { row := meanLeastRow, standIns := [], harness := (true, "b7ac56e8c500d422fc821b9d3f7a12e8bcaa94d3f95a159ce281e93b32c76aad"), looks := true }, kinds := [], alts := [], laidByText := true, laidKinds := [.data, .data, .data, .listed, .data], laidTests := true, laidLooks := .later }
def MeanLeastCardSaid : Prop := Claim7.holds Tryz.pinned (.plain (OpenSpec.ofChange meanLeastSpec)) meanLeastCard

/-- THE TIED CARD OF 'swardlaw06.MeanFuels'. -/
def meanFuelsCard : Claim7 := { stood := { row := meanFuelsRow, standIns := [], harness := (true, "b7ac56e8c500d422fc821b9d3f7a12e8bcaa94d3f95a159ce281e93b32c76aad"), looks := true }, kinds := [], alts := [], laidByText := true, laidKinds := [.data, .data, .data, .listed, .data], laidTests := true, laidLooks := .later }
def MeanFuelsCardSaid : Prop := Claim7.holds Tryz.pinned (.plain (OpenSpec.ofChange meanFuelsSpec)) meanFuelsCard

/-- THE TIED CARD OF 'swardlaw06.MeanSteps'. -/
def meanStepsCard : Claim7 := { stood := { row := meanStepsRow, standIns := [], harness := (true, "b7ac56e8c500d422fc821b9d3f7a12e8bcaa94d3f95a159ce281e93b32c76aad"), looks := true }, kinds := [], alts := [], laidByText := true, laidKinds := [.data, .data, .data, .listed, .data], laidTests := true, laidLooks := .later }
def MeanStepsCardSaid : Prop := Claim7.holds Tryz.pinned (.plain (OpenSpec.ofChange meanStepsSpec)) meanStepsCard

/-- THE TIED CARD OF 'swardlaw06.MeanPlays'. -/
def meanPlaysCard : Claim7 := { stood := { row := meanPlaysRow, standIns := [], harness := (true, "b7ac56e8c500d422fc821b9d3f7a12e8bcaa94d3f95a159ce281e93b32c76aad"), looks := true }, kinds := [], alts := [], laidByText := true, laidKinds := [.data, .data, .data, .listed, .data], laidTests := true, laidLooks := .later }
def MeanPlaysCardSaid : Prop := Claim7.holds Tryz.pinned (.plain (OpenSpec.ofChange meanPlaysSpec)) meanPlaysCard

/-- THE SECOND FORM's CARD OF 'swardlaw06.MeanEvals'. -/
def meanEvalsUptoCard : Claim7 := { stood := { row := meanEvalsUptoRow, standIns := [], harness := (true, "b7ac56e8c500d422fc821b9d3f7a12e8bcaa94d3f95a159ce281e93b32c76aad"), looks := true }, kinds := [], alts := [], laidByText := true, laidKinds := [.data, .data, .data, .listed, .data], laidTests := true, laidLooks := .later }
def MeanEvalsUptoCardSaid : Prop := Claim7.holds Tryz.pinned (.plain (OpenSpec.upto meanEvalsSpec)) meanEvalsUptoCard

/-- THE SECOND FORM's CARD OF 'swardlaw06.MeanNames'. -/
def meanNamesUptoCard : Claim7 := { stood := { row := meanNamesUptoRow, standIns := [], harness := (true, "b7ac56e8c500d422fc821b9d3f7a12e8bcaa94d3f95a159ce281e93b32c76aad"), looks := true }, kinds := [], alts := [], laidByText := true, laidKinds := [.data, .data, .data, .listed, .data], laidTests := true, laidLooks := .later }
def MeanNamesUptoCardSaid : Prop := Claim7.holds Tryz.pinned (.plain (OpenSpec.upto meanNamesSpec)) meanNamesUptoCard

/-- THE SECOND FORM's CARD OF 'swardlaw06.MeanStarts'. -/
def meanStartsUptoCard : Claim7 := { stood := { row := meanStartsUptoRow, standIns := [], harness := (true, "b7ac56e8c500d422fc821b9d3f7a12e8bcaa94d3f95a159ce281e93b32c76aad"), looks := true }, kinds := [], alts := [], laidByText := true, laidKinds := [.data, .data, .data, .listed, .data], laidTests := true, laidLooks := .later }
def MeanStartsUptoCardSaid : Prop := Claim7.holds Tryz.pinned (.plain (OpenSpec.upto meanStartsSpec)) meanStartsUptoCard

/-- THE SECOND FORM's CARD OF 'swardlaw06.MeanRuns'. -/
def meanRunsUptoCard : Claim7 := { stood := { row := meanRunsUptoRow, standIns := [], harness := (true, "b7ac56e8c500d422fc821b9d3f7a12e8bcaa94d3f95a159ce281e93b32c76aad"), looks := true }, kinds := [], alts := [], laidByText := true, laidKinds := [.data, .data, .data, .listed, .data], laidTests := true, laidLooks := .later }
def MeanRunsUptoCardSaid : Prop := Claim7.holds Tryz.pinned (.plain (OpenSpec.upto meanRunsSpec)) meanRunsUptoCard

/-- THE SECOND FORM's CARD OF 'swardlaw06.MeanBreaks'. -/
def meanBreaksUptoCard : Claim7 := { stood := { row := meanBreaksUptoRow, standIns := [], harness := (true, "b7ac56e8c500d422fc821b9d3f7a12e8bcaa94d3f95a159ce281e93b32c76aad"), looks := true }, kinds := [], alts := [], laidByText := true, laidKinds := [.data, .data, .data, .listed, .data], laidTests := true, laidLooks := .later }
def MeanBreaksUptoCardSaid : Prop := Claim7.holds Tryz.pinned (.plain (OpenSpec.upto meanBreaksSpec)) meanBreaksUptoCard

/-- THE SECOND FORM's CARD OF 'swardlaw06.MeanTouches'. -/
def meanTouchesUptoCard : Claim7 := { stood := { row := meanTouchesUptoRow, standIns := [], harness := (true, "b7ac56e8c500d422fc821b9d3f7a12e8bcaa94d3f95a159ce281e93b32c76aad"), looks := true }, kinds := [], alts := [], laidByText := true, laidKinds := [.data, .data, .data, .listed, .data], laidTests := true, laidLooks := .later }
def MeanTouchesUptoCardSaid : Prop := Claim7.holds Tryz.pinned (.plain (OpenSpec.upto meanTouchesSpec)) meanTouchesUptoCard

/-- THE SECOND FORM's CARD OF 'swardlaw06.MeanFrame'. -/
def meanFrameUptoCard : Claim7 := { stood := { row := meanFrameUptoRow, standIns := [], harness := (true, "b7ac56e8c500d422fc821b9d3f7a12e8bcaa94d3f95a159ce281e93b32c76aad"), looks := true }, kinds := [], alts := [], laidByText := true, laidKinds := [.data, .data, .data, .listed, .data], laidTests := true, laidLooks := .later }
def MeanFrameUptoCardSaid : Prop := Claim7.holds Tryz.pinned (.plain (OpenSpec.upto meanFrameSpec)) meanFrameUptoCard

/-- THE SECOND FORM's CARD OF 'swardlaw06.MeanPicks'. -/
def meanPicksUptoCard : Claim7 := { stood := { row := meanPicksUptoRow, standIns := [], harness := (true, "b7ac56e8c500d422fc821b9d3f7a12e8bcaa94d3f95a159ce281e93b32c76aad"), looks := true }, kinds := [], alts := [], laidByText := true, laidKinds := [.data, .data, .data, .listed, .data], laidTests := true, laidLooks := .later }
def MeanPicksUptoCardSaid : Prop := Claim7.holds Tryz.pinned (.plain (OpenSpec.upto meanPicksSpec)) meanPicksUptoCard

/-- THE SECOND FORM's CARD OF 'swardlaw06.MeanLeast'. -/
def meanLeastUptoCard : Claim7 := { stood := { row := meanLeastUptoRow, standIns := [], harness := (true, "b7ac56e8c500d422fc821b9d3f7a12e8bcaa94d3f95a159ce281e93b32c76aad"), looks := true }, kinds := [], alts := [], laidByText := true, laidKinds := [.data, .data, .data, .listed, .data], laidTests := true, laidLooks := .later }
def MeanLeastUptoCardSaid : Prop := Claim7.holds Tryz.pinned (.plain (OpenSpec.upto meanLeastSpec)) meanLeastUptoCard

/-- THE SECOND FORM's CARD OF 'swardlaw06.MeanFuels'. -/
def meanFuelsUptoCard : Claim7 := { stood := { row := meanFuelsUptoRow, standIns := [], harness := (true, "b7ac56e8c500d422fc821b9d3f7a12e8bcaa94d3f95a159ce281e93b32c76aad"), looks := true }, kinds := [], alts := [], laidByText := true, laidKinds := [.data, .data, .data, .listed, .data], laidTests := true, laidLooks := .later }
def MeanFuelsUptoCardSaid : Prop := Claim7.holds Tryz.pinned (.plain (OpenSpec.upto meanFuelsSpec)) meanFuelsUptoCard

/-- THE SECOND FORM's CARD OF 'swardlaw06.MeanSteps'. -/
def meanStepsUptoCard : Claim7 := { stood := { row := meanStepsUptoRow, standIns := [], harness := (true, "b7ac56e8c500d422fc821b9d3f7a12e8bcaa94d3f95a159ce281e93b32c76aad"), looks := true }, kinds := [], alts := [], laidByText := true, laidKinds := [.data, .data, .data, .listed, .data], laidTests := true, laidLooks := .later }
def MeanStepsUptoCardSaid : Prop := Claim7.holds Tryz.pinned (.plain (OpenSpec.upto meanStepsSpec)) meanStepsUptoCard

/-- THE SECOND FORM's CARD OF 'swardlaw06.MeanPlays'. -/
def meanPlaysUptoCard : Claim7 := { stood := { row := meanPlaysUptoRow, standIns := [], harness := (true, "b7ac56e8c500d422fc821b9d3f7a12e8bcaa94d3f95a159ce281e93b32c76aad"), looks := true }, kinds := [], alts := [], laidByText := true, laidKinds := [.data, .data, .data, .listed, .data], laidTests := true, laidLooks := .later }
def MeanPlaysUptoCardSaid : Prop := Claim7.holds Tryz.pinned (.plain (OpenSpec.upto meanPlaysSpec)) meanPlaysUptoCard
end Rows
end Go.Proofs.YtmcipmgcmbbbcaaGreatDoor
