/- Facts of the row and the card, each by itself. -/
import Derived.Test.YtmcipmgcmbbbcaaGreatDoorKCf
namespace Go.Proofs.YtmcipmgcmbbbcaaGreatDoor.meanPicks
open Go Go.ChangeShapes Go.WideShapes Go.ChangeAt Go.RowKit Go.Sw
set_option maxRecDepth 100000
theorem q1 : Tryz.pinned.checked.prog.funcNamed Rows.meanPicksUptoRow.func = some 10 := by kernel_rfl
theorem q3 : Tryz.f10.isInstance Tryz.pinned.checked.prog Rows.meanPicksUptoRow.origin Rows.meanPicksUptoRow.targs := of_decide_eq_true (by kernel_rfl)
theorem q4 : Tryz.f10.isWrapper Tryz.pinned.checked.prog Rows.meanPicksUptoRow.wrapper Rows.meanPicksUptoRow.mainSum := by unfold Func.isWrapper; first | (rw [if_pos (by decide +kernel)]; kernel_rfl) | (rw [if_neg (by decide +kernel)]; exact ⟨rfl, rfl⟩)
theorem c1 : Rows.meanPicksUptoRow.wfByText (Rows.OpenSpec.upto Rows.meanPicksSpec) = true := by kernel_rfl
theorem c2 : Tryz.pinned.checked.prog.mainIs = some (Rows.meanPicksUptoCard.stood.harness.1, Rows.meanPicksUptoCard.stood.harness.2.toList) := by kernel_rfl
end Go.Proofs.YtmcipmgcmbbbcaaGreatDoor.meanPicks
