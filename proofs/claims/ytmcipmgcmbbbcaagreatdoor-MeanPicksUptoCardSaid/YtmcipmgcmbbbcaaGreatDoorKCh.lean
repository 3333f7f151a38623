/- Where the program goes by itself: one fact. -/
import Derived.Test.YtmcipmgcmbbbcaaGreatDoorKCg
namespace Go.Proofs.YtmcipmgcmbbbcaaGreatDoor.meanPicks
open Go Go.ChangeShapes Go.WideShapes Go.ChangeAt Go.RowKit Go.Sw
set_option maxRecDepth 100000
theorem c3 : false = Rows.meanPicksUptoRow.goesBy Tryz.pinned.checked.prog := by kernel_rfl
end Go.Proofs.YtmcipmgcmbbbcaaGreatDoor.meanPicks
