/- Closed facts of the program, for all laws. -/
import Derived.Test.YtgbpekeoegfjpaaGreatDoorWrap
namespace Go.Proofs.YtgbpekeoegfjpaaGreatDoor.fnBase
open Go.RowKit Go.ChangeShapes Go.WideShapes Go.ChangeAt
theorem e3 : (Rows.deedCornersRow.lifted == Tryz.prog.liftsFinal) = true := by kernel_rfl
end Go.Proofs.YtgbpekeoegfjpaaGreatDoor.fnBase
