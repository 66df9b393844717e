/- Closed facts of the program, for all laws. -/
import Derived.Test.YtgbpekeoegfjpaaGreatDoorWrap
namespace Go.Proofs.YtgbpekeoegfjpaaGreatDoor.fnBase
open Go.RowKit Go.ChangeShapes Go.WideShapes Go.ChangeAt
theorem e2 : Tryz.prog.mayEnter = true := by kernel_rfl
end Go.Proofs.YtgbpekeoegfjpaaGreatDoor.fnBase
