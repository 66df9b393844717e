/- Closed facts of the program, for all laws. -/
import Derived.Test.YtgbpekeoegfjpaaGreatDoorWrap
namespace Go.Proofs.YtgbpekeoegfjpaaGreatDoor.fnBase
open Go.RowKit Go.ChangeShapes Go.WideShapes Go.ChangeAt
theorem d4 : (laidOutB Tryz.prog) = true := by kernel_rfl
theorem d5 : (mapsRowed Tryz.prog) = true := by kernel_rfl
end Go.Proofs.YtgbpekeoegfjpaaGreatDoor.fnBase
