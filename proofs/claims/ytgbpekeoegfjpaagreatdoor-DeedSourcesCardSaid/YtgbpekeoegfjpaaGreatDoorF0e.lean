/- Closed facts of the program, for all laws. -/
import Derived.Test.YtgbpekeoegfjpaaGreatDoorWrap
namespace Go.Proofs.YtgbpekeoegfjpaaGreatDoor.fnBase
open Go.RowKit Go.ChangeShapes Go.WideShapes Go.ChangeAt
theorem m1 : Tryz.pinned.checked.prog.mainIs = some (true, "95a6efddf635a5751c5d36e50850718d0eebc687a25b9ebc2e0fe5afc3ebe53b".toList) := by kernel_rfl
theorem l1 : true = Tryz.pinned.checked.prog.looks [] := by kernel_rfl
end Go.Proofs.YtgbpekeoegfjpaaGreatDoor.fnBase
