/- t -/
import Derived.Test.YthncpapejijloaaGreatDoorWrap
namespace Go.Proofs.YthncpapejijloaaGreatDoor.fnSines
open Go.RowKit Go.ChangeShapes Go.WideShapes Go.ChangeAt
theorem e3 : (Rows.courseSinesRow.lifted == Tryz.prog.liftsFinal) = true := by kernel_rfl
end Go.Proofs.YthncpapejijloaaGreatDoor.fnSines
