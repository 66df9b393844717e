/- t -/
import Derived.Test.YthncpapejijloaaGreatDoorWrap
namespace Go.Proofs.YthncpapejijloaaGreatDoor.fnSines
open Go.RowKit Go.ChangeShapes Go.WideShapes Go.ChangeAt
theorem e2 : Tryz.prog.mayEnter = true := by kernel_rfl
end Go.Proofs.YthncpapejijloaaGreatDoor.fnSines
