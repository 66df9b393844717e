/- t -/
import Derived.Test.YthncpapejijloaaGreatDoorWrap
namespace Go.Proofs.YthncpapejijloaaGreatDoor.fnSines
open Go.RowKit Go.ChangeShapes Go.WideShapes Go.ChangeAt
theorem e1 : Tryz.prog.stopsHeard = true := by kernel_rfl
end Go.Proofs.YthncpapejijloaaGreatDoor.fnSines
