/- Closed facts of the card of the law of sines. -/
import Derived.Test.YthncpapejijloaaGreatDoorWrap
namespace Go.Proofs.YthncpapejijloaaGreatDoor.fnSines
open Go.RowKit Go.ChangeShapes Go.WideShapes Go.ChangeAt
theorem w1 : Rows.courseSinesRow.wfByText (OpenSpec.ofChange Rows.courseSinesSpec) = true := by kernel_rfl
theorem g1 : false = Rows.courseSinesRow.goesBy Tryz.pinned.checked.prog := by kernel_rfl
theorem m1 : Tryz.pinned.checked.prog.mainIs = some (true, "5a1f5546847442312d9845b7cef904ebf9d707a0d37aabe581cd52a970253b5a".toList) := by kernel_rfl
theorem l1 : true = Tryz.pinned.checked.prog.looks [] := by kernel_rfl
end Go.Proofs.YthncpapejijloaaGreatDoor.fnSines
