/- The closed facts of the row of the law of sines, one by one. -/
import Derived.Test.YthncpapejijloaaGreatDoorWrap
namespace Go.Proofs.YthncpapejijloaaGreatDoor.fnSines
open Go.RowKit Go.ChangeShapes Go.WideShapes Go.ChangeAt

theorem d0 : (Rows.courseSinesRow.inPlace == Tryz.prog.inPlace 3) = true := by kernel_rfl
theorem d1 : (Rows.courseSinesRow.named == Tryz.prog.varsNamed 3) = true := by kernel_rfl
theorem d2 : (Rows.courseSinesRow.unfollowed == Tryz.prog.unfollowed 3) = true := by kernel_rfl
theorem d3 : (Rows.courseSinesRow.recurses == Tryz.prog.recurses 3) = true := by kernel_rfl
theorem d4 : (laidOutB Tryz.prog) = true := by kernel_rfl
theorem d5 : (mapsRowed Tryz.prog) = true := by kernel_rfl
theorem d6 : (Rows.courseSinesRow.wf (OpenSpec.ofChange (OpenSpec.ofChange Rows.courseSinesSpec).bare)) = true := by kernel_rfl
theorem d7 : (namedTie Tryz.prog Rows.courseSinesRow.named (OpenSpec.ofChange Rows.courseSinesSpec).bare.vars) = true := by kernel_rfl
end Go.Proofs.YthncpapejijloaaGreatDoor.fnSines
