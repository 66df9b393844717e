/- Closed facts of the row of CourseShared. -/
import Derived.Test.YthncpapejijloaaGreatDoorF3
import Derived.Test.YthncpapejijloaaGreatDoorH3a
import Derived.Test.YthncpapejijloaaGreatDoorH3b
import Derived.Test.YthncpapejijloaaGreatDoorH3c
import Derived.Test.YthncpapejijloaaGreatDoorH3d
import Derived.Test.YthncpapejijloaaGreatDoorK3
namespace Go.Proofs.YthncpapejijloaaGreatDoor.fnCourseShared
open Go.RowKit Go.ChangeShapes Go.WideShapes Go.ChangeAt

theorem d0 : (Rows.courseSharedRow.inPlace == Tryz.prog.inPlace 12) = true := by kernel_rfl
theorem d1 : (Rows.courseSharedRow.named == Tryz.prog.varsNamed 12) = true := by kernel_rfl
theorem d2 : (Rows.courseSharedRow.unfollowed == Tryz.prog.unfollowed 12) = true := by kernel_rfl
theorem d3 : (Rows.courseSharedRow.recurses == Tryz.prog.recurses 12) = true := by kernel_rfl
theorem d4 : (laidOutB Tryz.prog) = true := fnSines.d4
theorem d5 : (mapsRowed Tryz.prog) = true := fnSines.d5
theorem d6 : (Rows.courseSharedRow.wf (OpenSpec.ofChange (OpenSpec.ofChange Rows.courseSharedSpec).bare)) = true := by kernel_rfl
theorem d7 : (namedTie Tryz.prog Rows.courseSharedRow.named (OpenSpec.ofChange Rows.courseSharedSpec).bare.vars) = true := by kernel_rfl
theorem e0 : (Rows.courseSharedRow.plainKeys == Tryz.prog.plainKeys) = true := fnSines.e0
theorem e1 : Tryz.prog.stopsHeard = true := fnSines.e1
theorem e2 : Tryz.prog.mayEnter = true := fnSines.e2
theorem e3 : (Rows.courseSharedRow.lifted == Tryz.prog.liftsFinal) = true := fnSines.e3
theorem w1 : Rows.courseSharedRow.wfByText (OpenSpec.ofChange Rows.courseSharedSpec) = true := by kernel_rfl
theorem g1 : false = Rows.courseSharedRow.goesBy Tryz.pinned.checked.prog := by kernel_rfl
set_option maxRecDepth 100000 in
theorem facts : joinedFacts Tryz.prog 12 Tryz.f12 (OpenSpec.ofChange Rows.courseSharedSpec).bare Rows.courseSharedRow = true := by
  unfold joinedFacts
  repeat' (with_reducible refine Bool.and_eq_true_iff.mpr ⟨?_, ?_⟩)
  all_goals (first | with_reducible exact d0 | with_reducible exact d1 | with_reducible exact d2 | with_reducible exact d3 | with_reducible exact d4 | with_reducible exact d5 | with_reducible exact d6 | with_reducible exact d7 | with_reducible exact e0 | with_reducible exact e1 | with_reducible exact e2 | with_reducible exact e3 | kernel_rfl)
end Go.Proofs.YthncpapejijloaaGreatDoor.fnCourseShared
