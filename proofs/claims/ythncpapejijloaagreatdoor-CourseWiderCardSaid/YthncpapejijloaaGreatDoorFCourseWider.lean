/- Closed facts of the row of CourseWider. -/
import Derived.Test.YthncpapejijloaaGreatDoorF3
import Derived.Test.YthncpapejijloaaGreatDoorH3a
import Derived.Test.YthncpapejijloaaGreatDoorH3b
import Derived.Test.YthncpapejijloaaGreatDoorH3c
import Derived.Test.YthncpapejijloaaGreatDoorH3d
import Derived.Test.YthncpapejijloaaGreatDoorK3
namespace Go.Proofs.YthncpapejijloaaGreatDoor.fnCourseWider
open Go.RowKit Go.ChangeShapes Go.WideShapes Go.ChangeAt

theorem d0 : (Rows.courseWiderRow.inPlace == Tryz.prog.inPlace 10) = true := by kernel_rfl
theorem d1 : (Rows.courseWiderRow.named == Tryz.prog.varsNamed 10) = true := by kernel_rfl
theorem d2 : (Rows.courseWiderRow.unfollowed == Tryz.prog.unfollowed 10) = true := by kernel_rfl
theorem d3 : (Rows.courseWiderRow.recurses == Tryz.prog.recurses 10) = true := by kernel_rfl
theorem d4 : (laidOutB Tryz.prog) = true := fnSines.d4
theorem d5 : (mapsRowed Tryz.prog) = true := fnSines.d5
theorem d6 : (Rows.courseWiderRow.wf (OpenSpec.ofChange (OpenSpec.ofChange Rows.courseWiderSpec).bare)) = true := by kernel_rfl
theorem d7 : (namedTie Tryz.prog Rows.courseWiderRow.named (OpenSpec.ofChange Rows.courseWiderSpec).bare.vars) = true := by kernel_rfl
theorem e0 : (Rows.courseWiderRow.plainKeys == Tryz.prog.plainKeys) = true := fnSines.e0
theorem e1 : Tryz.prog.stopsHeard = true := fnSines.e1
theorem e2 : Tryz.prog.mayEnter = true := fnSines.e2
theorem e3 : (Rows.courseWiderRow.lifted == Tryz.prog.liftsFinal) = true := fnSines.e3
theorem w1 : Rows.courseWiderRow.wfByText (OpenSpec.ofChange Rows.courseWiderSpec) = true := by kernel_rfl
theorem g1 : false = Rows.courseWiderRow.goesBy Tryz.pinned.checked.prog := by kernel_rfl
set_option maxRecDepth 100000 in
theorem facts : joinedFacts Tryz.prog 10 Tryz.f10 (OpenSpec.ofChange Rows.courseWiderSpec).bare Rows.courseWiderRow = true := by
  unfold joinedFacts
  repeat' (with_reducible refine Bool.and_eq_true_iff.mpr ⟨?_, ?_⟩)
  all_goals (first | with_reducible exact d0 | with_reducible exact d1 | with_reducible exact d2 | with_reducible exact d3 | with_reducible exact d4 | with_reducible exact d5 | with_reducible exact d6 | with_reducible exact d7 | with_reducible exact e0 | with_reducible exact e1 | with_reducible exact e2 | with_reducible exact e3 | kernel_rfl)
end Go.Proofs.YthncpapejijloaaGreatDoor.fnCourseWider
