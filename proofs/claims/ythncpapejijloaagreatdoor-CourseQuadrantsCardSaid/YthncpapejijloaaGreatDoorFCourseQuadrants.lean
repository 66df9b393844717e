/- Closed facts of the row of CourseQuadrants. -/
import Derived.Test.YthncpapejijloaaGreatDoorF3
import Derived.Test.YthncpapejijloaaGreatDoorH3a
import Derived.Test.YthncpapejijloaaGreatDoorH3b
import Derived.Test.YthncpapejijloaaGreatDoorH3c
import Derived.Test.YthncpapejijloaaGreatDoorH3d
import Derived.Test.YthncpapejijloaaGreatDoorK3
namespace Go.Proofs.YthncpapejijloaaGreatDoor.fnCourseQuadrants
open Go.RowKit Go.ChangeShapes Go.WideShapes Go.ChangeAt

theorem d0 : (Rows.courseQuadrantsRow.inPlace == Tryz.prog.inPlace 18) = true := by kernel_rfl
theorem d1 : (Rows.courseQuadrantsRow.named == Tryz.prog.varsNamed 18) = true := by kernel_rfl
theorem d2 : (Rows.courseQuadrantsRow.unfollowed == Tryz.prog.unfollowed 18) = true := by kernel_rfl
theorem d3 : (Rows.courseQuadrantsRow.recurses == Tryz.prog.recurses 18) = true := by kernel_rfl
theorem d4 : (laidOutB Tryz.prog) = true := fnSines.d4
theorem d5 : (mapsRowed Tryz.prog) = true := fnSines.d5
theorem d6 : (Rows.courseQuadrantsRow.wf (OpenSpec.ofChange (OpenSpec.ofChange Rows.courseQuadrantsSpec).bare)) = true := by kernel_rfl
theorem d7 : (namedTie Tryz.prog Rows.courseQuadrantsRow.named (OpenSpec.ofChange Rows.courseQuadrantsSpec).bare.vars) = true := by kernel_rfl
theorem e0 : (Rows.courseQuadrantsRow.plainKeys == Tryz.prog.plainKeys) = true := fnSines.e0
theorem e1 : Tryz.prog.stopsHeard = true := fnSines.e1
theorem e2 : Tryz.prog.mayEnter = true := fnSines.e2
theorem e3 : (Rows.courseQuadrantsRow.lifted == Tryz.prog.liftsFinal) = true := fnSines.e3
theorem w1 : Rows.courseQuadrantsRow.wfByText (OpenSpec.ofChange Rows.courseQuadrantsSpec) = true := by kernel_rfl
theorem g1 : false = Rows.courseQuadrantsRow.goesBy Tryz.pinned.checked.prog := by kernel_rfl
set_option maxRecDepth 100000 in
theorem facts : joinedFacts Tryz.prog 18 Tryz.f18 (OpenSpec.ofChange Rows.courseQuadrantsSpec).bare Rows.courseQuadrantsRow = true := by
  unfold joinedFacts
  repeat' (with_reducible refine Bool.and_eq_true_iff.mpr ⟨?_, ?_⟩)
  all_goals (first | with_reducible exact d0 | with_reducible exact d1 | with_reducible exact d2 | with_reducible exact d3 | with_reducible exact d4 | with_reducible exact d5 | with_reducible exact d6 | with_reducible exact d7 | with_reducible exact e0 | with_reducible exact e1 | with_reducible exact e2 | with_reducible exact e3 | kernel_rfl)
end Go.Proofs.YthncpapejijloaaGreatDoor.fnCourseQuadrants
