/- Closed facts of the row of CourseExact. -/
import Derived.Test.YthncpapejijloaaGreatDoorF3
import Derived.Test.YthncpapejijloaaGreatDoorH3a
import Derived.Test.YthncpapejijloaaGreatDoorH3b
import Derived.Test.YthncpapejijloaaGreatDoorH3c
import Derived.Test.YthncpapejijloaaGreatDoorH3d
import Derived.Test.YthncpapejijloaaGreatDoorK3
namespace Go.Proofs.YthncpapejijloaaGreatDoor.fnCourseExact
open Go.RowKit Go.ChangeShapes Go.WideShapes Go.ChangeAt

theorem d0 : (Rows.courseExactRow.inPlace == Tryz.prog.inPlace 9) = true := by kernel_rfl
theorem d1 : (Rows.courseExactRow.named == Tryz.prog.varsNamed 9) = true := by kernel_rfl
theorem d2 : (Rows.courseExactRow.unfollowed == Tryz.prog.unfollowed 9) = true := by kernel_rfl
theorem d3 : (Rows.courseExactRow.recurses == Tryz.prog.recurses 9) = true := by kernel_rfl
theorem d4 : (laidOutB Tryz.prog) = true := fnSines.d4
theorem d5 : (mapsRowed Tryz.prog) = true := fnSines.d5
theorem d6 : (Rows.courseExactRow.wf (OpenSpec.ofChange (OpenSpec.ofChange Rows.courseExactSpec).bare)) = true := by kernel_rfl
theorem d7 : (namedTie Tryz.prog Rows.courseExactRow.named (OpenSpec.ofChange Rows.courseExactSpec).bare.vars) = true := by kernel_rfl
theorem e0 : (Rows.courseExactRow.plainKeys == Tryz.prog.plainKeys) = true := fnSines.e0
theorem e1 : Tryz.prog.stopsHeard = true := fnSines.e1
theorem e2 : Tryz.prog.mayEnter = true := fnSines.e2
theorem e3 : (Rows.courseExactRow.lifted == Tryz.prog.liftsFinal) = true := fnSines.e3
theorem w1 : Rows.courseExactRow.wfByText (OpenSpec.ofChange Rows.courseExactSpec) = true := by kernel_rfl
theorem g1 : false = Rows.courseExactRow.goesBy Tryz.pinned.checked.prog := by kernel_rfl
set_option maxRecDepth 100000 in
theorem facts : joinedFacts Tryz.prog 9 Tryz.f9 (OpenSpec.ofChange Rows.courseExactSpec).bare Rows.courseExactRow = true := by
  unfold joinedFacts
  repeat' (with_reducible refine Bool.and_eq_true_iff.mpr ⟨?_, ?_⟩)
  all_goals (first | with_reducible exact d0 | with_reducible exact d1 | with_reducible exact d2 | with_reducible exact d3 | with_reducible exact d4 | with_reducible exact d5 | with_reducible exact d6 | with_reducible exact d7 | with_reducible exact e0 | with_reducible exact e1 | with_reducible exact e2 | with_reducible exact e3 | kernel_rfl)
end Go.Proofs.YthncpapejijloaaGreatDoor.fnCourseExact
