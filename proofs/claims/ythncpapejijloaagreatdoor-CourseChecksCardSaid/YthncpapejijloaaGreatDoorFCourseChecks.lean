/- Closed facts of the row of CourseChecks. -/
import Derived.Test.YthncpapejijloaaGreatDoorF3
import Derived.Test.YthncpapejijloaaGreatDoorH3a
import Derived.Test.YthncpapejijloaaGreatDoorH3b
import Derived.Test.YthncpapejijloaaGreatDoorH3c
import Derived.Test.YthncpapejijloaaGreatDoorH3d
import Derived.Test.YthncpapejijloaaGreatDoorK3
namespace Go.Proofs.YthncpapejijloaaGreatDoor.fnCourseChecks
open Go.RowKit Go.ChangeShapes Go.WideShapes Go.ChangeAt

theorem d0 : (Rows.courseChecksRow.inPlace == Tryz.prog.inPlace 20) = true := by kernel_rfl
theorem d1 : (Rows.courseChecksRow.named == Tryz.prog.varsNamed 20) = true := by kernel_rfl
theorem d2 : (Rows.courseChecksRow.unfollowed == Tryz.prog.unfollowed 20) = true := by kernel_rfl
theorem d3 : (Rows.courseChecksRow.recurses == Tryz.prog.recurses 20) = true := by kernel_rfl
theorem d4 : (laidOutB Tryz.prog) = true := fnSines.d4
theorem d5 : (mapsRowed Tryz.prog) = true := fnSines.d5
theorem d6 : (Rows.courseChecksRow.wf (OpenSpec.ofChange (OpenSpec.ofChange Rows.courseChecksSpec).bare)) = true := by kernel_rfl
theorem d7 : (namedTie Tryz.prog Rows.courseChecksRow.named (OpenSpec.ofChange Rows.courseChecksSpec).bare.vars) = true := by kernel_rfl
theorem e0 : (Rows.courseChecksRow.plainKeys == Tryz.prog.plainKeys) = true := fnSines.e0
theorem e1 : Tryz.prog.stopsHeard = true := fnSines.e1
theorem e2 : Tryz.prog.mayEnter = true := fnSines.e2
theorem e3 : (Rows.courseChecksRow.lifted == Tryz.prog.liftsFinal) = true := fnSines.e3
theorem w1 : Rows.courseChecksRow.wfByText (OpenSpec.ofChange Rows.courseChecksSpec) = true := by kernel_rfl
theorem g1 : false = Rows.courseChecksRow.goesBy Tryz.pinned.checked.prog := by kernel_rfl
set_option maxRecDepth 100000 in
theorem facts : joinedFacts Tryz.prog 20 Tryz.f20 (OpenSpec.ofChange Rows.courseChecksSpec).bare Rows.courseChecksRow = true := by
  unfold joinedFacts
  repeat' (with_reducible refine Bool.and_eq_true_iff.mpr ⟨?_, ?_⟩)
  all_goals (first | with_reducible exact d0 | with_reducible exact d1 | with_reducible exact d2 | with_reducible exact d3 | with_reducible exact d4 | with_reducible exact d5 | with_reducible exact d6 | with_reducible exact d7 | with_reducible exact e0 | with_reducible exact e1 | with_reducible exact e2 | with_reducible exact e3 | kernel_rfl)
end Go.Proofs.YthncpapejijloaaGreatDoor.fnCourseChecks
