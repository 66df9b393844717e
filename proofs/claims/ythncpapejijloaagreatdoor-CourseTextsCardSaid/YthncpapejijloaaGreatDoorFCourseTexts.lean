/- Closed facts of the row of CourseTexts. -/
import Derived.Test.YthncpapejijloaaGreatDoorF3
import Derived.Test.YthncpapejijloaaGreatDoorH3a
import Derived.Test.YthncpapejijloaaGreatDoorH3b
import Derived.Test.YthncpapejijloaaGreatDoorH3c
import Derived.Test.YthncpapejijloaaGreatDoorH3d
import Derived.Test.YthncpapejijloaaGreatDoorK3
namespace Go.Proofs.YthncpapejijloaaGreatDoor.fnCourseTexts
open Go.RowKit Go.ChangeShapes Go.WideShapes Go.ChangeAt

theorem d0 : (Rows.courseTextsRow.inPlace == Tryz.prog.inPlace 19) = true := by kernel_rfl
theorem d1 : (Rows.courseTextsRow.named == Tryz.prog.varsNamed 19) = true := by kernel_rfl
theorem d2 : (Rows.courseTextsRow.unfollowed == Tryz.prog.unfollowed 19) = true := by kernel_rfl
theorem d3 : (Rows.courseTextsRow.recurses == Tryz.prog.recurses 19) = true := by kernel_rfl
theorem d4 : (laidOutB Tryz.prog) = true := fnSines.d4
theorem d5 : (mapsRowed Tryz.prog) = true := fnSines.d5
theorem d6 : (Rows.courseTextsRow.wf (OpenSpec.ofChange (OpenSpec.ofChange Rows.courseTextsSpec).bare)) = true := by kernel_rfl
theorem d7 : (namedTie Tryz.prog Rows.courseTextsRow.named (OpenSpec.ofChange Rows.courseTextsSpec).bare.vars) = true := by kernel_rfl
theorem e0 : (Rows.courseTextsRow.plainKeys == Tryz.prog.plainKeys) = true := fnSines.e0
theorem e1 : Tryz.prog.stopsHeard = true := fnSines.e1
theorem e2 : Tryz.prog.mayEnter = true := fnSines.e2
theorem e3 : (Rows.courseTextsRow.lifted == Tryz.prog.liftsFinal) = true := fnSines.e3
theorem w1 : Rows.courseTextsRow.wfByText (OpenSpec.ofChange Rows.courseTextsSpec) = true := by kernel_rfl
theorem g1 : false = Rows.courseTextsRow.goesBy Tryz.pinned.checked.prog := by kernel_rfl
set_option maxRecDepth 100000 in
theorem facts : joinedFacts Tryz.prog 19 Tryz.f19 (OpenSpec.ofChange Rows.courseTextsSpec).bare Rows.courseTextsRow = true := by
  unfold joinedFacts
  repeat' (with_reducible refine Bool.and_eq_true_iff.mpr ⟨?_, ?_⟩)
  all_goals (first | with_reducible exact d0 | with_reducible exact d1 | with_reducible exact d2 | with_reducible exact d3 | with_reducible exact d4 | with_reducible exact d5 | with_reducible exact d6 | with_reducible exact d7 | with_reducible exact e0 | with_reducible exact e1 | with_reducible exact e2 | with_reducible exact e3 | kernel_rfl)
end Go.Proofs.YthncpapejijloaaGreatDoor.fnCourseTexts
