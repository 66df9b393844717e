/- Closed facts of the row of CourseLengths. -/
import Derived.Test.YthncpapejijloaaGreatDoorF3
import Derived.Test.YthncpapejijloaaGreatDoorH3a
import Derived.Test.YthncpapejijloaaGreatDoorH3b
import Derived.Test.YthncpapejijloaaGreatDoorH3c
import Derived.Test.YthncpapejijloaaGreatDoorH3d
import Derived.Test.YthncpapejijloaaGreatDoorK3
namespace Go.Proofs.YthncpapejijloaaGreatDoor.fnCourseLengths
open Go.RowKit Go.ChangeShapes Go.WideShapes Go.ChangeAt

theorem d0 : (Rows.courseLengthsRow.inPlace == Tryz.prog.inPlace 13) = true := by kernel_rfl
theorem d1 : (Rows.courseLengthsRow.named == Tryz.prog.varsNamed 13) = true := by kernel_rfl
theorem d2 : (Rows.courseLengthsRow.unfollowed == Tryz.prog.unfollowed 13) = true := by kernel_rfl
theorem d3 : (Rows.courseLengthsRow.recurses == Tryz.prog.recurses 13) = true := by kernel_rfl
theorem d4 : (laidOutB Tryz.prog) = true := fnSines.d4
theorem d5 : (mapsRowed Tryz.prog) = true := fnSines.d5
theorem d6 : (Rows.courseLengthsRow.wf (OpenSpec.ofChange (OpenSpec.ofChange Rows.courseLengthsSpec).bare)) = true := by kernel_rfl
theorem d7 : (namedTie Tryz.prog Rows.courseLengthsRow.named (OpenSpec.ofChange Rows.courseLengthsSpec).bare.vars) = true := by kernel_rfl
theorem e0 : (Rows.courseLengthsRow.plainKeys == Tryz.prog.plainKeys) = true := fnSines.e0
theorem e1 : Tryz.prog.stopsHeard = true := fnSines.e1
theorem e2 : Tryz.prog.mayEnter = true := fnSines.e2
theorem e3 : (Rows.courseLengthsRow.lifted == Tryz.prog.liftsFinal) = true := fnSines.e3
theorem w1 : Rows.courseLengthsRow.wfByText (OpenSpec.ofChange Rows.courseLengthsSpec) = true := by kernel_rfl
theorem g1 : false = Rows.courseLengthsRow.goesBy Tryz.pinned.checked.prog := by kernel_rfl
set_option maxRecDepth 100000 in
theorem facts : joinedFacts Tryz.prog 13 Tryz.f13 (OpenSpec.ofChange Rows.courseLengthsSpec).bare Rows.courseLengthsRow = true := by
  unfold joinedFacts
  repeat' (with_reducible refine Bool.and_eq_true_iff.mpr ⟨?_, ?_⟩)
  all_goals (first | with_reducible exact d0 | with_reducible exact d1 | with_reducible exact d2 | with_reducible exact d3 | with_reducible exact d4 | with_reducible exact d5 | with_reducible exact d6 | with_reducible exact d7 | with_reducible exact e0 | with_reducible exact e1 | with_reducible exact e2 | with_reducible exact e3 | kernel_rfl)
end Go.Proofs.YthncpapejijloaaGreatDoor.fnCourseLengths
