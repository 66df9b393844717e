/- Closed facts of the row of DeedBack. -/
import Derived.Test.YtgbpekeoegfjpaaGreatDoorF0
import Derived.Test.YtgbpekeoegfjpaaGreatDoorF0a
import Derived.Test.YtgbpekeoegfjpaaGreatDoorF0b
import Derived.Test.YtgbpekeoegfjpaaGreatDoorF0c
import Derived.Test.YtgbpekeoegfjpaaGreatDoorF0d
import Derived.Test.YtgbpekeoegfjpaaGreatDoorF0e
namespace Go.Proofs.YtgbpekeoegfjpaaGreatDoor.fnDeedBack
open Go.RowKit Go.ChangeShapes Go.WideShapes Go.ChangeAt

theorem d0 : (Rows.deedBackRow.inPlace == Tryz.prog.inPlace 14) = true := by kernel_rfl
theorem d1 : (Rows.deedBackRow.named == Tryz.prog.varsNamed 14) = true := by kernel_rfl
theorem d2 : (Rows.deedBackRow.unfollowed == Tryz.prog.unfollowed 14) = true := by kernel_rfl
theorem d3 : (Rows.deedBackRow.recurses == Tryz.prog.recurses 14) = true := by kernel_rfl
theorem d4 : (laidOutB Tryz.prog) = true := fnBase.d4
theorem d5 : (mapsRowed Tryz.prog) = true := fnBase.d5
theorem d6 : (Rows.deedBackRow.wf (OpenSpec.ofChange (OpenSpec.ofChange Rows.deedBackSpec).bare)) = true := by kernel_rfl
theorem d7 : (namedTie Tryz.prog Rows.deedBackRow.named (OpenSpec.ofChange Rows.deedBackSpec).bare.vars) = true := by kernel_rfl
theorem e0 : (Rows.deedBackRow.plainKeys == Tryz.prog.plainKeys) = true := fnBase.e0
theorem e1 : Tryz.prog.stopsHeard = true := fnBase.e1
theorem e2 : Tryz.prog.mayEnter = true := fnBase.e2
theorem e3 : (Rows.deedBackRow.lifted == Tryz.prog.liftsFinal) = true := fnBase.e3
theorem w1 : Rows.deedBackRow.wfByText (OpenSpec.ofChange Rows.deedBackSpec) = true := by kernel_rfl
theorem g1 : false = Rows.deedBackRow.goesBy Tryz.pinned.checked.prog := by kernel_rfl
set_option maxRecDepth 100000 in
theorem facts : joinedFacts Tryz.prog 14 Tryz.f14 (OpenSpec.ofChange Rows.deedBackSpec).bare Rows.deedBackRow = true := by
  unfold joinedFacts
  repeat' (with_reducible refine Bool.and_eq_true_iff.mpr ⟨?_, ?_⟩)
  all_goals (first | with_reducible exact d0 | with_reducible exact d1 | with_reducible exact d2 | with_reducible exact d3 | with_reducible exact d4 | with_reducible exact d5 | with_reducible exact d6 | with_reducible exact d7 | with_reducible exact e0 | with_reducible exact e1 | with_reducible exact e2 | with_reducible exact e3 | kernel_rfl)
end Go.Proofs.YtgbpekeoegfjpaaGreatDoor.fnDeedBack
