/- Closed facts of the row of DeedCalls. -/
import Derived.Test.YtgbpekeoegfjpaaGreatDoorF0
import Derived.Test.YtgbpekeoegfjpaaGreatDoorF0a
import Derived.Test.YtgbpekeoegfjpaaGreatDoorF0b
import Derived.Test.YtgbpekeoegfjpaaGreatDoorF0c
import Derived.Test.YtgbpekeoegfjpaaGreatDoorF0d
import Derived.Test.YtgbpekeoegfjpaaGreatDoorF0e
namespace Go.Proofs.YtgbpekeoegfjpaaGreatDoor.fnDeedCalls
open Go.RowKit Go.ChangeShapes Go.WideShapes Go.ChangeAt

theorem d0 : (Rows.deedCallsRow.inPlace == Tryz.prog.inPlace 15) = true := by kernel_rfl
theorem d1 : (Rows.deedCallsRow.named == Tryz.prog.varsNamed 15) = true := by kernel_rfl
theorem d2 : (Rows.deedCallsRow.unfollowed == Tryz.prog.unfollowed 15) = true := by kernel_rfl
theorem d3 : (Rows.deedCallsRow.recurses == Tryz.prog.recurses 15) = true := by kernel_rfl
theorem d4 : (laidOutB Tryz.prog) = true := fnBase.d4
theorem d5 : (mapsRowed Tryz.prog) = true := fnBase.d5
theorem d6 : (Rows.deedCallsRow.wf (OpenSpec.ofChange (OpenSpec.ofChange Rows.deedCallsSpec).bare)) = true := by kernel_rfl
theorem d7 : (namedTie Tryz.prog Rows.deedCallsRow.named (OpenSpec.ofChange Rows.deedCallsSpec).bare.vars) = true := by kernel_rfl
theorem e0 : (Rows.deedCallsRow.plainKeys == Tryz.prog.plainKeys) = true := fnBase.e0
theorem e1 : Tryz.prog.stopsHeard = true := fnBase.e1
theorem e2 : Tryz.prog.mayEnter = true := fnBase.e2
theorem e3 : (Rows.deedCallsRow.lifted == Tryz.prog.liftsFinal) = true := fnBase.e3
theorem w1 : Rows.deedCallsRow.wfByText (OpenSpec.ofChange Rows.deedCallsSpec) = true := by kernel_rfl
theorem g1 : false = Rows.deedCallsRow.goesBy Tryz.pinned.checked.prog := by kernel_rfl
set_option maxRecDepth 100000 in
theorem facts : joinedFacts Tryz.prog 15 Tryz.f15 (OpenSpec.ofChange Rows.deedCallsSpec).bare Rows.deedCallsRow = true := by
  unfold joinedFacts
  repeat' (with_reducible refine Bool.and_eq_true_iff.mpr ⟨?_, ?_⟩)
  all_goals (first | with_reducible exact d0 | with_reducible exact d1 | with_reducible exact d2 | with_reducible exact d3 | with_reducible exact d4 | with_reducible exact d5 | with_reducible exact d6 | with_reducible exact d7 | with_reducible exact e0 | with_reducible exact e1 | with_reducible exact e2 | with_reducible exact e3 | kernel_rfl)
end Go.Proofs.YtgbpekeoegfjpaaGreatDoor.fnDeedCalls
