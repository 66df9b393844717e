/- Closed facts of the row of DeedSources. -/
import Derived.Test.YtgbpekeoegfjpaaGreatDoorF0
import Derived.Test.YtgbpekeoegfjpaaGreatDoorF0a
import Derived.Test.YtgbpekeoegfjpaaGreatDoorF0b
import Derived.Test.YtgbpekeoegfjpaaGreatDoorF0c
import Derived.Test.YtgbpekeoegfjpaaGreatDoorF0d
import Derived.Test.YtgbpekeoegfjpaaGreatDoorF0e
namespace Go.Proofs.YtgbpekeoegfjpaaGreatDoor.fnDeedSources
open Go.RowKit Go.ChangeShapes Go.WideShapes Go.ChangeAt

theorem d0 : (Rows.deedSourcesRow.inPlace == Tryz.prog.inPlace 3) = true := by kernel_rfl
theorem d1 : (Rows.deedSourcesRow.named == Tryz.prog.varsNamed 3) = true := by kernel_rfl
theorem d2 : (Rows.deedSourcesRow.unfollowed == Tryz.prog.unfollowed 3) = true := by kernel_rfl
theorem d3 : (Rows.deedSourcesRow.recurses == Tryz.prog.recurses 3) = true := by kernel_rfl
theorem d4 : (laidOutB Tryz.prog) = true := fnBase.d4
theorem d5 : (mapsRowed Tryz.prog) = true := fnBase.d5
theorem d6 : (Rows.deedSourcesRow.wf (OpenSpec.ofChange (OpenSpec.ofChange Rows.deedSourcesSpec).bare)) = true := by kernel_rfl
theorem d7 : (namedTie Tryz.prog Rows.deedSourcesRow.named (OpenSpec.ofChange Rows.deedSourcesSpec).bare.vars) = true := by kernel_rfl
theorem e0 : (Rows.deedSourcesRow.plainKeys == Tryz.prog.plainKeys) = true := fnBase.e0
theorem e1 : Tryz.prog.stopsHeard = true := fnBase.e1
theorem e2 : Tryz.prog.mayEnter = true := fnBase.e2
theorem e3 : (Rows.deedSourcesRow.lifted == Tryz.prog.liftsFinal) = true := fnBase.e3
theorem w1 : Rows.deedSourcesRow.wfByText (OpenSpec.ofChange Rows.deedSourcesSpec) = true := by kernel_rfl
theorem g1 : false = Rows.deedSourcesRow.goesBy Tryz.pinned.checked.prog := by kernel_rfl
set_option maxRecDepth 100000 in
theorem facts : joinedFacts Tryz.prog 3 Tryz.f3 (OpenSpec.ofChange Rows.deedSourcesSpec).bare Rows.deedSourcesRow = true := by
  unfold joinedFacts
  repeat' (with_reducible refine Bool.and_eq_true_iff.mpr ⟨?_, ?_⟩)
  all_goals (first | with_reducible exact d0 | with_reducible exact d1 | with_reducible exact d2 | with_reducible exact d3 | with_reducible exact d4 | with_reducible exact d5 | with_reducible exact d6 | with_reducible exact d7 | with_reducible exact e0 | with_reducible exact e1 | with_reducible exact e2 | with_reducible exact e3 | kernel_rfl)
end Go.Proofs.YtgbpekeoegfjpaaGreatDoor.fnDeedSources
