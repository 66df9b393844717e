/- Proved: parts of the walk. -/
import Derived.Test.YtgbpekeoegfjpaaGreatDoorCards
import Derived.Test.YtgbpekeoegfjpaaGreatDoorTie
import Derived.Test.YtgbpekeoegfjpaaGreatDoorF0
import Derived.Test.YtgbpekeoegfjpaaGreatDoorF0a
import Derived.Test.YtgbpekeoegfjpaaGreatDoorF0b
import Derived.Test.YtgbpekeoegfjpaaGreatDoorF0c
import Derived.Test.YtgbpekeoegfjpaaGreatDoorF0d
set_option maxRecDepth 100000
namespace Go.Proofs.YtgbpekeoegfjpaaGreatDoor.fnDeedLines
open RowKit Go.ChangeShapes Go.WideShapes Go.ChangeAt
theorem d0 : (Rows.deedLinesRow.inPlace == Tryz.prog.inPlace 6) = true := by kernel_rfl
theorem d1 : (Rows.deedLinesRow.named == Tryz.prog.varsNamed 6) = true := by kernel_rfl
theorem d2 : (Rows.deedLinesRow.unfollowed == Tryz.prog.unfollowed 6) = true := by kernel_rfl
theorem d3 : (Rows.deedLinesRow.recurses == Tryz.prog.recurses 6) = true := by kernel_rfl
theorem d4 : (laidOutB Tryz.prog) = true := gF.d4
theorem d5 : (mapsRowed Tryz.prog) = true := gF.d5
theorem d6 : (Rows.deedLinesRow.wf (OpenSpec.ofChange (OpenSpec.ofChange Rows.deedLinesSpec).bare)) = true := by kernel_rfl
theorem d7 : (namedTie Tryz.prog Rows.deedLinesRow.named (OpenSpec.ofChange Rows.deedLinesSpec).bare.vars) = true := by kernel_rfl
theorem e0 : (Rows.deedLinesRow.plainKeys == Tryz.prog.plainKeys) = true := gF.e0
theorem e1 : Tryz.prog.stopsHeard = true := gF.e1
theorem e2 : Tryz.prog.mayEnter = true := gF.e2
theorem e3 : (Rows.deedLinesRow.lifted == Tryz.prog.liftsFinal) = true := gF.e3
theorem w1 : Rows.deedLinesRow.wfByText (OpenSpec.ofChange Rows.deedLinesSpec) = true := by kernel_rfl
theorem g1 : false = Rows.deedLinesRow.goesBy Tryz.pinned.checked.prog := by kernel_rfl
theorem facts : joinedFacts Tryz.prog 6 Tryz.f6 (OpenSpec.ofChange Rows.deedLinesSpec).bare Rows.deedLinesRow = true := by
 unfold joinedFacts
 repeat' (with_reducible refine Bool.and_eq_true_iff.mpr ⟨?_, ?_⟩)
 all_goals (first | with_reducible exact d0 | with_reducible exact d1 | with_reducible exact d2 | with_reducible exact d3 | with_reducible exact d4 | with_reducible exact d5 | with_reducible exact d6 | with_reducible exact d7 | with_reducible exact e0 | with_reducible exact e1 | with_reducible exact e2 | with_reducible exact e3 | kernel_rfl)
end Go.Proofs.YtgbpekeoegfjpaaGreatDoor.fnDeedLines
