/- Proved: parts of the walk. -/
import Derived.Test.YtgbpekeoegfjpaaGreatDoorCards
import Derived.Test.YtgbpekeoegfjpaaGreatDoorTie
import Derived.Test.YtgbpekeoegfjpaaGreatDoorVF0
import Derived.Test.YtgbpekeoegfjpaaGreatDoorVF0a
import Derived.Test.YtgbpekeoegfjpaaGreatDoorVF0b
import Derived.Test.YtgbpekeoegfjpaaGreatDoorVF0c
import Derived.Test.YtgbpekeoegfjpaaGreatDoorVF0d
set_option maxRecDepth 100000
namespace Go.Proofs.YtgbpekeoegfjpaaGreatDoor.fnDeedParses
open RowKit Go.ChangeShapes Go.WideShapes Go.ChangeAt
theorem d0 : (Rows.deedParsesRow.inPlace == Tryz.prog.inPlace 11) = true := by kernel_rfl
theorem d1 : (Rows.deedParsesRow.named == Tryz.prog.varsNamed 11) = true := by kernel_rfl
theorem d2 : (Rows.deedParsesRow.unfollowed == Tryz.prog.unfollowed 11) = true := by kernel_rfl
theorem d3 : (Rows.deedParsesRow.recurses == Tryz.prog.recurses 11) = true := by kernel_rfl
theorem d4 : (laidOutB Tryz.prog) = true := gF.d4
theorem d5 : (mapsRowed Tryz.prog) = true := gF.d5
theorem d6 : (Rows.deedParsesRow.wf (OpenSpec.ofChange (OpenSpec.ofChange Rows.deedParsesSpec).bare)) = true := by kernel_rfl
theorem d7 : (namedTie Tryz.prog Rows.deedParsesRow.named (OpenSpec.ofChange Rows.deedParsesSpec).bare.vars) = true := by kernel_rfl
theorem e0 : (Rows.deedParsesRow.plainKeys == Tryz.prog.plainKeys) = true := gF.e0
theorem e1 : Tryz.prog.stopsHeard = true := gF.e1
theorem e2 : Tryz.prog.mayEnter = true := gF.e2
theorem e3 : (Rows.deedParsesRow.lifted == Tryz.prog.liftsFinal) = true := gF.e3
theorem w1 : Rows.deedParsesRow.wfByText (OpenSpec.ofChange Rows.deedParsesSpec) = true := by kernel_rfl
theorem g1 : false = Rows.deedParsesRow.goesBy Tryz.pinned.checked.prog := by kernel_rfl
theorem facts : joinedFacts Tryz.prog 11 Tryz.f11 (OpenSpec.ofChange Rows.deedParsesSpec).bare Rows.deedParsesRow = true := by
 unfold joinedFacts
 repeat' (with_reducible refine Bool.and_eq_true_iff.mpr ⟨?_, ?_⟩)
 all_goals (first | with_reducible exact d0 | with_reducible exact d1 | with_reducible exact d2 | with_reducible exact d3 | with_reducible exact d4 | with_reducible exact d5 | with_reducible exact d6 | with_reducible exact d7 | with_reducible exact e0 | with_reducible exact e1 | with_reducible exact e2 | with_reducible exact e3 | kernel_rfl)
end Go.Proofs.YtgbpekeoegfjpaaGreatDoor.fnDeedParses
