/- Closed facts of the row of RightSame. -/
import Derived.Test.YtcffonnijhhhiaaGreatDoorU36
import Derived.Test.YtcffonnijhhhiaaGreatDoorU37
import Derived.Test.YtcffonnijhhhiaaGreatDoorU38
import Derived.Test.YtcffonnijhhhiaaGreatDoorU39
import Derived.Test.YtcffonnijhhhiaaGreatDoorU40
import Derived.Test.YtcffonnijhhhiaaGreatDoorU41
set_option linter.all false
set_option linter.unusedSimpArgs false
set_option linter.unusedVariables false
set_option linter.unusedSectionVars false
namespace Go.Proofs.YtcffonnijhhhiaaGreatDoor.fnRightSame
open Go.RowKit Go.ChangeShapes Go.WideShapes Go.ChangeAt

theorem d0 : (Rows.rightSameRow.inPlace == Tryz.prog.inPlace 6) = true := by kernel_rfl
theorem d1 : (Rows.rightSameRow.named == Tryz.prog.varsNamed 6) = true := by kernel_rfl
theorem d2 : (Rows.rightSameRow.unfollowed == Tryz.prog.unfollowed 6) = true := by kernel_rfl
theorem d3 : (Rows.rightSameRow.recurses == Tryz.prog.recurses 6) = true := by kernel_rfl
theorem d4 : (laidOutB Tryz.prog) = true := fnBase.d4
theorem d5 : (mapsRowed Tryz.prog) = true := fnBase.d5
theorem d6 : (Rows.rightSameRow.wf (OpenSpec.ofChange (OpenSpec.ofChange Rows.rightSameSpec).bare)) = true := by kernel_rfl
theorem d7 : (namedTie Tryz.prog Rows.rightSameRow.named (OpenSpec.ofChange Rows.rightSameSpec).bare.vars) = true := by kernel_rfl
theorem e0 : (Rows.rightSameRow.plainKeys == Tryz.prog.plainKeys) = true := fnBase.e0
theorem e1 : Tryz.prog.stopsHeard = true := fnBase.e1
theorem e2 : Tryz.prog.mayEnter = true := fnBase.e2
theorem e3 : (Rows.rightSameRow.lifted == Tryz.prog.liftsFinal) = true := fnBase.e3
theorem w1 : Rows.rightSameRow.wfByText (OpenSpec.ofChange Rows.rightSameSpec) = true := by kernel_rfl
theorem g1 : false = Rows.rightSameRow.goesBy Tryz.pinned.checked.prog := by kernel_rfl
theorem t1 : (Tryz.f6.params.all fun x => Tryz.prog.readableRec x) = true := by kernel_rfl
theorem t2 : (Rows.rightSameRow.maps == (Tryz.f6.params.toList ++ DataSpec.varTypes Tryz.prog (OpenSpec.ofChange Rows.rightSameSpec).bare.plain).any fun x => Tryz.prog.mapsRec x) = true := by kernel_rfl
theorem t3 : (Rows.rightSameRow.ifaces == (Tryz.f6.params.toList ++ DataSpec.varTypes Tryz.prog (OpenSpec.ofChange Rows.rightSameSpec).bare.plain).any fun x => Tryz.prog.ifacesRec x) = true := by kernel_rfl
theorem t4 : (Rows.rightSameRow.mapsOut == Tryz.prog.mapsAmong Tryz.f6.resultTypes.toList) = true := by kernel_rfl
theorem t5 : (Rows.rightSameRow.loops == (Tryz.f6.params.toList ++ DataSpec.varTypes Tryz.prog (OpenSpec.ofChange Rows.rightSameSpec).bare.plain).any fun x => Tryz.prog.loopsFrom x) = true := by kernel_rfl
theorem t6 : (Rows.rightSameRow.wideKeys == (Tryz.f6.params.toList ++ DataSpec.varTypes Tryz.prog (OpenSpec.ofChange Rows.rightSameSpec).bare.plain ++ Tryz.f6.resultTypes.toList).any fun x => Tryz.prog.wideKeysFrom x) = true := by kernel_rfl
theorem t7 : ((OpenSpec.ofChange Rows.rightSameSpec).bare.vars.all fun x => Tryz.prog.varReadable x) = true := by kernel_rfl
theorem t8 : (Tryz.f6.resultTypes.all fun t => Tryz.prog.readableRec t && decide (t < Tryz.prog.types.size)) = true := by kernel_rfl
theorem t9 : (Rows.rightSameRow.ifacesOut == Tryz.f6.resultTypes.toList.any fun x => Tryz.prog.ifacesRec x) = true := by kernel_rfl
theorem t10 : (Rows.rightSameRow.loopsOut == Tryz.f6.resultTypes.toList.any fun x => Tryz.prog.loopsFrom x) = true := by kernel_rfl
theorem t11 : (Rows.rightSameRow.veiled == (Tryz.f6.params.toList ++ DataSpec.varTypes Tryz.prog (OpenSpec.ofChange Rows.rightSameSpec).bare.plain ++ Tryz.f6.resultTypes.toList).any fun x => Tryz.prog.veiledRec x) = true := by kernel_rfl
theorem t12 : Rows.rightSameRow.veiledFits Tryz.prog Tryz.f6.params.toList (Tryz.f6.params.toList ++ DataSpec.varTypes Tryz.prog (OpenSpec.ofChange Rows.rightSameSpec).bare.plain ++ Tryz.f6.resultTypes.toList) = true := by kernel_rfl
theorem t13 : (Tryz.prog.make == some Rows.rightSameRow.make) = true := by kernel_rfl
set_option maxRecDepth 100000 in
theorem facts : joinedFacts Tryz.prog 6 Tryz.f6 (OpenSpec.ofChange Rows.rightSameSpec).bare Rows.rightSameRow = true := by
  unfold joinedFacts
  repeat' (with_reducible refine Bool.and_eq_true_iff.mpr ⟨?_, ?_⟩)
  all_goals (first | with_reducible exact d0 | with_reducible exact d1 | with_reducible exact d2 | with_reducible exact d3 | with_reducible exact d4 | with_reducible exact d5 | with_reducible exact d6 | with_reducible exact d7 | with_reducible exact e0 | with_reducible exact e1 | with_reducible exact e2 | with_reducible exact e3 | with_reducible exact t1 | with_reducible exact t2 | with_reducible exact t3 | with_reducible exact t4 | with_reducible exact t5 | with_reducible exact t6 | with_reducible exact t7 | with_reducible exact t8 | with_reducible exact t9 | with_reducible exact t10 | with_reducible exact t11 | with_reducible exact t12 | with_reducible exact t13 | kernel_rfl)
end Go.Proofs.YtcffonnijhhhiaaGreatDoor.fnRightSame
