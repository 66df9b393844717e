/- Part Vc02 of the proof: FRightChanged. -/
import Derived.Test.YtcffonnijhhhiaaGreatDoorU36
import Derived.Test.YtcffonnijhhhiaaGreatDoorU37
import Derived.Test.YtcffonnijhhhiaaGreatDoorU38
import Derived.Test.YtcffonnijhhhiaaGreatDoorU39
import Derived.Test.YtcffonnijhhhiaaGreatDoorU40
import Derived.Test.YtcffonnijhhhiaaGreatDoorU41
set_option linter.all false
set_option linter.unusedSimpArgs false
set_option linter.unusedVariables false
set_option linter.unusedSectionVars false
set_option linter.all false
set_option linter.unusedSimpArgs false
set_option linter.unusedVariables false
set_option linter.unusedSectionVars false
namespace Go.Proofs.YtcffonnijhhhiaaGreatDoor.fnRightChanged
open Go.RowKit Go.ChangeShapes Go.WideShapes Go.ChangeAt
theorem d0 :(Rows.rightChangedRow.inPlace==Tryz.prog.inPlace 16)=true:=by kernel_rfl
theorem d1 :(Rows.rightChangedRow.named==Tryz.prog.varsNamed 16)=true:=by kernel_rfl
theorem d2 :(Rows.rightChangedRow.unfollowed==Tryz.prog.unfollowed 16)=true:=by kernel_rfl
theorem d3 :(Rows.rightChangedRow.recurses==Tryz.prog.recurses 16)=true:=by kernel_rfl
theorem d4 :(laidOutB Tryz.prog)=true:=fnBase.d4
theorem d5 :(mapsRowed Tryz.prog)=true:=fnBase.d5
theorem d6 :(Rows.rightChangedRow.wf (OpenSpec.ofChange (OpenSpec.ofChange Rows.rightChangedSpec).bare))=true:=by kernel_rfl
theorem d7 :(namedTie Tryz.prog Rows.rightChangedRow.named (OpenSpec.ofChange Rows.rightChangedSpec).bare.vars)=true:=by kernel_rfl
theorem e0 :(Rows.rightChangedRow.plainKeys==Tryz.prog.plainKeys)=true:=fnBase.e0
theorem e1 :Tryz.prog.stopsHeard=true:=fnBase.e1
theorem e2 :Tryz.prog.mayEnter=true:=fnBase.e2
theorem e3 :(Rows.rightChangedRow.lifted==Tryz.prog.liftsFinal)=true:=fnBase.e3
theorem w1 :Rows.rightChangedRow.wfByText (OpenSpec.ofChange Rows.rightChangedSpec)=true:=by kernel_rfl
theorem g1 :false=Rows.rightChangedRow.goesBy Tryz.pinned.checked.prog:=by kernel_rfl
theorem t1 :(Tryz.f16.params.all fun x=>Tryz.prog.readableRec x)=true:=by kernel_rfl
theorem t2 :(Rows.rightChangedRow.maps==(Tryz.f16.params.toList++DataSpec.varTypes Tryz.prog (OpenSpec.ofChange Rows.rightChangedSpec).bare.plain).any fun x=>Tryz.prog.mapsRec x)=true:=by kernel_rfl
theorem t3 :(Rows.rightChangedRow.ifaces==(Tryz.f16.params.toList++DataSpec.varTypes Tryz.prog (OpenSpec.ofChange Rows.rightChangedSpec).bare.plain).any fun x=>Tryz.prog.ifacesRec x)=true:=by kernel_rfl
theorem t4 :(Rows.rightChangedRow.mapsOut==Tryz.prog.mapsAmong Tryz.f16.resultTypes.toList)=true:=by kernel_rfl
theorem t5 :(Rows.rightChangedRow.loops==(Tryz.f16.params.toList++DataSpec.varTypes Tryz.prog (OpenSpec.ofChange Rows.rightChangedSpec).bare.plain).any fun x=>Tryz.prog.loopsFrom x)=true:=by kernel_rfl
theorem t6 :(Rows.rightChangedRow.wideKeys==(Tryz.f16.params.toList++DataSpec.varTypes Tryz.prog (OpenSpec.ofChange Rows.rightChangedSpec).bare.plain++Tryz.f16.resultTypes.toList).any fun x=>Tryz.prog.wideKeysFrom x)=true:=by kernel_rfl
theorem t7 :((OpenSpec.ofChange Rows.rightChangedSpec).bare.vars.all fun x=>Tryz.prog.varReadable x)=true:=by kernel_rfl
theorem t8 :(Tryz.f16.resultTypes.all fun t=>Tryz.prog.readableRec t&&decide (t<Tryz.prog.types.size))=true:=by kernel_rfl
theorem t9 :(Rows.rightChangedRow.ifacesOut==Tryz.f16.resultTypes.toList.any fun x=>Tryz.prog.ifacesRec x)=true:=by kernel_rfl
theorem t10 :(Rows.rightChangedRow.loopsOut==Tryz.f16.resultTypes.toList.any fun x=>Tryz.prog.loopsFrom x)=true:=by kernel_rfl
theorem t11 :(Rows.rightChangedRow.veiled==(Tryz.f16.params.toList++DataSpec.varTypes Tryz.prog (OpenSpec.ofChange Rows.rightChangedSpec).bare.plain++Tryz.f16.resultTypes.toList).any fun x=>Tryz.prog.veiledRec x)=true:=by kernel_rfl
theorem t12 :Rows.rightChangedRow.veiledFits Tryz.prog Tryz.f16.params.toList (Tryz.f16.params.toList++DataSpec.varTypes Tryz.prog (OpenSpec.ofChange Rows.rightChangedSpec).bare.plain++Tryz.f16.resultTypes.toList)=true:=by kernel_rfl
theorem t13 :(Tryz.prog.make==some Rows.rightChangedRow.make)=true:=by kernel_rfl
set_option maxRecDepth 100000 in
theorem facts :joinedFacts Tryz.prog 16 Tryz.f16 (OpenSpec.ofChange Rows.rightChangedSpec).bare Rows.rightChangedRow=true:=by
 unfold joinedFacts
 repeat' (with_reducible refine Bool.and_eq_true_iff.mpr ⟨?_,?_⟩)
 all_goals (first|with_reducible exact d0|with_reducible exact d1|with_reducible exact d2|with_reducible exact d3|with_reducible exact d4|with_reducible exact d5|with_reducible exact d6|with_reducible exact d7|with_reducible exact e0|with_reducible exact e1|with_reducible exact e2|with_reducible exact e3|with_reducible exact t1|with_reducible exact t2|with_reducible exact t3|with_reducible exact t4|with_reducible exact t5|with_reducible exact t6|with_reducible exact t7|with_reducible exact t8|with_reducible exact t9|with_reducible exact t10|with_reducible exact t11|with_reducible exact t12|with_reducible exact t13|kernel_rfl)
end Go.Proofs.YtcffonnijhhhiaaGreatDoor.fnRightChanged
