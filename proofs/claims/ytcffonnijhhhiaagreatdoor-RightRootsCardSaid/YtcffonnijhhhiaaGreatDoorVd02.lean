/- Part Vd02 of the proof: FRightRoots. -/
import Derived.Test.YtcffonnijhhhiaaGreatDoorU36
import Derived.Test.YtcffonnijhhhiaaGreatDoorU37
import Derived.Test.YtcffonnijhhhiaaGreatDoorU38
import Derived.Test.YtcffonnijhhhiaaGreatDoorU39
import Derived.Test.YtcffonnijhhhiaaGreatDoorU40
import Derived.Test.YtcffonnijhhhiaaGreatDoorU41
set_option linter.all false
set_option linter.unusedSimpArgs false
set_option linter.unusedVariables false
set_option linter.unusedSectionVars false
set_option linter.all false
set_option linter.unusedSimpArgs false
set_option linter.unusedVariables false
set_option linter.unusedSectionVars false
namespace Go.Proofs.YtcffonnijhhhiaaGreatDoor.fnRightRoots
open Go.RowKit Go.ChangeShapes Go.WideShapes Go.ChangeAt
theorem d0 :(Rows.rightRootsRow.inPlace==Tryz.prog.inPlace 15)=true:=by kernel_rfl
theorem d1 :(Rows.rightRootsRow.named==Tryz.prog.varsNamed 15)=true:=by kernel_rfl
theorem d2 :(Rows.rightRootsRow.unfollowed==Tryz.prog.unfollowed 15)=true:=by kernel_rfl
theorem d3 :(Rows.rightRootsRow.recurses==Tryz.prog.recurses 15)=true:=by kernel_rfl
theorem d4 :(laidOutB Tryz.prog)=true:=fnBase.d4
theorem d5 :(mapsRowed Tryz.prog)=true:=fnBase.d5
theorem d6 :(Rows.rightRootsRow.wf (OpenSpec.ofChange (OpenSpec.ofChange Rows.rightRootsSpec).bare))=true:=by kernel_rfl
theorem d7 :(namedTie Tryz.prog Rows.rightRootsRow.named (OpenSpec.ofChange Rows.rightRootsSpec).bare.vars)=true:=by kernel_rfl
theorem e0 :(Rows.rightRootsRow.plainKeys==Tryz.prog.plainKeys)=true:=fnBase.e0
theorem e1 :Tryz.prog.stopsHeard=true:=fnBase.e1
theorem e2 :Tryz.prog.mayEnter=true:=fnBase.e2
theorem e3 :(Rows.rightRootsRow.lifted==Tryz.prog.liftsFinal)=true:=fnBase.e3
theorem w1 :Rows.rightRootsRow.wfByText (OpenSpec.ofChange Rows.rightRootsSpec)=true:=by kernel_rfl
theorem g1 :false=Rows.rightRootsRow.goesBy Tryz.pinned.checked.prog:=by kernel_rfl
theorem t1 :(Tryz.f15.params.all fun x=>Tryz.prog.readableRec x)=true:=by kernel_rfl
theorem t2 :(Rows.rightRootsRow.maps==(Tryz.f15.params.toList++DataSpec.varTypes Tryz.prog (OpenSpec.ofChange Rows.rightRootsSpec).bare.plain).any fun x=>Tryz.prog.mapsRec x)=true:=by kernel_rfl
theorem t3 :(Rows.rightRootsRow.ifaces==(Tryz.f15.params.toList++DataSpec.varTypes Tryz.prog (OpenSpec.ofChange Rows.rightRootsSpec).bare.plain).any fun x=>Tryz.prog.ifacesRec x)=true:=by kernel_rfl
theorem t4 :(Rows.rightRootsRow.mapsOut==Tryz.prog.mapsAmong Tryz.f15.resultTypes.toList)=true:=by kernel_rfl
theorem t5 :(Rows.rightRootsRow.loops==(Tryz.f15.params.toList++DataSpec.varTypes Tryz.prog (OpenSpec.ofChange Rows.rightRootsSpec).bare.plain).any fun x=>Tryz.prog.loopsFrom x)=true:=by kernel_rfl
theorem t6 :(Rows.rightRootsRow.wideKeys==(Tryz.f15.params.toList++DataSpec.varTypes Tryz.prog (OpenSpec.ofChange Rows.rightRootsSpec).bare.plain++Tryz.f15.resultTypes.toList).any fun x=>Tryz.prog.wideKeysFrom x)=true:=by kernel_rfl
theorem t7 :((OpenSpec.ofChange Rows.rightRootsSpec).bare.vars.all fun x=>Tryz.prog.varReadable x)=true:=by kernel_rfl
theorem t8 :(Tryz.f15.resultTypes.all fun t=>Tryz.prog.readableRec t&&decide (t<Tryz.prog.types.size))=true:=by kernel_rfl
theorem t9 :(Rows.rightRootsRow.ifacesOut==Tryz.f15.resultTypes.toList.any fun x=>Tryz.prog.ifacesRec x)=true:=by kernel_rfl
theorem t10 :(Rows.rightRootsRow.loopsOut==Tryz.f15.resultTypes.toList.any fun x=>Tryz.prog.loopsFrom x)=true:=by kernel_rfl
theorem t11 :(Rows.rightRootsRow.veiled==(Tryz.f15.params.toList++DataSpec.varTypes Tryz.prog (OpenSpec.ofChange Rows.rightRootsSpec).bare.plain++Tryz.f15.resultTypes.toList).any fun x=>Tryz.prog.veiledRec x)=true:=by kernel_rfl
theorem t12 :Rows.rightRootsRow.veiledFits Tryz.prog Tryz.f15.params.toList (Tryz.f15.params.toList++DataSpec.varTypes Tryz.prog (OpenSpec.ofChange Rows.rightRootsSpec).bare.plain++Tryz.f15.resultTypes.toList)=true:=by kernel_rfl
theorem t13 :(Tryz.prog.make==some Rows.rightRootsRow.make)=true:=by kernel_rfl
set_option maxRecDepth 100000 in
theorem facts :joinedFacts Tryz.prog 15 Tryz.f15 (OpenSpec.ofChange Rows.rightRootsSpec).bare Rows.rightRootsRow=true:=by
 unfold joinedFacts
 repeat' (with_reducible refine Bool.and_eq_true_iff.mpr ⟨?_,?_⟩)
 all_goals (first|with_reducible exact d0|with_reducible exact d1|with_reducible exact d2|with_reducible exact d3|with_reducible exact d4|with_reducible exact d5|with_reducible exact d6|with_reducible exact d7|with_reducible exact e0|with_reducible exact e1|with_reducible exact e2|with_reducible exact e3|with_reducible exact t1|with_reducible exact t2|with_reducible exact t3|with_reducible exact t4|with_reducible exact t5|with_reducible exact t6|with_reducible exact t7|with_reducible exact t8|with_reducible exact t9|with_reducible exact t10|with_reducible exact t11|with_reducible exact t12|with_reducible exact t13|kernel_rfl)
end Go.Proofs.YtcffonnijhhhiaaGreatDoor.fnRightRoots
