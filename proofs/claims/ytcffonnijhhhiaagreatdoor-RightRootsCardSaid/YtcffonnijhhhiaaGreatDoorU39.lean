/- Part U39 of the proof: F0c. -/
import Derived.Test.YtcffonnijhhhiaaGreatDoorU34
set_option linter.all false
set_option linter.unusedSimpArgs false
set_option linter.unusedVariables false
set_option linter.unusedSectionVars false
namespace Go.Proofs.YtcffonnijhhhiaaGreatDoor.fnBase
open Go Go.RowKit Go.ChangeShapes Go.WideShapes Go.ChangeAt
theorem f1 :(behindMainWord (wordsSigns Tryz.prog.initOrder.toList)).head?=some "cut".toList:=by kernel_rfl
theorem f2 :Tryz.prog.laysLater=false:=by kernel_rfl
theorem f3 :Tryz.prog.bearsReflect=false:=by kernel_rfl
theorem f4 :Tryz.prog.doorFits []=true:=by kernel_rfl
theorem f5 (rest:List (List Char)):stripLifts liftWords ("cut".toList::rest)=([], "cut".toList::rest):=by kernel_rfl
theorem e2 :Tryz.prog.mayEnter=true:=by
 unfold Program.mayEnter
 cases h:behindMainWord (wordsSigns Tryz.prog.initOrder.toList)with
 |nil=>
  have:=f1
  rw[h]at this
  cases this
 |cons c rest=>
  have hc:c= "cut".toList:=by
   have:=f1
   rw[h]at this
   exact Option.some.inj this
  subst hc
  simp only[f5,f2,f3,f4]
  rw[Bool.or_eq_true]
  exact .inr (by simp)
end Go.Proofs.YtcffonnijhhhiaaGreatDoor.fnBase
