/- Part U41 of the proof: F0e. -/
import Derived.Test.YtcffonnijhhhiaaGreatDoorU34
set_option linter.all false
set_option linter.unusedSimpArgs false
set_option linter.unusedVariables false
set_option linter.unusedSectionVars false
namespace Go.Proofs.YtcffonnijhhhiaaGreatDoor.fnBase
open Go.RowKit Go.ChangeShapes Go.WideShapes Go.ChangeAt
theorem m1 :Tryz.pinned.checked.prog.mainIs=some (true, "e6255a452cdaf4c1cdee602496aae2345aab9ad00d2ad9640411cf6133b0114b".toList):=by kernel_rfl
theorem l1 :true=Tryz.pinned.checked.prog.looks []:=by kernel_rfl
end Go.Proofs.YtcffonnijhhhiaaGreatDoor.fnBase
