/- Part U38 of the proof: F0b. -/
import Derived.Test.YtcffonnijhhhiaaGreatDoorU34
set_option linter.all false
set_option linter.unusedSimpArgs false
set_option linter.unusedVariables false
set_option linter.unusedSectionVars false
namespace Go.Proofs.YtcffonnijhhhiaaGreatDoor.fnBase
open Go.RowKit Go.ChangeShapes Go.WideShapes Go.ChangeAt
theorem e1 :Tryz.prog.stopsHeard=true:=by kernel_rfl
end Go.Proofs.YtcffonnijhhhiaaGreatDoor.fnBase
