/- The closed facts of the row of the law of sines, together. -/
import Derived.Test.YthncpapejijloaaGreatDoorF3
import Derived.Test.YthncpapejijloaaGreatDoorH3a
import Derived.Test.YthncpapejijloaaGreatDoorH3b
import Derived.Test.YthncpapejijloaaGreatDoorH3c
import Derived.Test.YthncpapejijloaaGreatDoorH3d
namespace Go.Proofs.YthncpapejijloaaGreatDoor.fnSines
open Go.RowKit Go.ChangeShapes Go.WideShapes Go.ChangeAt
set_option maxRecDepth 100000 in
theorem facts : joinedFacts Tryz.prog 3 Tryz.f3 (OpenSpec.ofChange Rows.courseSinesSpec).bare Rows.courseSinesRow = true := by
  unfold joinedFacts
  repeat' (with_reducible refine Bool.and_eq_true_iff.mpr ⟨?_, ?_⟩)
  all_goals (first | with_reducible exact d0 | with_reducible exact d1 | with_reducible exact d2 | with_reducible exact d3 | with_reducible exact d4 | with_reducible exact d5 | with_reducible exact d6 | with_reducible exact d7 | with_reducible exact e0 | with_reducible exact e1 | with_reducible exact e2 | with_reducible exact e3 | kernel_rfl)
end Go.Proofs.YthncpapejijloaaGreatDoor.fnSines
