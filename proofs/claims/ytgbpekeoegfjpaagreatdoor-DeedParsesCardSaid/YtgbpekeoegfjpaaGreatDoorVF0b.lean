/- Proved: parts of the walk. -/
import Derived.Test.YtgbpekeoegfjpaaGreatDoorCards
import Derived.Test.YtgbpekeoegfjpaaGreatDoorTie
import Derived.Deep.DeepWitnessRowRef
import Derived.Lay
import Derived.Shelf.Slices.Cells
import Derived.Shelf.Slices.SearchI
import Derived.Shelf.Small.Bits
import Derived.Shelf.Strconv.ErrVar
import Derived.Shelf.Strconv.ErrVarAll
import Derived.Shelf.Strconv.Itoa3
import Derived.Shelf.Strings.Explode
import Derived.Shelf.Strings.OnBuilder
import Derived.Shelf.Strings.Shaped
import Derived.Shelf.Strings.SplitShaped
import Derived.Shelf.Unicode.DecodeAny
import Derived.Shelf.Utf8.RuneCount
import Derived.Stop.LaidErr
import Derived.Test.YtgbpekeoegfjpaaGreatDoorVZ02
namespace Go.Proofs.YtgbpekeoegfjpaaGreatDoor.gF
open RowKit Go.ChangeShapes Go.WideShapes Go.ChangeAt
theorem e1 : Tryz.prog.stopsHeard = true := by kernel_rfl
end Go.Proofs.YtgbpekeoegfjpaaGreatDoor.gF
