/- Proved: parts of the walk. -/
import Derived.Test.YtgbpekeoegfjpaaGreatDoorCards
import Derived.Test.YtgbpekeoegfjpaaGreatDoorTie
import Derived.Deep.DeepWitnessRowRef
import Derived.Lay
import Derived.Stop.LaidErr
import Derived.Test.YtgbpekeoegfjpaaGreatDoorVZ03
set_option maxRecDepth 100000
namespace Go.Proofs.YtgbpekeoegfjpaaGreatDoor
open RowKit Go.ChangeShapes Go.WideShapes Go.ChangeAt
def laidAll : List (String × DataW Unit) := Rows.deedCornersRow.laid
theorem own : ownKnob Tryz.prog.godebug = none := by kernel_rfl
theorem star : "*" ++ "errors.errorString" = "*errors.errorString" := by decide
theorem row184 (u : TypeId) (h : Tryz.prog.typeName? 3 u = some "*errors.errorString") : u = 360 :=
 typeName_ptr_named (nm := "errors.errorString") (by rw [star]; kernel_rfl) (by kernel_rfl) (by decide) u (by rw [star]; exact h)
theorem env_of {W : World} (hL : laidMetH Tryz.prog laidAll W) (hs : W.ShapedOpen Tryz.prog) : Env W := by
 rw [MakeChecks.laidMetH_plain _ _ _ (by kernel_rfl)] at hL
 have UU := laid_sentinel hL.tail.tail.tail.tail.tail (g := 4) (ti := 156) (tp := 360) (te := 362) (ts := 9) (by kernel_rfl) (by kernel_rfl) Tryz.underlying156 row184 Tryz.underlying360 Tryz.underlying362 rfl rfl Tryz.underlying9 (by kernel_rfl) (by kernel_rfl)
 have UW := laid_sentinel hL.tail.tail.tail.tail (g := 5) (ti := 156) (tp := 360) (te := 362) (ts := 9) (by kernel_rfl) (by kernel_rfl) Tryz.underlying156 row184 Tryz.underlying360 Tryz.underlying362 rfl rfl Tryz.underlying9 (by kernel_rfl) (by kernel_rfl)
 obtain ⟨a2, s2, hv2, _⟩ := UU
 obtain ⟨a3, s3, hv3, _⟩ := UW
 have htab := Lib.tabIs_of_head (g := 1) (zs := Lib.pow10Tab) (k := .u64) (by kernel_rfl) (by kernel_rfl) Tryz.underlying324 Tryz.underlying271 (by kernel_rfl) (by kernel_rfl) hL.tail.tail
 refine ⟨htab, Go.Proofs.cell_of_shapedOpen_int (zero := #[.int .i64 0]) (t := 3) hs (of_decide_eq_true (by kernel_rfl)) (by kernel_rfl) rfl (by kernel_rfl) (by kernel_rfl) Tryz.underlying3, ⟨_, _, by have := World.var?_cell (show Tryz.prog.globalNamed "strconv.ErrSyntax" = some 4 by kernel_rfl) hv2 0; simpa using this⟩, ⟨_, _, by have := World.var?_cell (show Tryz.prog.globalNamed "strconv.ErrRange" = some 5 by kernel_rfl) hv3 0; simpa using this⟩, ?_⟩
 obtain ⟨ps, ⟨g, t, cs, f, p, q, hg, ht, hv, _⟩, _⟩ := hL.tail
 obtain rfl := Option.some.inj ((show Tryz.prog.globalNamed "math/bits.deBruijn64tab" = some 7 by kernel_rfl).symm.trans hg)
 unfold World.var? at hv
 rw [hg] at hv
 simp only [Option.bind_some] at hv
 cases h7 : W.heap[7]? with
 | none => rw [h7] at hv; simp at hv
 | some o => exact (lO h7)
end Go.Proofs.YtgbpekeoegfjpaaGreatDoor
