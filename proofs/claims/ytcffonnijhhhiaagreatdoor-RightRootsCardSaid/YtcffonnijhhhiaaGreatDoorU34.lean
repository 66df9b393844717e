/- Part U34 of the proof: Wrap. -/
import Derived.Test.YtcffonnijhhhiaaGreatDoorCards
import Derived.Test.YtcffonnijhhhiaaGreatDoorTie
import Derived.WalkKit
import Derived.ProofKit
import Derived.OpenShut
import Derived.Deep.DeepHandedRow
import Derived.Deep.DeepWitnessRowRef
import Derived.Lib.LaidTab
import Derived.Stop.LaidErr
import Derived.Lay
import Derived.MakeChecks
import Derived.Shelf.Vars
import Derived.Test.YtcffonnijhhhiaaGreatDoorU20
set_option linter.all false
set_option linter.unusedSimpArgs false
set_option linter.unusedVariables false
set_option linter.unusedSectionVars false
namespace Go.Proofs.YtcffonnijhhhiaaGreatDoor
open Go.RowKit Go.ChangeShapes Go.WideShapes Go.ChangeAt
def laidAll :List (String×DataW Unit):=Rows.rightNeedsRow.laid
theorem own :ownKnob Tryz.prog.godebug=none:=by kernel_rfl
theorem star : "*" ++ "errors.errorString" = "*errors.errorString" :=by decide
theorem row184 (u:TypeId)(h:Tryz.prog.typeName? 3 u=some "*errors.errorString"):u=292:=
 typeName_ptr_named (nm:= "errors.errorString") (by rw[star];kernel_rfl) (by kernel_rfl) (by decide) u (by rw[star];exact h)
set_option maxRecDepth 100000 in
theorem env_of {W:World}(hL:laidMetH Tryz.prog laidAll W)(hs:W.ShapedOpen Tryz.prog):Env W:=by
 rw[MakeChecks.laidMetH_plain _ _ _ (by kernel_rfl)]at hL
 have hsyn:=laid_sentinel hL.tail.tail.tail.tail.tail (g:=0) (ti:=93) (tp:=292) (te:=294) (ts:=9) (by kernel_rfl) (by kernel_rfl) Tryz.underlying93 row184 Tryz.underlying292 Tryz.underlying294 rfl rfl Tryz.underlying9 (by kernel_rfl) (by kernel_rfl)
 have hrng:=laid_sentinel hL.tail.tail.tail.tail (g:=1) (ti:=93) (tp:=292) (te:=294) (ts:=9) (by kernel_rfl) (by kernel_rfl) Tryz.underlying93 row184 Tryz.underlying292 Tryz.underlying294 rfl rfl Tryz.underlying9 (by kernel_rfl) (by kernel_rfl)
 obtain⟨a2,s2,hv2,_⟩:=hsyn
 obtain⟨a3,s3,hv3,_⟩:=hrng
 have htab:=Lib.tabIs_of_head (g:=2) (zs:=Lib.pow10Tab) (k:=.u64) (by kernel_rfl) (by kernel_rfl) Tryz.underlying287 Tryz.underlying256 (by kernel_rfl) (by kernel_rfl) hL.tail.tail
 refine⟨htab,Go.Proofs.cell_of_shapedOpen_int (zero:= #[.int .i64 0]) (t:=3) hs (of_decide_eq_true (by kernel_rfl)) (by kernel_rfl) rfl (by kernel_rfl) (by kernel_rfl) Tryz.underlying3,⟨_,_,by have:=World.var?_cell (show Tryz.prog.globalNamed "strconv.ErrSyntax" =some 0 by kernel_rfl) hv2 0;simpa using this⟩,⟨_,_,by have:=World.var?_cell (show Tryz.prog.globalNamed "strconv.ErrRange" =some 1 by kernel_rfl) hv3 0;simpa using this⟩,?_⟩
 obtain⟨ps,⟨g,t,cs,f,p,q,hg,ht,hv,_⟩,_⟩:=hL.tail
 obtain rfl:=Option.some.inj ((show Tryz.prog.globalNamed "math/bits.deBruijn64tab" =some 7 by kernel_rfl).symm.trans hg)
 unfold World.var? at hv
 rw[hg]at hv
 simp only[Option.bind_some]at hv
 cases h7:W.heap[7]? with
 |none=>rw[h7]at hv;simp at hv
 |some o=>have:=(Array.getElem?_eq_some_iff.1 h7).1;omega
end Go.Proofs.YtcffonnijhhhiaaGreatDoor
