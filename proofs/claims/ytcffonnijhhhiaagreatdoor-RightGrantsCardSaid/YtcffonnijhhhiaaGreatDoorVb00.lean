/- Part Vb00 of the proof: Cm Yc Yd Ra Ye. -/
import Derived.Test.YtcffonnijhhhiaaGreatDoorProg
import Derived.WalkKit
import Derived.WalkLawsBesides
import Derived.WalkSpells
import Derived.Handy
import Derived.Lib.Hide
import Derived.Great.BuildSlice
import Derived.Deep.QuietTactic
import Derived.BigQuiet
import Derived.Deep.RegionHeld3
import Derived.Deep.DeepCutAuto
import Derived.Test.YtcffonnijhhhiaaGreatDoorU32
import Derived.Test.YtcffonnijhhhiaaGreatDoorU30
import Derived.Test.YtcffonnijhhhiaaGreatDoorU26
import Derived.Test.YtcffonnijhhhiaaGreatDoorU24
import Derived.Test.YtcffonnijhhhiaaGreatDoorU25
set_option linter.all false
set_option linter.unusedSimpArgs false
set_option linter.unusedVariables false
set_option linter.unusedSectionVars false
set_option linter.all false
set_option linter.unusedSimpArgs false
set_option linter.unusedVariables false
set_option linter.unusedSectionVars false
namespace Go.Proofs.YtcffonnijhhhiaaGreatDoor
open Go Go.RowKit Go.Maps Mp
attribute [-simp] Prod.forall Prod.exists
attribute [-go_sem] loadVar storeVar Builtin.append_
attribute [local go_sem] lk_int lk_u8 lk_ints lk_sL lk_sE lk_sS
structure Dpo (w:World)(B:Nat)(p:Dp):Prop where
 into:Ints w B p.A1 p.x.into
 sizes:Ints w B p.A2 p.x.sizes
 h1:p.x.into.length≤p.c1
 h2:p.x.sizes.length≤p.c2
theorem Dpo.up {w w':World}{p:Dp}(h:Dpo w w.heap.size p)(hb:Below w.heap.size w w'):Dpo w' w'.heap.size p:=
 ⟨(h.into.below hb).more hb.size,(h.sizes.below hb).more hb.size,h.h1,h.h2⟩
theorem Dpo.ds {w:World}{B:Nat}{p:Dp}(h:Dpo w B p)(h1:p.x.into.length≤1000)(h2:p.x.sizes.length≤1000):DS w B p.A1 p.A2 p.x:=⟨h.into,h.sizes,h1,h2⟩
theorem Dlo.up {w w':World}{A:Option Addr}{L:List Dp}(h:Dlo w w.heap.size A L)(hb:Below w.heap.size w w'):Dlo w' w'.heap.size A L:=
 ⟨(h.seg.below hb).more hb.size,fun p hp=>by
  obtain⟨h1,h2,h3,h4⟩:=h.each p hp
  exact⟨(h1.below hb).more hb.size,(h2.below hb).more hb.size,h3,h4⟩⟩
theorem new_row (w : World) (t : TypeId) (old cells : Array Value) (hi : (Tryz.prog.info? t).map (·.size) = some cells.size) (ho : old.size = cells.size) (h1 : cells.all (·.oneCell') = true) :
  ∃w',(storeVar t ⟨w.heap.size,0,none⟩ (.agg cells)).run Tryz.prog (w.alloc (.cells old t (0,0)))=.ok () w'∧w'.heap[w.heap.size]?=some (.cells cells t (0,0))∧Below w.heap.size w w'∧w.heap.size<w'.heap.size:=by
 obtain⟨w2,st2,k2,g2⟩:=st_row (w.alloc (.cells old t (0,0))) w.heap.size t t old cells (heap_alloc_new w _) hi ho h1
 exact⟨w2,st2,k2,((Below.refl _ w).alloc (Nat.le_refl _) _).grown g2 (by simp) (by intro k e;cases e;exact Nat.le_refl _),(Array.getElem?_eq_some_iff.1 k2).1⟩
end Go.Proofs.YtcffonnijhhhiaaGreatDoor
set_option linter.all false
set_option linter.unusedSimpArgs false
set_option linter.unusedVariables false
set_option linter.unusedSectionVars false
namespace Go.Proofs.Rt
def aft1 (q:Int×Int)(y:Deal):Int×Int:=(max q.1 (Go.IntKind.i64.wrap (y.id+1)),y.day)
def aftQ (l:List Deal):Int×Int:=l.foldl aft1 (1,0)
def aft (l:List Deal)(x:Deal):Deal:= {x with id:=(aftQ l).1,day:=(aftQ l).2}
theorem aftQ_next {l:List Deal}{j:Nat}(h:j<l.length):aftQ (l.take (j+1))=aft1 (aftQ (l.take j)) l[j]:=by
 unfold aftQ
 rw[List.take_succ_eq_append_getElem h,List.foldl_append]
 rfl
end Go.Proofs.Rt
namespace Go.Proofs.YtcffonnijhhhiaaGreatDoor
open Go Go.RowKit Go.Maps Mp
attribute [-simp] Prod.forall Prod.exists
attribute [-go_sem] loadVar storeVar Builtin.append_
attribute [local go_sem] lk_int lk_u8 lk_ints
theorem gscA (W:World)(a:Addr)(v:Value):W.grownBy (W.setCell a v) (some a.block):=gsc W a v
def EndAf (w:World)(L:List Dp)(X:Dl)(e:Ending)(w':World):Prop:=Below w.heap.size w w'∧
 if appE (dls L) X=0 then ∃A' c' M,e=.returned (.tuple #[.slice A' (L.length+1) c',.bool true])∧Dls w' w'.heap.size A' M∧dls M=dls L++[X]∧M.length=L.length+1∧L.length+1≤c'
 else e=.returned (.tuple #[.slice none 0 0,.bool false])
set_option maxRecDepth 100000 in
set_option maxHeartbeats 4000000 in
theorem after_h (A:Option Addr)(c:Nat)(L:List Dp)(p:Dp)(w:World)(hL:Dls w w.heap.size A L)(hm:L.length≤1000000)(hp:DS w w.heap.size p.A1 p.A2 p.x)(h1:p.x.into.length≤p.c1)(h2:p.x.sizes.length≤p.c2):
  Calls Tryz.prog 46 #[.slice A L.length c,.agg (xcs p.x p.A1 p.A2 p.c1 p.c2)] w (EndAf w L (Rt.aft (dls L) p.x)):=by
 have b0:Below w.heap.size w (w.alloc (oDl p.x p.A1 p.A2 p.c1 p.c2)):=by go_grown
 have k0:=heap_alloc_new w (oDl p.x p.A1 p.A2 p.c1 p.c2)
 obtain⟨W0,hW0⟩: ∃W0,w.alloc (oDl p.x p.A1 p.A2 p.c1 p.c2)=W0:=⟨_,rfl⟩
 rw[hW0]at b0 k0
 have z0:w.heap.size<W0.heap.size:=(Array.getElem?_eq_some_iff.1 k0).1
 have s1:(storeVar 3 ⟨w.heap.size,0,none⟩ (.int .i64 1)).run Tryz.prog W0=_:=st_int (j:=0) k0 (by simp)
 have k1:=hsc (j:=0) (.int .i64 1) k0
 have g1:=gscA W0 ⟨w.heap.size,0,none⟩ (.int .i64 1)
 obtain⟨W1,hW1⟩: ∃W1,W0.setCell ⟨w.heap.size,0,none⟩ (.int .i64 1)=W1:=⟨_,rfl⟩
 rw[hW1]at s1 k1 g1
 have s2:(storeVar 3 ⟨w.heap.size,1,none⟩ (.int .i64 0)).run Tryz.prog W1=_:=st_int (j:=1) k1 (by simp)
 have k2:=hsc (j:=1) (.int .i64 0) k1
 have g2:=gscA W1 ⟨w.heap.size,1,none⟩ (.int .i64 0)
 obtain⟨W2,hW2⟩: ∃W2,W1.setCell ⟨w.heap.size,1,none⟩ (.int .i64 0)=W2:=⟨_,rfl⟩
 rw[hW2]at s2 k2 g2
 have b1:Below w.heap.size w W1:=b0.grown g1 b0.size (fun k e=>by cases e;exact Nat.le_refl _)
 have b2:Below w.heap.size w W2:=b1.grown g2 b1.size (fun k e=>by cases e;exact Nat.le_refl _)
 have HB2:=Lib.hid b2
 have HX2:Hid (w.heap.size<W2.heap.size):=Lib.hid (Array.getElem?_eq_some_iff.1 k2).1
 have HL:=Lib.hid hL
 have HP:=Lib.hid hp
 have K2:Hid (W2.heap[w.heap.size]?=some (.cells (xcs {p.x with id:=1,day:=0} p.A1 p.A2 p.c1 p.c2) 24 (0,0))):=Lib.hid (by rw[k2];rfl)
 have HW0:=Lib.hid hW0
 clear hL hp k0 k1 k2 g1 g2 b0 b1 b2 z0 hW0 hW1 hW2
 go_enter Tryz.func46,Tryz.ntmps46
 go_upto_region 1 with fail
 rw[HW0.out]
 go_wp2
 go_loopw [14] (fun i wr=> ∃j:Nat,j≤L.length∧i=.int .i64 j∧Hid (wr.heap[w.heap.size]?=some (.cells (xcs {p.x with id:=(Rt.aftQ ((dls L).take j)).1,day:=(Rt.aftQ ((dls L).take j)).2} p.A1 p.A2 p.c1 p.c2) 24 (0,0)))∧Hid (Below w.heap.size w wr)) (fun i _=>L.length-(intOf i).toNat)
 case atStart=>exact⟨0,by omega,rfl,K2,HB2⟩
 case round=>
  obtain⟨j,hj,rfl,KB,HBr⟩:=hrel
  by_cases hlt:j<L.length
  ·have hji:(j:Int)<(L.length:Int):=by omega
   obtain⟨bl,ol,hA,hbb,hld,_⟩:=(HL.out.below HBr.out).at_ hlt
   have hq:Rt.aftQ ((dls L).take (j+1))=Rt.aft1 (Rt.aftQ ((dls L).take j)) L[j].x:=by rw[Rt.aftQ_next (by simpa using hlt)];simp
   have HQ:=Lib.hid hq
   obtain⟨q,hqq⟩: ∃q,Rt.aftQ ((dls L).take j)=q:=⟨_,rfl⟩
   have HQQ:=Lib.hid hqq
   obtain⟨y,hy⟩: ∃y,L[j]=y:=⟨_,rfl⟩
   rw[hy]at hld
   have HY:=Lib.hid hy
   obtain⟨w4,st4,k4,g4⟩:=st_row (wr.alloc (.cells zcs 24)) wr.heap.size 24 24 zcs (xcs y.x y.A1 y.A2 y.c1 y.c2) (heap_alloc_new wr _) info_deal rfl (by simp[Value.oneCell'])
   have b4:Below wr.heap.size wr w4:=(Below.alloc (Below.refl _ wr) (Nat.le_refl _) _).grown g4 (by simp) (by intro k e;cases e;omega)
   have hxr:w.heap.size<wr.heap.size:=(Array.getElem?_eq_some_iff.1 KB.out).1
   have kb4:w4.heap[w.heap.size]?=some (.cells (xcs {p.x with id:=q.1,day:=q.2} p.A1 p.A2 p.c1 p.c2) 24 (0,0)):=by rw[b4.block _ hxr,KB.out,HQQ.out]
   subst hA
   obtain⟨W,hW⟩: ∃W:World,W=w4.drew:=⟨_,rfl⟩
   have HBW:Hid (Below w.heap.size w W):=Lib.hid (by rw[hW];exact below_drew (HBr.out.trans (b4.mono HBr.out.size)))
   have kw:W.heap[w.heap.size]?=some (.cells (xcs {p.x with id:=q.1,day:=q.2} p.A1 p.A2 p.c1 p.c2) 24 (0,0)):=by rw[hW];exact kb4
   have ky:W.heap[wr.heap.size]?=some (.cells (xcs y.x y.A1 y.A2 y.c1 y.c2) 24 (0,0)):=by rw[hW];exact k4
   have s1:(storeVar 3 ⟨w.heap.size,0,none⟩ (.int .i64 (max q.1 (IntKind.i64.wrap (y.x.id+1))))).run Tryz.prog W=_:=st_int (j:=0) kw (by simp)
   have k1:=hsc (j:=0) (.int .i64 (max q.1 (IntKind.i64.wrap (y.x.id+1)))) kw
   have g1:=gscA W ⟨w.heap.size,0,none⟩ (.int .i64 (max q.1 (IntKind.i64.wrap (y.x.id+1))))
   obtain⟨V1,hV1⟩: ∃V1,W.setCell ⟨w.heap.size,0,none⟩ (.int .i64 (max q.1 (IntKind.i64.wrap (y.x.id+1))))=V1:=⟨_,rfl⟩
   rw[hV1]at s1 k1 g1
   have s2:(storeVar 3 ⟨w.heap.size,1,none⟩ (.int .i64 y.x.day)).run Tryz.prog V1=_:=st_int (j:=1) k1 (by simp)
   have k2:=hsc (j:=1) (.int .i64 y.x.day) k1
   have g2:=gscA V1 ⟨w.heap.size,1,none⟩ (.int .i64 y.x.day)
   obtain⟨V2,hV2⟩: ∃V2,V1.setCell ⟨w.heap.size,1,none⟩ (.int .i64 y.x.day)=V2:=⟨_,rfl⟩
   rw[hV2]at s2 k2 g2
   have qx:W.cell? ⟨w.heap.size,0,none⟩=some (.int .i64 q.1):=(blk_cells kw).1 0
   have c0:W.cell? ⟨wr.heap.size,0,none⟩=some (.int .i64 y.x.id):=(blk_cells ky).1 0
   have c1':W.cell? ⟨wr.heap.size,1,none⟩=some (.int .i64 y.x.day):=(blk_cells ky).1 1
   have ky1:V1.heap[wr.heap.size]?=some (.cells (xcs y.x y.A1 y.A2 y.c1 y.c2) 24 (0,0)):=(g1.block _ (Array.getElem?_eq_some_iff.1 ky).1 (by simp;omega)).trans ky
   have ky2:V2.heap[wr.heap.size]?=some (.cells (xcs y.x y.A1 y.A2 y.c1 y.c2) 24 (0,0)):=(g2.block _ (Array.getElem?_eq_some_iff.1 ky1).1 (by simp;omega)).trans ky1
   have HS0:Hid (W.cell? ⟨wr.heap.size,0,none⟩=some (.int .i64 y.x.id)∧W.cell? ⟨wr.heap.size,1,none⟩=some (.int .i64 y.x.day)):=Lib.hid ⟨c0,c1'⟩
   have HS1:Hid (V1.cell? ⟨wr.heap.size,0,none⟩=some (.int .i64 y.x.id)∧V1.cell? ⟨wr.heap.size,1,none⟩=some (.int .i64 y.x.day)):=Lib.hid ⟨(blk_cells ky1).1 0,(blk_cells ky1).1 1⟩
   have HS2:Hid (V2.cell? ⟨wr.heap.size,0,none⟩=some (.int .i64 y.x.id)∧V2.cell? ⟨wr.heap.size,1,none⟩=some (.int .i64 y.x.day)):=Lib.hid ⟨(blk_cells ky2).1 0,(blk_cells ky2).1 1⟩
   have bV1:Below w.heap.size w V1:=HBW.out.grown g1 HBW.out.size (fun k e=>by cases e;exact Nat.le_refl _)
   have HB3:Hid (Below w.heap.size w V2):=Lib.hid (bV1.grown g2 bV1.size (fun k e=>by cases e;exact Nat.le_refl _))
   have K3:Hid (V2.heap[w.heap.size]?=some (.cells (xcs {p.x with id:=(Rt.aftQ ((dls L).take (j+1))).1,day:=(Rt.aftQ ((dls L).take (j+1))).2} p.A1 p.A2 p.c1 p.c2) 24 (0,0))):=Lib.hid (by rw[k2,HQ.out,HQQ.out,HY.out];rfl)
   have HW:=Lib.hid hW
   clear k1 k2 g1 g2 ky ky1 ky2 kw kb4 k4 g4 b4 hV1 hV2 hW hq hqq hy c0 c1' bV1
   go_upto_region 5 with fail
   clear st4 hld
   refine wp_region_held_drew (S:=fun V=>(V.cell? ⟨wr.heap.size,0,none⟩=some (.int .i64 y.x.id)∧V.cell? ⟨wr.heap.size,1,none⟩=some (.int .i64 y.x.day))) (by kernel_rfl) (by rw[←HW.out];exact HS0.out) (fun hHeld=> ?_)
   rw[←HW.out]
   replace hHeld:=HS0.out
   refine takeH 0 (some 18) (v:= ?_) rfl rfl (by kernel_rfl) (by kernel_rfl) (by kernel_rfl) (fun _ _ _ h=>h) (Or.inl ⟨by rfl,fun W hW=> ?_⟩) (by assumption) ?_
   rotate_left
   ·obtain⟨hW1,hW2⟩:=hW;go_simp;try with_reducible rfl
   try simp only[Act.put,List.setIfInBounds_toArray,List.set_cons_zero,List.set_cons_succ]
   refine takeH 2 (some 20) (v:= ?_) rfl rfl (by kernel_rfl) (by kernel_rfl) (by kernel_rfl) (fun _ _ _ h=>h) (Or.inl ⟨by rfl,fun W hW=> ?_⟩) (by assumption) ?_
   rotate_left
   ·obtain⟨hW1,hW2⟩:=hW;go_simp;try with_reducible rfl
   try simp only[Act.put,List.setIfInBounds_toArray,List.set_cons_zero,List.set_cons_succ]
   refine takeH 3 (some 21) (v:= ?_) rfl rfl (by kernel_rfl) (by kernel_rfl) (by kernel_rfl) (fun _ _ _ h=>h) (Or.inl ⟨by rfl,fun W hW=> ?_⟩) (by assumption) ?_
   rotate_left
   ·obtain⟨hW1,hW2⟩:=hW;go_simp;try with_reducible rfl
   try simp only[Act.put,List.setIfInBounds_toArray,List.set_cons_zero,List.set_cons_succ]
   refine takeH 4 (some 22) (v:= ?_) rfl rfl (by kernel_rfl) (by kernel_rfl) (by kernel_rfl) (fun _ _ _ h=>h) (Or.inl ⟨by rfl,fun W hW=> ?_⟩) (by assumption) ?_
   rotate_left
   ·obtain⟨hW1,hW2⟩:=hW;go_simp;try with_reducible rfl
   try simp only[Act.put,List.setIfInBounds_toArray,List.set_cons_zero,List.set_cons_succ]
   refine takeH 6 (some 24) (v:= ?_) rfl rfl (by kernel_rfl) (by kernel_rfl) (by kernel_rfl) (fun _ _ _ h=>h) (Or.inl ⟨by rfl,fun W hW=> ?_⟩) (by assumption) ?_
   rotate_left
   ·obtain⟨hW1,hW2⟩:=hW;go_simp;try with_reducible rfl
   try simp only[Act.put,List.setIfInBounds_toArray,List.set_cons_zero,List.set_cons_succ]
   refine takeH 7 (some 25) (v:= ?_) rfl rfl (by kernel_rfl) (by kernel_rfl) (by kernel_rfl) (fun _ _ _ h=>h) (Or.inl ⟨by rfl,fun W hW=> ?_⟩) (by assumption) ?_
   rotate_left
   ·obtain⟨hW1,hW2⟩:=hW;go_simp;try with_reducible rfl
   try simp only[Act.put,List.setIfInBounds_toArray,List.set_cons_zero,List.set_cons_succ]
   refine wpAnyH_ready (rs:=[1]) (by kernel_rfl) (by simp) ?_
   refine readyH (some 19) rfl rfl (fun K hK=> ?_) AllReadyH.nil
   go_simp
   refine hK _ _ (HS0.out) (fun hHeld=> ?_)
   clear hK K
   try simp only[Act.put,List.setIfInBounds_toArray,List.set_cons_zero,List.set_cons_succ]
   refine takeH 5 (some 23) (v:= ?_) rfl rfl (by kernel_rfl) (by kernel_rfl) (by kernel_rfl) (fun _ _ _ h=>h) (Or.inl ⟨by rfl,fun W hW=> ?_⟩) (by assumption) ?_
   rotate_left
   ·obtain⟨hW1,hW2⟩:=hW;go_simp;try with_reducible rfl
   try simp only[Act.put,List.setIfInBounds_toArray,List.set_cons_zero,List.set_cons_succ]
   refine takeH 8 (some 26) (v:= ?_) rfl rfl (by kernel_rfl) (by kernel_rfl) (by kernel_rfl) (fun _ _ _ h=>h) (Or.inl ⟨by rfl,fun W hW=> ?_⟩) (by assumption) ?_
   rotate_left
   ·obtain⟨hW1,hW2⟩:=hW;go_simp;try with_reducible rfl
   try simp only[Act.put,List.setIfInBounds_toArray,List.set_cons_zero,List.set_cons_succ]
   refine wpAnyH_ready (rs:=[9]) (by kernel_rfl) (by simp) ?_
   refine readyH none rfl rfl (fun K hK=> ?_) AllReadyH.nil
   go_simp
   refine hK _ _ (HS1.out) (fun hHeld=> ?_)
   clear hK K
   try simp only[Act.put,List.setIfInBounds_toArray,List.set_cons_zero,List.set_cons_succ]
   refine takeH 10 (some 27) (v:= ?_) rfl rfl (by kernel_rfl) (by kernel_rfl) (by kernel_rfl) (fun _ _ _ h=>h) (Or.inl ⟨by rfl,fun W hW=> ?_⟩) (by assumption) ?_
   rotate_left
   ·obtain⟨hW1,hW2⟩:=hW;go_simp;try with_reducible rfl
   try simp only[Act.put,List.setIfInBounds_toArray,List.set_cons_zero,List.set_cons_succ]
   refine wpAnyH_ready (rs:=[11]) (by kernel_rfl) (by simp) ?_
   refine readyH none rfl rfl (fun K hK=> ?_) AllReadyH.nil
   go_simp
   refine hK _ _ (HS2.out) (fun hHeld=> ?_)
   clear hK K
   try simp only[Act.put,List.setIfInBounds_toArray,List.set_cons_zero,List.set_cons_succ]
   refine wpAnyH_done (by kernel_rfl) ?_ _
   go_wp2
   go_roundw
   case rel=>exact⟨j+1,by omega,by go_num,K3,HB3⟩
   case measure=>first|(simp[intOf];done)|(simp[intOf];omega)
  ·obtain rfl:j=L.length:=by omega
   have ht:(dls L).take L.length=dls L:=List.take_of_length_le (by simp)
   have kr:wr.heap[w.heap.size]?=some (.cells (xcs (Rt.aft (dls L) p.x) p.A1 p.A2 p.c1 p.c2) 24 (0,0)):=by
    have:=KB.out
    rw[ht]at this
    exact this
   have lx:=ld_row kr Tryz.underlying24 rfl info_deal
   have hpv:=HP.out.up HBr.out
   have hap:=append_a A c L (Rt.aft (dls L) p.x) p.A1 p.A2 p.c1 p.c2 wr (HL.out.up HBr.out) hm ⟨hpv.into,hpv.sizes,hpv.li,hpv.ls⟩ h1 h2
   unfold EndA at hap
   have HG:Hid (∀e w',Below w.heap.size w w'→(if appE (dls L) (Rt.aft (dls L) p.x)=0 then ∃A' c' M,e=.returned (.tuple #[.slice A' (L.length+1) c',.bool true])∧Dls w' w'.heap.size A' M∧dls M=dls L++[Rt.aft (dls L) p.x]∧M.length=L.length+1∧L.length+1≤c' else e=.returned (.tuple #[.slice none 0 0,.bool false]))→EndAf w L (Rt.aft (dls L) p.x) e w'):=Lib.hid fun e w' h1 h2=>⟨h1,h2⟩
   obtain⟨X,hX⟩: ∃X,Rt.aft (dls L) p.x=X:=⟨_,rfl⟩
   have HXE:=Lib.hid hX
   rw[hX]at lx hap HG ⊢
   obtain⟨E,hE⟩: ∃E,appE (dls L) X=E:=⟨_,rfl⟩
   rw[hE]at hap HG
   clear hX hE ht kr hpv KB
   by_cases hE0:E=0
   ·subst hE0
    simp only[if_true]at hap
    have hg:=HG.out
    simp only[if_true]at hg
    have HG:=Lib.hid hg
    clear hg
    go_wp2_with fail
    refine hap.mono ?_
    clear hap lx
    rintro e w5 ⟨b5,A',c',M,rfl,hD,hM,hl,hcc,_⟩
    have HF:=Lib.hid (HG.out _ w5 (HBr.out.trans (b5.mono HBr.out.size)) ⟨A',c',M,rfl,hD,hM,hl,hcc⟩)
    clear b5 hD hM hl hcc HG
    go_wp2
    refine bodyPost_ret (v:=.tuple #[.slice A' (L.length+1) c',.bool true]) (by simp[results,Tryz.results46,go_sem]) rfl ?_
    rw[HXE.out]
    exact HF.out
   ·simp only[hE0,if_false]at hap
    have hg:=HG.out
    simp only[hE0,if_false]at hg
    have HG:=Lib.hid hg
    have hq:(E==0)=false:=by simpa using hE0
    clear hg
    go_wp2_with fail
    refine hap.mono ?_
    clear hap lx
    rintro e w5 ⟨b5,rfl⟩
    have HF:=Lib.hid (HG.out _ w5 (HBr.out.trans (b5.mono HBr.out.size)) rfl)
    clear b5 HG
    go_wp2
    refine bodyPost_ret (v:=.tuple #[.slice none 0 0,.bool false]) (by simp[results,Tryz.results46,go_sem]) rfl ?_
    rw[HXE.out]
    exact HF.out
end Go.Proofs.YtcffonnijhhhiaaGreatDoor
set_option linter.all false
set_option linter.unusedSimpArgs false
set_option linter.unusedVariables false
set_option linter.unusedSectionVars false
namespace Go.Proofs.Rt
theorem lots_ext {l m : List Lot} (hl : asc (l.map (·.number))) (hm : asc (m.map (·.number))) (h : ∀ n, lotOf l n = lotOf m n) : l = m := by
 have cons: ∀(y:Lot) (l:List Lot) (n:Int),lotOf (y::l) n=if y.number=n then some y else lotOf l n:=by
  intro y l n
  unfold lotOf
  rw[List.find?_cons]
  by_cases e:y.number=n
  ·simp[e]
  ·simp only[beq_eq_false_iff_ne.2 e,if_neg e]
 induction l generalizing m with
 |nil=>
  cases m with
  |nil=>rfl
  |cons y m=>
   have:=h y.number
   rw[cons,if_pos rfl]at this
   cases this
 |cons x l ih=>
  cases m with
  |nil=>
   have:=h x.number
   rw[cons,if_pos rfl]at this
   cases this
  |cons y m=>
   have l1: ∀z∈l,x.number<z.number:=fun z hz=>hl.1 _ (List.mem_map_of_mem hz)
   have m1: ∀z∈m,y.number<z.number:=fun z hz=>hm.1 _ (List.mem_map_of_mem hz)
   have hx:=h x.number
   have hy:=h y.number
   rw[cons,if_pos rfl]at hx
   rw[cons y,if_pos rfl]at hy
   have hxy:x=y:=by
    rcases List.mem_cons.1 (lotOf_some hx.symm).1 with e|a
    ·exact e
    ·rcases List.mem_cons.1 (lotOf_some hy).1 with e|b
     ·exact e.symm
     ·have:=m1 x a
      have:=l1 y b
      omega
   subst hxy
   congr 1
   refine ih hl.2 hm.2 (fun n=> ?_)
   have:=h n
   rw[cons,cons]at this
   by_cases e:x.number=n
   ·subst e
    rw[lotOf_none.2 (fun z hz=>by have:=l1 z hz;omega),lotOf_none.2 (fun z hz=>by have:=m1 z hz;omega)]
   ·rwa[if_neg e,if_neg e]at this
theorem unused_gone (l:List Lot)(n:Int): ∀y∈gone l n,y.number≠n:=fun _ hy=>by simpa [gone]using (List.mem_filter.1 hy).2
theorem put_gone {l : List Lot} {x : Lot} (h : asc (l.map (·.number))) (hx : lotOf l x.number = some x) : put (gone l x.number) x = l := by
 refine lots_ext (asc_put (asc_gone h) (unused_gone l x.number)) h (fun n=> ?_)
 rw[lotOf_put (unused_gone l x.number),lotOf_gone]
 by_cases e:x.number=n
 ·subst e
  rw[if_pos rfl,hx]
 ·rw[if_neg e,if_neg e]
theorem gone_put {l : List Lot} {x : Lot} (h : asc (l.map (·.number))) (hn : ∀ y ∈ l, y.number ≠ x.number) : gone (put l x) x.number = l := by
 refine lots_ext (asc_gone (asc_put h hn)) h (fun n=> ?_)
 rw[lotOf_gone,lotOf_put hn]
 by_cases e:x.number=n
 ·subst e
  rw[if_pos rfl,lotOf_none.2 hn]
 ·rw[if_neg e,if_neg e]
theorem grant_back {l:List (Int×Int)}(h:Held l){a b n:Int}(hn:0<n)(ha:n≤heldBy l a)(hab:a≠b):grant (grant (grant (grant l a (-n)) b n) b (-n)) a n=l:=by
 have h2:=h.grant (b:=b) hn ha
 have o2:=h.of_grant (b:=b) hn ha hab
 have hb:n≤heldBy (grant (grant l a (-n)) b n) b:=by
  rw[o2,if_pos rfl]
  have:=held_pos h.pos b
  omega
 have h3:=h2.grant (b:=a) hn hb
 refine held_ext h3.asc h.asc h3.pos h.pos (fun q=> ?_)
 rw[h2.of_grant hn hb (fun e=>hab e.symm),o2,o2,o2]
 by_cases e1:q=a
 ·subst e1
  rw[if_pos rfl,if_neg hab,if_pos rfl]
  omega
 ·rw[if_neg e1]
  by_cases e2:q=b
  ·subst e2
   rw[if_pos rfl,if_pos rfl]
   omega
  ·rw[if_neg e2,if_neg e2,if_neg e1]
theorem grant_back_roll {s:St}(h:Inv s){o:Lot}{a b n:Int}(ho:lotOf s.roll.lots o.number=some o)(hn:0<n)(ha:n≤heldBy o.held a)(hab:a≠b):
  put (gone (put (gone s.roll.lots o.number) ⟨o.number,o.size,grant (grant o.held a (-n)) b n⟩) o.number) ⟨o.number,o.size,grant (grant (grant (grant o.held a (-n)) b n) b (-n)) a n⟩=s.roll.lots:=by
 have hod:=(h.held o (lotOf_some ho).1).1
 have g:=gone_put (x:=⟨o.number,o.size,grant (grant o.held a (-n)) b n⟩) (asc_gone (n:=o.number) h.lots) (unused_gone s.roll.lots o.number)
 rw[grant_back hod hn ha hab]
 rw[show gone (put (gone s.roll.lots o.number) ⟨o.number,o.size,grant (grant o.held a (-n)) b n⟩) o.number=gone s.roll.lots o.number from g]
 exact put_gone h.lots ho
theorem right_formed : ∀ {s:St} {done l:List Deal},rightFrom s done l→ ∀x∈l,formed x=true
 |_,_,[],_,x,hx=>by cases hx
 |_,_,y::l,h,x,hx=>by
  rcases List.mem_cons.1 hx with rfl|hx
  ·exact(refused_zero h.1).2.1
  ·exact right_formed h.2 x hx
theorem formed_ids {x:Deal}(h:formed x=true):1≤x.id∧x.id≤1000000∧0≤x.day∧x.day≤100000:=by
 unfold formed isId at h
 simp only[Bool.and_eq_true,inR_iff]at h
 exact⟨h.1.1.1.1,h.1.1.1.2,h.1.1.2.1,h.1.1.2.2⟩
theorem on_all {l:List Deal}(h:(check l).2=0):onDay l 100000=l:=by
 unfold onDay
 refine List.filter_eq_self.2 fun x hx=> ?_
 have:=(formed_ids (right_formed ((checkGo_iff _ _ _).1 h) x hx)).2.2.2
 simpa using this
theorem chk_app2 (l:List Deal)(x:Deal):(check (l++[x])).2=0↔(check l).2=0∧refused (stOf l) l x=0:=by
 unfold check
 rw[checkGo_iff,checkGo_iff,right_app]
 simp[rightFrom,stOf]
theorem stOf_snoc2 (l:List Deal)(x:Deal):stOf (l++[x])=does (stOf l) x:=by
 unfold stOf
 rw[List.foldl_append]
 rfl
theorem wrap_small {n:Int}(h:0≤n)(h2:n≤1000000000):Go.IntKind.i64.wrap n=n:=by
 rw[Go.IntKind.wrap_i64]
 omega
theorem aftQ_ge (l:List Deal): ∀q,q.1≤(l.foldl aft1 q).1:=by
 induction l with
 |nil=>intro q;exact Int.le_refl _
 |cons x l ih=>
  intro q
  refine Int.le_trans ?_ (ih _)
  unfold aft1
  exact Int.le_max_left _ _
theorem aftQ_id {l:List Deal}(h: ∀x∈l,formed x=true): ∀x∈l,x.id<(aftQ l).1:=by
 have key: ∀(l:List Deal) (q:Int×Int),(∀x∈l,formed x=true)→ ∀x∈l,x.id<(l.foldl aft1 q).1:=by
  intro l
  induction l with
  |nil=>intro q _ x hx;cases hx
  |cons y l ih=>
   intro q hf x hx
   rcases List.mem_cons.1 hx with rfl|hx
   ·refine Int.lt_of_lt_of_le ?_ (aftQ_ge l _)
    have hi:=formed_ids (hf x (by simp))
    show x.id<max q.1 (Go.IntKind.i64.wrap (x.id+1))
    rw[wrap_small (by omega) (by omega)]
    have:=Int.le_max_right q.1 (x.id+1)
    omega
   ·exact ih _ (fun z hz=>hf z (by simp[hz])) x hx
 exact key l _ h
theorem aftQ_snoc (l:List Deal)(x:Deal):aftQ (l++[x])=aft1 (aftQ l) x:=by
 unfold aftQ
 rw[List.foldl_append]
 rfl
def gx (lot fr tw parts:Int):Deal:=⟨0,0,2,lot,0,fr,tw,parts,0,[],[]⟩
theorem put_map {l : List Lot} (h : asc (l.map (·.number))) {o : Lot} {n : Int} (ho : lotOf l n = some o) (y : Lot) (hy : y.number = n) : put (gone l n) y = l.map fun z => if z.number = n then y else z := by
 subst hy
 have hm : (l.map fun z => if z.number = y.number then y else z).map (·.number) = l.map (·.number) := by
  rw[List.map_map]
  refine List.map_congr_left fun z _=> ?_
  show(if z.number=y.number then y else z).number=z.number
  split
  ·rename_i e;exact e.symm
  ·rfl
 refine lots_ext (asc_put (asc_gone h) (unused_gone l y.number)) (by rw[hm];exact h) (fun n=> ?_)
 rw[lotOf_put (unused_gone l y.number),lotOf_gone]
 clear h hm
 induction l with
 |nil=>unfold lotOf at ho;cases ho
 |cons z l ih=>
  rw[List.map_cons]
  unfold lotOf at ho ih ⊢
  rw[List.find?_cons,List.find?_cons]
  rw[List.find?_cons]at ho
  by_cases e:z.number=y.number
  ·rw[if_pos e]
   by_cases e2:y.number=n
   ·rw[if_pos e2]
    simp[e2]
   ·rw[if_neg e2,if_neg e2]
    have c1:(z.number==n)=false:=by rw[beq_eq_false_iff_ne,e];exact e2
    have c2:(y.number==n)=false:=beq_eq_false_iff_ne.2 e2
    rw[c1,c2]
    show l.find? (fun x=>x.number==n)=_
    clear ih ho
    induction l with
    |nil=>rfl
    |cons u l ih2=>
     rw[List.map_cons,List.find?_cons,List.find?_cons]
     by_cases e3:u.number=y.number
     ·rw[if_pos e3]
      have c3:(u.number==n)=false:=by rw[beq_eq_false_iff_ne,e3];exact e2
      rw[c3,c2]
      exact ih2
     ·rw[if_neg e3]
      split
      ·rfl
      ·exact ih2
  ·have c:(z.number==y.number)=false:=beq_eq_false_iff_ne.2 e
   rw[c]at ho
   rw[if_neg e]
   by_cases e2:y.number=n
   ·rw[if_pos e2]
    have c1:(z.number==n)=false:=by rw[beq_eq_false_iff_ne,←e2];exact e
    rw[c1]
    have:=ih ho
    rw[if_pos e2]at this
    exact this
   ·rw[if_neg e2,if_neg e2]
    by_cases e3:z.number=n
    ·have c1:(z.number==n)=true:=beq_iff_eq.2 e3
     rw[c1]
    ·have c1:(z.number==n)=false:=beq_eq_false_iff_ne.2 e3
     rw[c1]
     have:=ih ho
     rw[if_neg e2,if_neg e2]at this
     exact this
theorem grants_plain {l:List Deal}(hc:(check l).2=0)(hl:l.length≤20){lot fr tw parts:Int}{X:Deal}(hX:aft l (gx lot fr tw parts)=X)(hr:refused (stOf l) l X=0){Y:Deal}(hY:aft (l++[X]) (gx lot tw fr parts)=Y):
  (refused (stOf (l++[X])) (l++[X]) Y=0∨X.id=1000000)∧(refused (stOf (l++[X])) (l++[X]) Y=0→(stOf (l++[X]++[Y])).roll=(stOf l).roll)∧
  (∃y:Lot,(stOf (l++[X])).roll.eases=(stOf l).roll.eases∧(stOf (l++[X])).roll.stints=(stOf l).roll.stints∧(stOf (l++[X])).roll.lots=(stOf l).roll.lots.map (fun z=>if z.number=lot then y else z)∧y.number=lot)∧
  heldBy (heldOf (stOf (l++[X])).roll.lots lot) fr=heldBy (heldOf (stOf l).roll.lots lot) fr-parts∧heldBy (heldOf (stOf (l++[X])).roll.lots lot) tw=heldBy (heldOf (stOf l).roll.lots lot) tw+parts∧
  (0≤heldBy (heldOf (stOf l).roll.lots lot) fr∧heldBy (heldOf (stOf l).roll.lots lot) fr≤5040)∧(0≤heldBy (heldOf (stOf l).roll.lots lot) tw∧heldBy (heldOf (stOf l).roll.lots lot) tw≤5040)∧(1≤parts∧parts≤5040)∧
  (1≤lot∧lot≤1000000)∧(1≤fr∧fr≤1000000)∧(1≤tw∧tw≤1000000):=by
 have hck:=(checkGo_iff _ _ _).1 hc
 have hin:=check_inv hc
 obtain⟨s,hs⟩: ∃s,stOf l=s:=⟨_,rfl⟩
 rw[hs]at hr hin ⊢
 obtain⟨_,hf,_,_,hp⟩:=refused_zero hr
 obtain⟨p1,_,p3,_⟩:=possible_iff.1 hp
 have hXk:X=⟨(aftQ l).1,(aftQ l).2,2,lot,0,fr,tw,parts,0,[],[]⟩:=by rw[←hX];rfl
 have hids:=formed_ids hf
 have hkf:=hf
 unfold formed isId at hkf
 rw[hXk]at hkf
 simp only[Bool.and_eq_true,inR_iff,bne_iff_ne,ne_eq]at hkf
 obtain⟨⟨_,hlot⟩,hfd⟩:=hkf
 have hkto:1≤tw∧tw≤1000000:=hfd.1.1.1.2
 have hkfr:1≤fr∧fr≤1000000:=hfd.1.1.2
 have hne: ¬fr=tw:=hfd.1.2
 have hpt:1≤parts∧parts≤5040:=hfd.2
 have p1':(lotOf s.roll.lots lot).isSome:=by
  unfold missing at p1
  rw[hXk]at p1
  simpa using p1
 obtain⟨o,ho⟩:=Option.isSome_iff_exists.1 p1'
 obtain⟨hom,hon⟩:=lotOf_some ho
 have hh:heldOf s.roll.lots lot=o.held:=by unfold heldOf;rw[ho];rfl
 have hz:sizeOf s.roll.lots lot=o.size:=by unfold sizeOf;rw[ho];rfl
 have hod:=(hin.held o hom).1
 have hpa:parts≤heldBy o.held fr:=by
  have: ¬heldBy (heldOf s.roll.lots X.lot) X.fr<X.parts:=fun e=>p3 ⟨by rw[hXk],e⟩
  rw[hXk]at this
  show parts≤_
  rw[←hh]
  exact Int.not_lt.1 this
 have hd1:stOf (l++[X])=⟨{s.roll with lots:=put (gone s.roll.lots lot) ⟨lot,o.size,grant (grant o.held fr (-parts)) tw parts⟩},s.used⟩:=by
  rw[stOf_snoc2,hs,hXk]
  show St.mk {s.roll with lots:=put (gone s.roll.lots lot) ⟨lot,sizeOf s.roll.lots lot,grant (grant (heldOf s.roll.lots lot) fr (-parts)) tw parts⟩} s.used=_
  rw[hh,hz]
 have hlm:lotOf (put (gone s.roll.lots lot) ⟨lot,o.size,grant (grant o.held fr (-parts)) tw parts⟩) lot=some ⟨lot,o.size,grant (grant o.held fr (-parts)) tw parts⟩:=by
  rw[lotOf_put (unused_gone s.roll.lots lot),if_pos rfl]
 have hh1:heldOf (put (gone s.roll.lots lot) ⟨lot,o.size,grant (grant o.held fr (-parts)) tw parts⟩) lot=grant (grant o.held fr (-parts)) tw parts:=by unfold heldOf;rw[hlm];rfl
 have hz1:sizeOf (put (gone s.roll.lots lot) ⟨lot,o.size,grant (grant o.held fr (-parts)) tw parts⟩) lot=o.size:=by unfold sizeOf;rw[hlm];rfl
 have og:=hod.of_grant (b:=tw) (by omega:(0:Int)<parts) hpa hne
 have hYk:Y=⟨(aftQ (l++[X])).1,(aftQ (l++[X])).2,2,lot,0,tw,fr,parts,0,[],[]⟩:=by rw[←hY];rfl
 have hXid:X.id=(aftQ l).1:=by rw[hXk]
 have hq:aftQ (l++[X])=(X.id+1,X.day):=by
  rw[aftQ_snoc]
  unfold aft1
  rw[←hXid,wrap_small (by omega) (by omega)]
  have:max X.id (X.id+1)=X.id+1:=by omega
  rw[this]
 rw[hq]at hYk
 have hxt:heldBy (grant (grant o.held fr (-parts)) tw parts) tw=heldBy o.held tw+parts:=by rw[og,if_pos rfl]
 have hxf:heldBy (grant (grant o.held fr (-parts)) tw parts) fr=heldBy o.held fr-parts:=by rw[og,if_neg hne,if_pos rfl]
 have b1:=held_pos hod.pos tw
 have b2:=held_pos hod.pos fr
 have b3:=held_le hod.pos tw
 have b4:=held_le hod.pos fr
 rw[hod.sum]at b3 b4
 refine⟨?_,fun hrY=> ?_,⟨⟨lot,o.size,grant (grant o.held fr (-parts)) tw parts⟩,by rw[hd1],by rw[hd1],?_,rfl⟩,?_,?_,?_,?_,hpt,hlot,hkfr,hkto⟩
 ·by_cases e:X.id=1000000
  ·exact .inr e
  left
  have hfY:formed Y=true:=by
   rw[hYk]
   unfold formed isId only
   simp only[Bool.and_eq_true,inR_iff,bne_iff_ne,ne_eq]
   refine⟨⟨⟨by omega,hids.2.2⟩,hlot⟩,?_⟩
   refine⟨⟨⟨⟨?_,hkfr⟩,hkto⟩,fun e=>hne e.symm⟩,hpt⟩
   simp
  have hpY:possible (stOf (l++[X])) Y=0:=by
   refine possible_iff.2 ⟨?_,?_,?_,?_⟩
   ·rw[hYk,hd1]
    show(lotOf _ lot).isNone=false
    rw[hlm]
    rfl
   ·rw[hYk];rfl
   ·rw[hYk,hd1]
    rintro⟨_,e2⟩
    have e2:heldBy (heldOf (put (gone s.roll.lots lot) ⟨lot,o.size,grant (grant o.held fr (-parts)) tw parts⟩) lot) tw<parts:=e2
    rw[hh1,hxt]at e2
    omega
   ·rw[hYk];rfl
  unfold refused
  rw[if_neg (by simp;omega),hfY]
  have hany:(l++[X]).any (fun y=>y.id==Y.id)=false:=by
   rw[List.any_eq_false]
   intro y hy
   have hYid:Y.id=X.id+1:=by rw[hYk]
   rcases List.mem_append.1 hy with hy|hy
   ·have:=aftQ_id (right_formed hck) y hy
    rw[←hXid]at this
    rw[beq_iff_eq]
    omega
   ·rw[List.mem_singleton.1 hy,beq_iff_eq]
    omega
  rw[hany]
  have hlast:((l++[X]).getLast?.map fun y=>decide (Y.day<y.day))=some false:=by
   rw[List.getLast?_concat]
   have:Y.day=X.day:=by rw[hYk]
   simp[this]
  rw[hlast]
  simpa using hpY
 ·rw[stOf_snoc2,hd1,hYk]
  show({s.roll with lots:=put (gone (put (gone s.roll.lots lot) ⟨lot,o.size,grant (grant o.held fr (-parts)) tw parts⟩) lot) ⟨lot,sizeOf (put (gone s.roll.lots lot) ⟨lot,o.size,grant (grant o.held fr (-parts)) tw parts⟩) lot,grant (grant (heldOf (put (gone s.roll.lots lot) ⟨lot,o.size,grant (grant o.held fr (-parts)) tw parts⟩) lot) tw (-parts)) fr parts⟩}:Roll)=s.roll
  rw[hh1,hz1]
  have:=grant_back_roll hin (o:=o) (by rw[hon];exact ho) (by omega:(0:Int)<parts) hpa hne
  rw[hon]at this
  rw[this]
 ·rw[hd1]
  exact put_map hin.lots ho _ rfl
 ·rw[hd1,hh]
  show heldBy (heldOf (put (gone s.roll.lots lot) _) lot) fr=_
  rw[hh1,hxf]
 ·rw[hd1,hh]
  show heldBy (heldOf (put (gone s.roll.lots lot) _) lot) tw=_
  rw[hh1,hxt]
 ·rw[hh];exact⟨b2,b4⟩
 ·rw[hh];exact⟨b1,b3⟩
end Go.Proofs.Rt
set_option linter.all false
set_option linter.unusedSimpArgs false
set_option linter.unusedVariables false
set_option linter.unusedSectionVars false
namespace Go.Proofs.YtcffonnijhhhiaaGreatDoor
open Go Go.RowKit Go.Maps Mp
attribute [-simp] Prod.forall Prod.exists
attribute [-go_sem] loadVar storeVar run_equalIn_agg Builtin.append_
attribute [local go_sem] lk_int lk_u8 lk_ints lk_sL lk_sE lk_sS lk_holds
theorem below_drewQ {B:Nat}{a w:World}(h:Below B a w)(n:Nat):Below B a (w.drewN n):=⟨h.os,h.tape,h.output,h.size,h.block⟩
theorem hid_box2 {w:World}(ra rb:Array Value)(t:TypeId):
  Below w.heap.size w ((w.alloc (.cells ra t (0,0))).alloc (.cells rb t (0,0)))∧((w.alloc (.cells ra t (0,0))).alloc (.cells rb t (0,0))).heap[w.heap.size]?=some (.cells ra t (0,0))∧
  ((w.alloc (.cells ra t (0,0))).alloc (.cells rb t (0,0))).heap[w.heap.size+1]?=some (.cells rb t (0,0))∧((w.alloc (.cells ra t (0,0))).alloc (.cells rb t (0,0))).heap.size=w.heap.size+2:=
 ⟨((Below.refl _ w).alloc (Nat.le_refl _) _).alloc (by simp) _,by rw[Below.heap_alloc _ _ _ (by simp)];exact heap_at rfl,heap_at (by simp),by simp⟩
set_option maxRecDepth 100000 in
set_option maxHeartbeats 1000000 in
theorem sameHold_h (p q:Lp)(w:World)(hp:Seg encH 2 w w.heap.size p.A p.x.held)(hq:Seg encH 2 w w.heap.size q.A q.x.held)(h1:p.x.held.length≤2000000):
  Calls Tryz.prog 119 #[.agg (rowL p),.agg (rowL q)] w fun e w'=>e=.returned (.bool (decide (p.x.held=q.x.held)))∧Below w.heap.size w w':=by
 obtain⟨b0,k1,k2,z0⟩:=hid_box2 (w:=w) (rowL p) (rowL q) 54
 obtain⟨l,hl⟩: ∃l,p.x.held=l:=⟨_,rfl⟩
 obtain⟨m,hm⟩: ∃l,q.x.held=l:=⟨_,rfl⟩
 obtain⟨A,hA⟩: ∃A,p.A=A:=⟨_,rfl⟩
 obtain⟨B,hB⟩: ∃A,q.A=A:=⟨_,rfl⟩
 unfold rowL at b0 k1 k2 z0 ⊢
 rw[hl,hA]at hp
 rw[hm,hB]at hq
 rw[hl,hA,hm,hB]at b0 k1 k2 z0
 rw[hl]at h1
 rw[hl,hm,hA,hB]
 obtain⟨x1,_⟩:=blk_cells k1
 obtain⟨x2,_⟩:=blk_cells k2
 have d2:_=some (Value.slice A l.length p.c):=x1 2
 have e2:_=some (Value.slice B m.length q.c):=x2 2
 obtain⟨W0,hW0⟩: ∃W0,(w.alloc (.cells #[.int .i64 p.x.number,.int .i64 p.x.size,.slice A l.length p.c] 54 (0,0))).alloc (.cells #[.int .i64 q.x.number,.int .i64 q.x.size,.slice B m.length q.c] 54 (0,0))=W0:=⟨_,rfl⟩
 rw[hW0]at b0 k1 k2 z0
 have HW0:=Lib.hid hW0
 have B0:=Lib.hid b0
 have K1:=Lib.hid k1
 have K2:=Lib.hid k2
 have HP:=Lib.hid hp
 have HQ:=Lib.hid hq
 clear x1 x2 hW0 hl hm hA hB b0 k1 k2 hp hq
 by_cases hne:l.length=m.length
 ·have HL:=Lib.hid hne
  obtain⟨N,hN⟩: ∃N,m.length=N:=⟨_,rfl⟩
  have hNl:l.length=N:=hne.trans hN
  rw[hNl]at d2
  rw[hN]at e2
  rw[hNl,hN]
  rw[hNl]at h1
  have HNl:=Lib.hid hNl
  have HN:=Lib.hid hN
  clear hne hN hNl
  go_enter Tryz.func119,Tryz.ntmps119
  go_wp2
  go_loopw [5] (fun i wr=> ∃k:Nat,k≤N∧i=.int .i64 k∧Hid (∀j (hj:j<l.length) (hj':j<m.length),j<k→l[j]=m[j])∧Hid (Below W0.heap.size W0 wr)) (fun i _=>N-(intOf i).toNat)
  case atStart=>exact⟨0,by omega,rfl,Lib.hid (fun j _ _ h=>by omega),Lib.hid (by have:=HW0.out;rw[HNl.out,HN.out]at this;rw[this];exact Below.refl _ _)⟩
  case round=>
   obtain⟨k,hk,rfl,hg,HB⟩:=hrel
   have kr1:=(HB.out.block _ (by omega)).trans K1.out
   have kr2:=(HB.out.block _ (by omega)).trans K2.out
   rw[HNl.out]at kr1
   rw[HN.out]at kr2
   have dr2:_=some (Value.slice A N p.c):=(blk_cells kr1).1 2
   have er2:_=some (Value.slice B N q.c):=(blk_cells kr2).1 2
   by_cases hlt:k<N
   ·obtain⟨W,hW⟩: ∃W:World,W=wr.drew:=⟨_,rfl⟩
    have b1:Below w.heap.size w W:=by rw[hW];exact below_drew (B0.out.trans (HB.out.mono B0.out.size))
    have HB1:Hid (Below W0.heap.size W0 W):=Lib.hid (by rw[hW];exact below_drew HB.out)
    have dw2:W.cell? ⟨w.heap.size,2,none⟩=some (Value.slice A N p.c):=by rw[hW];exact dr2
    have ew2:W.cell? ⟨w.heap.size+1,2,none⟩=some (Value.slice B N q.c):=by rw[hW];exact er2
    have HW:=Lib.hid hW
    clear hW kr1 kr2
    have hkl:k<l.length:=by have:=HNl.out;omega
    have hkm:k<m.length:=by have:=HN.out;omega
    have hki:(k:Int)<(N:Int):=by omega
    obtain⟨bi,oi,ei,hbi,q1⟩:=ld_H (HP.out.below b1) hkl
    obtain⟨bj,oj,ej,hbj,q2⟩:=ld_H (HQ.out.below b1) hkm
    subst ei ej
    obtain⟨x,hx⟩: ∃x,l[k]=x:=⟨_,rfl⟩
    obtain⟨y,hy⟩: ∃y,m[k]=y:=⟨_,rfl⟩
    rw[hx]at q1
    rw[hy]at q2
    have qe:=eq_hold x y W
    have HX:=Lib.hid hx
    have HY:=Lib.hid hy
    clear hx hy
    by_cases hxy:x=y
    ·have qd:decide (x=y)=true:=by simpa using hxy
     rw[qd]at qe
     have HXY:=Lib.hid hxy
     clear hxy qd
     go_wp2
     refine still_all HW.out (by kernel_rfl) (by kernel_rfl) ?_
     repeat still_step
     refine wpStill_nil ?_
     go_wp2
     go_roundw
     case rel=>exact⟨k+1,by omega,by go_num,Lib.hid (fun j hj hj' h=>by
      by_cases e:j=k
      ·subst e
       rw[HX.out,HY.out,HXY.out]
      ·exact hg.out j hj hj' (by omega)),HB1⟩
     case measure=>first|(simp[intOf];done)|(simp[intOf];omega)
    ·have qd:decide (x=y)=false:=by simpa using hxy
     rw[qd]at qe
     have HV:=Lib.hid (show decide (l=m)=false by
      rw[decide_eq_false_iff_not]
      intro e
      subst e
      exact hxy (HX.out.symm.trans HY.out))
     clear hxy qd
     go_wp2
     refine still_all HW.out (by kernel_rfl) (by kernel_rfl) ?_
     repeat still_step
     refine wpStill_nil ?_
     go_wp2
     go_ret
     exact⟨ret_bool HV.out.symm,b1⟩
   ·obtain rfl:k=N:=by omega
    have HV:=Lib.hid (show decide (l=m)=true by
     rw[decide_eq_true_iff]
     exact List.ext_getElem HL.out (fun j hj hj'=>hg.out j hj hj' (by have:=HNl.out;omega)))
    have hb:Hid (Below w.heap.size w wr):=Lib.hid (B0.out.trans (HB.out.mono B0.out.size))
    clear kr1 kr2
    go_wp2
    go_ret
    exact⟨ret_bool HV.out.symm,hb.out⟩
 ·have hq:((l.length:Int) !=(m.length:Int))=true:=bne_iff_ne.2 (by omega)
  have HV:=Lib.hid (show decide (l=m)=false by
   rw[decide_eq_false_iff_not]
   intro e
   exact hne (by rw[e]))
  clear hne
  go_enter Tryz.func119,Tryz.ntmps119
  go_wp2
  go_ret
  exact⟨ret_bool HV.out.symm,by rw[HW0.out];exact B0.out⟩
set_option maxRecDepth 100000 in
set_option maxHeartbeats 1000000 in
theorem sameLot_h (p q:Lp)(w:World)(hp:Seg encH 2 w w.heap.size p.A p.x.held)(hq:Seg encH 2 w w.heap.size q.A q.x.held)(h1:p.x.held.length≤2000000):
  Calls Tryz.prog 47 #[.agg (rowL p),.agg (rowL q)] w fun e w'=>e=.returned (.bool (Rt.sameL p.x q.x))∧Below w.heap.size w w':=by
 obtain⟨b0,k1,k2,z0⟩:=hid_box2 (w:=w) (rowL p) (rowL q) 54
 have hc:=sameHold_h p q _ ((hp.below b0).more b0.size) ((hq.below b0).more b0.size) h1
 have l1:=ld_row k1 Tryz.underlying54 rfl info_lot
 have l2:=ld_row k2 Tryz.underlying54 rfl info_lot
 have K1:=Lib.hid k1
 have K2:=Lib.hid k2
 have B0:=Lib.hid b0
 have Z0:=Lib.hid z0
 have hr:Rt.sameL p.x q.x=(decide (p.x.held=q.x.held)&&decide (p.x.number=q.x.number)&&decide (p.x.size=q.x.size)):=by
  unfold Rt.sameL
  obtain⟨⟨p1,p2,p3⟩,_,_⟩:=p
  obtain⟨⟨q1,q2,q3⟩,_,_⟩:=q
  simp only[Rt.Lot.mk.injEq,Bool.decide_and]
  by_cases h1:p1=q1<;>by_cases h2:p2=q2<;>by_cases h3:p3=q3<;>simp[h1,h2,h3]
 rw[hr]
 obtain⟨v,hv⟩: ∃v,decide (p.x.held=q.x.held)=v:=⟨_,rfl⟩
 rw[hv]at hc ⊢
 clear hr hv hp hq h1 k1 k2 b0 z0
 go_enter Tryz.func47,Tryz.ntmps47
 go_wp2_with fail
 refine hc.mono ?_
 clear hc l1 l2
 rintro e w2 ⟨rfl,b2⟩
 have hz:=Z0.out
 have kr1:=(b2.block w.heap.size (by omega)).trans K1.out
 have kr2:=(b2.block (w.heap.size+1) (by omega)).trans K2.out
 have d0:_=some (Value.int .i64 p.x.number):=(blk_cells kr1).1 0
 have d1:_=some (Value.int .i64 p.x.size):=(blk_cells kr1).1 1
 have e0:_=some (Value.int .i64 q.x.number):=(blk_cells kr2).1 0
 have e1:_=some (Value.int .i64 q.x.size):=(blk_cells kr2).1 1
 have HBB:=Lib.hid (B0.out.trans (b2.mono B0.out.size))
 clear kr1 kr2 b2 hz
 cases v with
 |false=>
  go_wp2
  go_ret
  exact⟨rfl,HBB.out⟩
 |true=>
  by_cases g1:p.x.number=q.x.number
  ·have q1:(p.x.number==q.x.number)=true:=by simpa using g1
   have HG:=Lib.hid g1
   clear g1
   obtain⟨v2,q2⟩: ∃v,(p.x.size==q.x.size)=v:=⟨_,rfl⟩
   have HG2:Hid (decide (p.x.size=q.x.size)=v2):=Lib.hid (by rw[←q2];rfl)
   go_wp2
   go_ret
   exact⟨by rw[decide_eq_true HG.out,HG2.out];rfl,HBB.out⟩
  ·have q1:(p.x.number==q.x.number)=false:=by simpa using g1
   have HG:=Lib.hid g1
   clear g1
   go_wp2
   go_ret
   exact⟨by simp[HG.out],HBB.out⟩
end Go.Proofs.YtcffonnijhhhiaaGreatDoor
set_option linter.all false
set_option linter.unusedSimpArgs false
set_option linter.unusedVariables false
set_option linter.unusedSectionVars false
namespace Go.Proofs.YtcffonnijhhhiaaGreatDoor
open Go Go.RowKit Go.Maps Mp
attribute [-simp] Prod.forall Prod.exists
attribute [-go_sem] loadVar storeVar Builtin.append_
attribute [local go_sem] lk_int lk_u8 lk_ints lk_sL lk_sE lk_sS
theorem onR_all {l:List Dl}(h:(Rt.check l).2=0):onR l 100000=(Rt.stOf l).roll:=by
 unfold onR stDay
 rw[if_pos h,Rt.on_all h]
theorem Rt.sameR_me (r:Rt.Roll):Rt.sameR r r=true:=by
 unfold Rt.sameR
 rw[(Rt.eqBy_iff rfl).2 (fun j hj hj'=>by simp[Rt.sameL]),(Rt.eqBy_iff rfl).2 (fun j hj hj'=>by simp[Rt.sameE]),(Rt.eqBy_iff rfl).2 (fun j hj hj'=>by simp[Rt.sameS])]
 rfl
theorem afterG (A:Option Addr)(c:Nat)(L:List Dp)(lot a b parts:Int)(w:World)(hL:Dls w w.heap.size A L)(hm:L.length≤1000000):
  Calls Tryz.prog 46 #[.slice A L.length c,.agg #[.int .i64 0,.int .i64 0,.int .u8 2,.int .i64 lot,.int .i64 0,.int .i64 a,.int .i64 b,.int .i64 parts,.int .i64 0,.slice none 0 0,.slice none 0 0]] w (EndAf w L (Rt.aft (dls L) (Rt.gx lot a b parts))):=
 after_h A c L ⟨Rt.gx lot a b parts,none,none,0,0⟩ w hL hm ⟨.inl rfl,.inl rfl,Nat.zero_le _,Nat.zero_le _⟩ (Nat.le_refl _) (Nat.le_refl _)
set_option maxRecDepth 100000 in
set_option maxHeartbeats 8000000 in
theorem rightGrants_w (A:Option Addr)(c:Nat)(L:List Dp)(lot fr tw parts:Int)(w:World)(hE:Env w)(h:Dlo w w.heap.size A L)(hc:L.length≤c)(hm:c≤maxLen):Calls Tryz.prog 8 #[.slice A L.length c,.int .i64 lot,.int .i64 fr,.int .i64 tw,.int .i64 parts] w fun e w'=>e=.returned (.bool true)∧Below w.heap.size w w':=by
 have hfe:=few_a A c L 20 w h.seg (Nat.le_trans hc hm) (by decide)
 have HE:=Lib.hid hE
 by_cases hf:Rt.few (dls L) 20=true
 case neg=>
  have hf2:Rt.few (dls L) 20=false:=by simpa using hf
  rw[hf2]at hfe
  have hal:=alive_a w hE
  clear hf hf2 h hE hc hm
  go_enter Tryz.func8,Tryz.ntmps8
  go_wp2_with fail
  refine hfe.mono ?_
  clear hfe
  rintro e w' ⟨rfl,rfl⟩
  go_wp2_with fail
  refine hal.mono ?_
  rintro e w1 ⟨rfl,hb⟩
  go_wp2
  go_ret
  exact⟨rfl,hb⟩
 rw[hf]at hfe
 obtain⟨hD,hl20⟩:=h.few hf
 have hro:=rollF_a A c L 100000 w hD (by omega)
 unfold EndRf at hro
 have HAF:Hid (∀V,Below w.heap.size w V→Calls Tryz.prog 46 #[.slice A L.length c,.agg #[.int .i64 0,.int .i64 0,.int .u8 2,.int .i64 lot,.int .i64 0,.int .i64 fr,.int .i64 tw,.int .i64 parts,.int .i64 0,.slice none 0 0,.slice none 0 0]] V (EndAf V L (Rt.aft (dls L) (Rt.gx lot fr tw parts)))):=Lib.hid fun V hV=>afterG A c L lot fr tw parts V (hD.up hV) (by omega)
 have HL20:=Lib.hid hl20
 have HD:=Lib.hid hD
 clear hf h hE hc hm hl20 hD
 obtain⟨X,hX⟩: ∃X,Rt.aft (dls L) (Rt.gx lot fr tw parts)=X:=⟨_,rfl⟩
 rw[hX]at HAF
 have HX:=Lib.hid hX
 clear hX
 obtain⟨E,hEE⟩: ∃E,(Rt.check (dls L)).2=E:=⟨_,rfl⟩
 by_cases hok:appE (dls L) X=0
 case neg=>
  obtain⟨r,hr⟩: ∃r,onR (dls L) 100000=r:=⟨_,rfl⟩
  rw[hr,hEE]at hro
  obtain⟨q,hq⟩: ∃q,(E !=0)=q:=⟨_,rfl⟩
  have HOK:=Lib.hid hok
  clear hok hr hEE
  go_enter Tryz.func8,Tryz.ntmps8
  go_wp2_with fail
  refine hfe.mono ?_
  clear hfe
  rintro e w' ⟨rfl,rfl⟩
  go_wp2_with fail
  refine hro.mono ?_
  clear hro
  rintro e w1 ⟨A1,c1,A2,c2,A3,c3,M,rfl,_,_,_,_,_,_,_,_,_,b1,_⟩
  obtain⟨w2,st2,k2,b2,x2⟩:=new_row w1 50 zcR #[.slice A1 r.lots.length c1,.slice A2 r.eases.length c2,.slice A3 r.stints.length c3] info_roll rfl (by simp[Value.oneCell'])
  have HB2:=Lib.hid (b1.trans (b2.mono b1.size))
  have haf:=HAF.out w2 HB2.out
  unfold EndAf at haf
  have hok:=HOK.out
  simp only[hok,if_false]at haf
  clear b1 b2 k2 x2 hok
  go_wp2_with fail
  refine haf.mono ?_
  clear haf st2
  rintro e w3 ⟨b3,rfl⟩
  have HB3:=Lib.hid (HB2.out.trans (b3.mono HB2.out.size))
  have hal:=alive_a w3 (HE.out.up HB3.out)
  clear b3
  cases q
  all_goals
   go_wp2_with fail
   refine hal.mono ?_
   clear hal
   rintro e w4 ⟨rfl,b4⟩
   go_wp2
   go_ret
   exact⟨rfl,HB3.out.trans (b4.mono HB3.out.size)⟩
 have hck:(Rt.check (dls L)).2=0:=by
  unfold appE at hok
  by_cases e:(Rt.check (dls L)).2=0
  ·exact e
  ·rw[if_neg e]at hok
   exact hok
 have hrx:Rt.refused (Rt.stOf (dls L)) (dls L) X=0:=by
  unfold appE at hok
  rwa[if_pos hck]at hok
 have hE0:E=0:=hEE▸hck
 subst hE0
 obtain⟨Y,hY⟩: ∃Y,Rt.aft (dls L++[X]) (Rt.gx lot tw fr parts)=Y:=⟨_,rfl⟩
 have HPL:=Lib.hid (Rt.grants_plain hck (by simpa using (by have:=HL20.out;omega:L.length≤20)) HX.out hrx hY)
 have hckM:=(Rt.chk_app2 (dls L) X).2 ⟨hck,hrx⟩
 have hrL:=onR_all hck
 have hrM:=onR_all hckM
 obtain⟨r0,hr0⟩: ∃r,(Rt.stOf (dls L)).roll=r:=⟨_,rfl⟩
 obtain⟨r1,hr1⟩: ∃r,(Rt.stOf (dls L++[X])).roll=r:=⟨_,rfl⟩
 rw[hr0]at hrL
 rw[hr1]at hrM
 rw[hrL,hEE]at hro
 have HPL2:=Lib.hid (show _ from HPL.out)
 have HRL:=Lib.hid hrL
 have HRM:=Lib.hid hrM
 have HCKM:=Lib.hid hckM
 have HOK:=Lib.hid hok
 have HY:=Lib.hid hY
 have HR0:=Lib.hid hr0
 have HR1:=Lib.hid hr1
 clear HPL2 hck hrx hEE hY hckM hrL hrM hok hr0 hr1
 go_enter Tryz.func8,Tryz.ntmps8
 go_wp2_with fail
 refine hfe.mono ?_
 clear hfe
 rintro e w' ⟨rfl,rfl⟩
 go_wp2_with fail
 refine hro.mono ?_
 clear hro
 rintro e w1 ⟨A1,c1,A2,c2,A3,c3,P0,rfl,hRo,_,_,_,_,_,_,_,_,b1,hfew⟩
 obtain⟨w2,st2,k2,b2,x2⟩:=new_row w1 50 zcR #[.slice A1 r0.lots.length c1,.slice A2 r0.eases.length c2,.slice A3 r0.stints.length c3] info_roll rfl (by simp[Value.oneCell'])
 have HB2:=Lib.hid (b1.trans (b2.mono b1.size))
 have HRo2:=Lib.hid (hRo.up b2)
 have HFW:=Lib.hid hfew
 have K2:=Lib.hid k2
 have X2:=Lib.hid x2
 have haf:=HAF.out w2 HB2.out
 unfold EndAf at haf
 have hok:=HOK.out
 simp only[hok,if_true]at haf
 clear b1 b2 k2 x2 hRo hfew hok
 go_wp2_with fail
 refine haf.mono ?_
 clear haf st2
 rintro e w3 ⟨b3,A4,c4,M,rfl,hDM,hM,hlM,hcM⟩
 have HB23:=Lib.hid b3
 have HB3:=Lib.hid (HB2.out.trans (b3.mono HB2.out.size))
 have hro2:=rollF_a A4 c4 M 100000 w3 hDM (by have:=HL20.out;omega)
 unfold EndRf at hro2
 rw[hM,HRM.out,HCKM.out,hlM]at hro2
 have HAF2:Hid (∀V,Below w3.heap.size w3 V→Calls Tryz.prog 46 #[.slice A4 (L.length+1) c4,.agg #[.int .i64 0,.int .i64 0,.int .u8 2,.int .i64 lot,.int .i64 0,.int .i64 tw,.int .i64 fr,.int .i64 parts,.int .i64 0,.slice none 0 0,.slice none 0 0]] V (EndAf V M Y)):=Lib.hid fun V hV=>by
  have:=afterG A4 c4 M lot tw fr parts V (hDM.up hV) (by have:=HL20.out;omega)
  rwa[hM,HY.out,hlM]at this
 have HDM:=Lib.hid hDM
 have HM:=Lib.hid hM
 have HLM:=Lib.hid hlM
 have HCM:=Lib.hid hcM
 clear b3 hDM hM hlM hcM
 go_wp2_with fail
 refine hro2.mono ?_
 clear hro2
 rintro e w4 ⟨B1,d1,B2,d2,B3,d3,P1,rfl,hRo,_,_,_,_,_,_,_,_,b4,hfew⟩
 obtain⟨w5,st5,k5,b5,x5⟩:=new_row w4 50 zcR #[.slice B1 r1.lots.length d1,.slice B2 r1.eases.length d2,.slice B3 r1.stints.length d3] info_roll rfl (by simp[Value.oneCell'])
 have HB35:=Lib.hid (b4.trans (b5.mono b4.size))
 have HRo5:=Lib.hid (hRo.up b5)
 have HFW1:=Lib.hid hfew
 have K5:=Lib.hid k5
 have X5:=Lib.hid x5
 have haf:=HAF2.out w5 HB35.out
 unfold EndAf at haf
 clear b4 b5 k5 x5 hRo hfew
 by_cases hok:appE (dls M) Y=0
 case neg=>
  have hid:X.id=1000000:=by
   rcases HPL.out.1 with g|g
   ·exfalso
    apply hok
    unfold appE
    rw[HM.out,if_pos HCKM.out]
    exact g
   ·exact g
  simp only[hok,if_false]at haf
  have HID:=Lib.hid hid
  clear hok hid
  go_wp2_with fail
  refine haf.mono ?_
  clear haf st5
  rintro e w6 ⟨b6,rfl⟩
  have HB6:=Lib.hid (HB35.out.trans (b6.mono HB35.out.size))
  have HB6':=Lib.hid (HB3.out.trans (HB6.out.mono HB3.out.size))
  have hal:=alive_a w6 (HE.out.up HB6'.out)
  clear b6
  go_wp2_with fail
  refine hal.mono ?_
  clear hal
  rintro e w7 ⟨rfl,b7⟩
  have HB7:=Lib.hid (HB6'.out.trans (b7.mono HB6'.out.size))
  have hlt:L.length<M.length:=by rw[HLM.out];exact Nat.lt_succ_self _
  obtain⟨bm,om,em,_,qm,qc⟩:=(HDM.out.below (HB6.out.trans (b7.mono HB6.out.size))).at_ hlt
  have hxm:M[L.length].x=X:=by
   have h1:(dls M)[L.length]?=some X:=by rw[HM.out,List.getElem?_append_right (by simp)];simp
   rw[List.getElem?_map,List.getElem?_eq_getElem hlt]at h1
   simpa using h1
  have hsg:=(HDM.out.below (HB6.out.trans (b7.mono HB6.out.size))).seg.at_ hlt
  obtain⟨bm2,om2,em2,_,qm2⟩:=hsg
  subst em
  cases em2
  have q0:w7.cell? ⟨bm,om+L.length*11+0,none⟩=some (.int .i64 M[L.length].x.id):=qm2 0 _ rfl
  rw[hxm,HID.out,Nat.add_zero]at q0
  have hl2:(L.length:Int)≤20:=HL20.out
  clear qm qc qm2 hxm b7 hlt
  go_wp2
  go_ret
  exact⟨rfl,HB7.out⟩
 have hrY:Rt.refused (Rt.stOf (dls L++[X])) (dls L++[X]) Y=0:=by
  unfold appE at hok
  rw[HM.out,if_pos HCKM.out]at hok
  exact hok
 simp only[hok,if_true]at haf
 have hckN:=(Rt.chk_app2 _ _).2 ⟨HCKM.out,hrY⟩
 have hrN:=onR_all hckN
 rw[HPL.out.2.1 hrY,HR0.out]at hrN
 have HRN:=Lib.hid hrN
 have HCKN:=Lib.hid hckN
 clear hok hrY hckN hrN
 go_wp2_with fail
 refine haf.mono ?_
 clear haf st5
 rintro e w6 ⟨b6,A5,c5,N,rfl,hDN,hN,hlN,hcN⟩
 have HB6:=Lib.hid (HB35.out.trans (b6.mono HB35.out.size))
 have HB56:=Lib.hid b6
 have hro3:=rollF_a A5 c5 N 100000 w6 hDN (by have:=HL20.out;have:=HLM.out;omega)
 unfold EndRf at hro3
 rw[hN,HM.out,HRN.out,HCKN.out,hlN,HLM.out]at hro3
 rw[HLM.out]
 clear b6 hDN hN hlN hcN
 go_wp2_with fail
 refine hro3.mono ?_
 clear hro3
 rintro e w7 ⟨D1,e1,D2,e2,D3,e3,P2,rfl,hRo,_,_,_,_,_,_,_,_,b7,hfew⟩
 obtain⟨w8,st8,k8,b8,x8⟩:=new_row w7 50 zcR #[.slice D1 r0.lots.length e1,.slice D2 r0.eases.length e2,.slice D3 r0.stints.length e3] info_roll rfl (by simp[Value.oneCell'])
 have HB58:=Lib.hid (HB56.out.trans ((b7.trans (b8.mono b7.size)).mono HB56.out.size))
 have HB38:=Lib.hid (HB35.out.trans (HB58.out.mono HB35.out.size))
 have HB28:=Lib.hid (HB23.out.trans (HB38.out.mono HB23.out.size))
 have HB8:=Lib.hid (HB2.out.trans (HB28.out.mono HB2.out.size))
 have HRo8:=Lib.hid (hRo.up b8)
 have k28:=(HB28.out.block _ X2.out).trans K2.out
 have k58:=(HB58.out.block _ X5.out).trans K5.out
 have hsame:=sameR_a A1 A2 A3 D1 D2 D3 c1 c2 c3 e1 e2 e3 P0 P2 r0 r0 w8 (HRo2.out.up HB28.out) HRo8.out HFW.out HFW.out
 rw[Rt.sameR_me]at hsame
 have l2:=ld_row k28 Tryz.underlying50 rfl info_roll
 have l8:=ld_row k8 Tryz.underlying50 rfl info_roll
 have K28:=Lib.hid k28
 have K58:=Lib.hid k58
 have X8:Hid (w2.heap.size≤w8.heap.size∧w5.heap.size≤w8.heap.size):=Lib.hid ⟨HB28.out.size,HB58.out.size⟩
 clear b7 b8 k8 x8 hRo hfew k28 k58
 go_upto_region 13 with fail
 go_wp2_with fail
 refine hsame.mono ?_
 clear hsame l2 l8 st8
 rintro e w9 ⟨rfl,b9⟩
 have HB9:=Lib.hid b9
 have k29:=(b9.block w1.heap.size (Array.getElem?_eq_some_iff.1 K28.out).1).trans K28.out
 have k59:=(b9.block w4.heap.size (Array.getElem?_eq_some_iff.1 K58.out).1).trans K58.out
 obtain⟨yy,hle,hls,hll,hyl⟩:=HPL.out.2.2.1
 rw[HR1.out,HR0.out]at hle hls hll
 have hlen:r1.lots.length=r0.lots.length:=by rw[hll,List.length_map]
 have HLEN:=Lib.hid hlen
 have u0:_=some (Value.slice A1 r0.lots.length c1):=(blk_cells k29).1 0
 have u1:_=some (Value.slice A2 r0.eases.length c2):=(blk_cells k29).1 1
 have u2:_=some (Value.slice A3 r0.stints.length c3):=(blk_cells k29).1 2
 have v0:_=some (Value.slice B1 r1.lots.length d1):=(blk_cells k59).1 0
 have v1:_=some (Value.slice B2 r1.eases.length d2):=(blk_cells k59).1 1
 have v2:_=some (Value.slice B3 r1.stints.length d3):=(blk_cells k59).1 2
 rw[hlen]at v0
 rw[hle]at v1
 rw[hls]at v2
 have K29:=Lib.hid k29
 have HLL:=Lib.hid hll
 have HYL:=Lib.hid hyl
 clear b9 k29 k59 hlen hll hyl hle hls
 go_wp2
 clear u1 u2 v1 v2 u0 v0
 go_loopw [133] (fun i wr=> ∃j:Nat,j≤r0.lots.length∧i=.int .i64 j∧Hid (Below w9.heap.size w9 wr)) (fun i _=>r0.lots.length-(intOf i).toNat)
 case atStart=>exact⟨0,by omega,rfl,Lib.hid (Below.refl _ _)⟩
 case round=>
  obtain⟨j,hj,rfl,HBr⟩:=hrel
  have hfl:=HFW.out.lots
  by_cases hlt:j<r0.lots.length
  ·have hji:(j:Int)<(r0.lots.length:Int):=by omega
   have HB9r:=Lib.hid (HB9.out.trans (HBr.out.mono HB9.out.size))
   have hp1:j<P1.length:=by have h1:=congrArg List.length HRo5.out.is;simp at h1;rw[h1,HLEN.out];exact hlt
   have hp0:j<P0.length:=by have h1:=congrArg List.length HRo2.out.is;simp at h1;rw[h1];exact hlt
   have hR1:=(HRo5.out.up HB58.out).up HB9r.out
   have hR0:=(HRo2.out.up HB28.out).up HB9r.out
   obtain⟨b1,o1,eb1,_,q1⟩:=ld_L hR1.lots.seg hp1
   have x1:P1[j].x=r1.lots[j]'(by rw[HLEN.out];exact hlt):=by
    have h1:(lts P1)[j]?=r1.lots[j]?:=by rw[HRo5.out.is]
    rw[List.getElem?_map,List.getElem?_eq_getElem hp1,List.getElem?_eq_getElem (by rw[HLEN.out];exact hlt)]at h1
    simpa using h1
   have x0:P0[j].x=r0.lots[j]:=by
    have h1:(lts P0)[j]?=r0.lots[j]?:=by rw[HRo2.out.is]
    rw[List.getElem?_map,List.getElem?_eq_getElem hp0,List.getElem?_eq_getElem hlt]at h1
    simpa using h1
   have hxx:P1[j].x.number≠lot→P1[j].x=P0[j].x:=fun hn=>by
    rw[x1,x0]
    have h2:r1.lots[j]'(by rw[HLEN.out];exact hlt)=if r0.lots[j].number=lot then yy else r0.lots[j]:=by simp only[HLL.out,List.getElem_map]
    rw[x1,h2]at hn
    rw[h2]
    by_cases e:r0.lots[j].number=lot
    ·rw[if_pos e]at hn
     exact absurd HYL.out hn
    ·rw[if_neg e]
   obtain⟨w10,st10,k10,b10,y10⟩:=new_row wr 54 zcL (rowL P1[j]) info_lot rfl (by simp[Value.oneCell'])
   have HXX:=Lib.hid hxx
   have HB10:=Lib.hid (HBr.out.trans (b10.mono HBr.out.size))
   have HB9t:=Lib.hid (HB9.out.trans (HB10.out.mono HB9.out.size))
   have K10:=Lib.hid k10
   obtain⟨p1,hp1e⟩: ∃p,P1[j]=p:=⟨_,rfl⟩
   have hpe:=hp1e
   have HP1:=Lib.hid hp1e
   rw[hp1e]at q1 st10
   subst eb1
   clear x0 x1 hxx k10 b10 y10 hp1e hpe hR1 hR0
   obtain⟨W,hW⟩: ∃W:World,W=w10.drew:=⟨_,rfl⟩
   have HBW:Hid (Below w9.heap.size w9 W):=Lib.hid (by rw[hW];exact below_drew HB10.out)
   have kw:W.heap[wr.heap.size]?=some (.cells (rowL p1) 54 (0,0)):=by rw[hW,←HP1.out];exact K10.out
   have kr:W.heap[w1.heap.size]?=_:=(HBW.out.block _ (Array.getElem?_eq_some_iff.1 K29.out).1).trans K29.out
   have ur:_=some (Value.slice A1 r0.lots.length c1):=(blk_cells kr).1 0
   have ln:W.cell? ⟨wr.heap.size,0,none⟩=some (.int .i64 p1.x.number):=(blk_cells kw).1 0
   have ln4:w10.cell? ⟨wr.heap.size,0,none⟩=some (.int .i64 p1.x.number):=by rw[hW]at ln;exact ln
   by_cases hn:p1.x.number=lot
   ·have hn1:(p1.x.number !=lot)=false:=by simpa using hn
    clear hn kr ur kw ln hW
    go_upto_region 18 with fail
    clear st10 q1
    go_wp2
    refine wp_region_quiet_lit (by kernel_rfl) (by kernel_rfl) ?_
    repeat (first|go_big_quiet_step (fail)|quiet_step (fail))
    refine wpQuiet_nil ?_
    rintro wq ⟨nq,rfl⟩
    have HBq:Hid (Below w9.heap.size w9 (w10.drewN nq)):=Lib.hid (below_drewQ HB10.out nq)
    go_wp2
    go_roundw
    case rel=>exact⟨j+1,by omega,by go_num,HBq⟩
    case measure=>first|(simp[intOf];done)|(simp[intOf];omega)
   ·have hn1:(p1.x.number !=lot)=true:=by simpa using hn
    have hR0:=(HRo2.out.up HB28.out).up (HB9.out.trans (HBW.out.mono HB9.out.size))
    have hR1:=(HRo5.out.up HB58.out).up (HB9.out.trans (HBW.out.mono HB9.out.size))
    obtain⟨b0,o0,eb0,_,q0⟩:=ld_L hR0.lots.seg hp0
    have lw:=ld_row kw Tryz.underlying54 rfl info_lot
    have hg1:=hR1.lots.each _ (List.getElem_mem hp1)
    have hg0:=hR0.lots.each _ (List.getElem_mem hp0)
    have hcall:=sameLot_h P1[j] P0[j] W hg1.1 hg0.1 (by
     have:=HFW1.out.held P1[j].x (by rw[←HRo5.out.is];exact List.mem_map.2 ⟨_,List.getElem_mem hp1,rfl⟩)
     omega)
    have hsl:Rt.sameL P1[j].x P0[j].x=true:=by rw[HXX.out (by rw[HP1.out];exact hn)];simp[Rt.sameL]
    rw[hsl,HP1.out]at hcall
    obtain⟨p0,hp0e⟩: ∃p,P0[j]=p:=⟨_,rfl⟩
    rw[hp0e]at hcall q0
    subst eb0
    have HW:=Lib.hid hW
    clear hsl hg1 hg0 hR0 hR1 hp0e hW hn kr kw
    go_upto_region 18 with fail
    clear st10 q1 ln4
    go_wp2
    refine still_tail HW.out 11 (by kernel_rfl) (by kernel_rfl) ?_
    simp only[List.take_succ_cons,List.take_zero,List.drop_succ_cons,List.drop_zero]
    repeat still_step
    refine wpStill_nil ?_
    go_wp2_with fail
    refine hcall.mono ?_
    clear hcall q0 lw ur ln
    rintro e w12 ⟨rfl,b12⟩
    have HB12:Hid (Below w9.heap.size w9 w12):=Lib.hid (HBW.out.trans (b12.mono HBW.out.size))
    clear b12
    go_wp2
    go_roundw
    case rel=>exact⟨j+1,by omega,by go_num,HB12⟩
    case measure=>first|(simp[intOf];done)|(simp[intOf];omega)
  ·obtain rfl:j=r0.lots.length:=by omega
   have HB9r:=Lib.hid (HB8.out.trans ((HB9.out.trans (HBr.out.mono HB9.out.size)).mono HB8.out.size))
   have HB3r:=Lib.hid (HB38.out.trans ((HB9.out.trans (HBr.out.mono HB9.out.size)).mono HB38.out.size))
   have hal:=alive_a wr (HE.out.up HB9r.out)
   obtain⟨hpf,hpt,⟨g1,g2⟩,⟨g3,g4⟩,⟨g5,g6⟩,gl,gf,gt⟩:=HPL.out.2.2.2
   have HPM:Hid (∀V o,Below wr.heap.size wr V→1≤o∧o≤1000000→Calls Tryz.prog 48 #[.slice A4 (L.length+1) c4,.int .i64 100000,.int .i64 lot,.int .i64 o] V fun e w'=>e=.returned (.int .i64 (Rt.heldBy (Rt.heldOf r1.lots lot) o))∧Below V.heap.size V w'):=Lib.hid fun V o hV ho=>by
    have:=parts_a A4 c4 M 100000 lot o V (HDM.out.up (HB3r.out.trans (hV.mono HB3r.out.size))) (by have:=HL20.out;have:=HLM.out;omega) (by unfold i64;omega) (by unfold i64;omega)
    rw[HM.out,HRM.out,HLM.out]at this
    exact this
   have HPL0:Hid (∀V o,Below wr.heap.size wr V→1≤o∧o≤1000000→Calls Tryz.prog 48 #[.slice A L.length c,.int .i64 100000,.int .i64 lot,.int .i64 o] V fun e w'=>e=.returned (.int .i64 (Rt.heldBy (Rt.heldOf r0.lots lot) o))∧Below V.heap.size V w'):=Lib.hid fun V o hV ho=>by
    have:=parts_a A c L 100000 lot o V (HD.out.up (HB9r.out.trans (hV.mono HB9r.out.size))) (by have:=HL20.out;omega) (by unfold i64;omega) (by unfold i64;omega)
    rw[HRL.out]at this
    exact this
   rw[HR1.out,HR0.out]at hpf hpt
   rw[HR0.out]at g1 g2 g3 g4
   have HPF:=Lib.hid hpf
   have HPT:=Lib.hid hpt
   have GF:=Lib.hid gf
   have GT:=Lib.hid gt
   clear hpf hpt gl gf gt
   go_wp2_with fail
   refine hal.mono ?_
   clear hal
   rintro e v1 ⟨rfl,bb1⟩
   have BB1:=Lib.hid bb1
   have hc1:=HPM.out v1 fr BB1.out GF.out
   rw[HPF.out]at hc1
   obtain⟨n1,hn1⟩: ∃n,Rt.heldBy (Rt.heldOf r0.lots lot) fr=n:=⟨_,rfl⟩
   obtain⟨n2,hn2⟩: ∃n,Rt.heldBy (Rt.heldOf r0.lots lot) tw=n:=⟨_,rfl⟩
   rw[hn1]at hc1 g1 g2
   rw[hn2]at g3 g4
   have HN1:=Lib.hid hn1
   have HN2:=Lib.hid hn2
   clear bb1 hn1 hn2
   go_wp2_with fail
   refine hc1.mono ?_
   clear hc1
   rintro e v2 ⟨rfl,bb2⟩
   have BB2:=Lib.hid (BB1.out.trans (bb2.mono BB1.out.size))
   have hc2:=HPL0.out v2 fr BB2.out GF.out
   rw[HN1.out]at hc2
   clear bb2
   go_wp2_with fail
   refine hc2.mono ?_
   clear hc2
   rintro e v3 ⟨rfl,bb3⟩
   have BB3:=Lib.hid (BB2.out.trans (bb3.mono BB2.out.size))
   have hc3:=HPM.out v3 tw BB3.out GT.out
   rw[HPT.out,HN2.out]at hc3
   clear bb3
   go_wp2_with fail
   refine hc3.mono ?_
   clear hc3
   rintro e v4 ⟨rfl,bb4⟩
   have BB4:=Lib.hid (BB3.out.trans (bb4.mono BB3.out.size))
   have hc4:=HPL0.out v4 tw BB4.out GT.out
   rw[HN2.out]at hc4
   clear bb4
   go_wp2_with fail
   refine hc4.mono ?_
   clear hc4
   rintro e v5 ⟨rfl,bb5⟩
   have BB5:=Lib.hid (BB4.out.trans (bb5.mono BB4.out.size))
   clear bb5
   go_wp2
   go_ret
   exact⟨rfl,HB9r.out.trans (BB5.out.mono HB9r.out.size)⟩
end Go.Proofs.YtcffonnijhhhiaaGreatDoor
