/- Proved: parts of the walk. -/
import Derived.Test.YtgbpekeoegfjpaaGreatDoorVZ23
import Derived.Test.YtgbpekeoegfjpaaGreatDoorVUC
set_option maxRecDepth 100000
set_option maxHeartbeats 16000000
namespace Go.Proofs
open Tryz RowKit
variable (A1 A2 A3 A4 : Option Addr) (c1 c2 c3 c4 : Nat) (f : Pl.aL)
attribute [-go_sem] loadVar run_equalIn_agg
attribute [local go_sem] bZ bH dU aT dD nE
theorem G5 (w:World):Calls prog 92 #[.int .u8 1] w fun e w'=>e=.returned (.string ⟨#[115,116,111,110,101]⟩)∧w=w':=by
 go_enter func92,ntmps92
 go_wp2
 go_ret
 exact⟨rfl,rfl⟩
theorem G6 (w:World):Calls prog 92 #[.int .u8 2] w fun e w'=>e=.returned (.string ⟨#[119,105,100,116,104]⟩)∧w=w':=by
 go_enter func92,ntmps92
 go_wp2
 go_ret
 exact⟨rfl,rfl⟩
theorem G7 (w:World):Calls prog 92 #[.int .u8 3] w fun e w'=>e=.returned (.string ⟨#[99,111,117,114,115,101]⟩)∧w=w':=by
 go_enter func92,ntmps92
 go_wp2
 go_ret
 exact⟨rfl,rfl⟩
theorem G8 (w:World):Calls prog 92 #[.int .u8 4] w fun e w'=>e=.returned (.string ⟨#[97,108,111,110,103]⟩)∧w=w':=by
 go_enter func92,ntmps92
 go_wp2
 go_ret
 exact⟨rfl,rfl⟩
theorem G9 (w:World):Calls prog 92 #[.int .u8 5] w fun e w'=>e=.returned (.string ⟨#[108,101,118,101,108]⟩)∧w=w':=by
 go_enter func92,ntmps92
 go_wp2
 go_ret
 exact⟨rfl,rfl⟩
end Go.Proofs
namespace Go.Proofs
open Tryz RowKit
attribute [-go_sem] run_equalIn_agg loadVar storeVar
attribute [local go_sem] bZ bH dU aT dD nK jO jP
theorem Au (g i:Nat)(n:Int)(w:World):(storeVar 5 ⟨g,i,none⟩ (.int .u8 n)).run prog w=(store ⟨g,i,none⟩ (.int .u8 n)).run prog w:=by
 obtain⟨inf,hi,hs⟩: ∃inf,prog.info? 5=some inf∧inf.size=1:=by
  have h:(prog.info? 5).map (·.size)=some 1:=by kernel_rfl
  cases hq:prog.info? 5 with
  |none=>rw[hq]at h;cases h
  |some inf=>rw[hq]at h;exact⟨inf,rfl,by simpa using h⟩
 have hz:(sizeOf 5).run prog w=.ok 1 w:=by
  have:=run_sizeOf (P:=prog) w hi
  rw[this,show prog.cellsOf 5=inf.size by simp[Program.cellsOf,hi],hs]
 simp[storeVar,Sem.run_bind,hz,Value.cells,storeCells,Addr.add]
theorem qx (g i:Nat)(A:Option Addr)(n c:Nat)(w:World):(storeVar 24 ⟨g,i,none⟩ (.slice A n c)).run prog w=(store ⟨g,i,none⟩ (.slice A n c)).run prog w:=by
 obtain⟨inf,hi,hs⟩: ∃inf,prog.info? 24=some inf∧inf.size=1:=by
  have h:(prog.info? 24).map (·.size)=some 1:=by kernel_rfl
  cases hq:prog.info? 24 with
  |none=>rw[hq]at h;cases h
  |some inf=>rw[hq]at h;exact⟨inf,rfl,by simpa using h⟩
 have hz:(sizeOf 24).run prog w=.ok 1 w:=by
  have:=run_sizeOf (P:=prog) w hi
  rw[this,show prog.cellsOf 24=inf.size by simp[Program.cellsOf,hi],hs]
 simp[storeVar,Sem.run_bind,hz,Value.cells,storeCells,Addr.add]
attribute [local go_sem] Au qx
theorem aA :(prog.info? 141).map (·.size)=some 15:=by kernel_rfl
structure pQ (w:World)(xa:Array Value)(W:World):Prop where
 kr:W.heap[w.heap.size]?=some (.cells (zf 0) 141 (0,0))
 kx:W.heap[w.heap.size+1]?=some (.cells xa 141 (0,0))
 all:Below w.heap.size w W
theorem pQ.set {w:World}{xa:Array Value}{W:World}(h:pQ w xa W)(i:Nat)(v:Value):pQ w (xa.setIfInBounds i v) (W.setCell ⟨w.heap.size+1,i,none⟩ v):=
 ⟨(Below.heap_setCell _ _ _ _ (show w.heap.size≠w.heap.size+1 by omega)).trans h.kr,heap_setCell_same _ _ _ _ _ _ h.kx,h.all.setCell (p:=⟨w.heap.size+1,i,none⟩) (show w.heap.size<=w.heap.size+1 by omega) _⟩
theorem pQ.IU {w:World}{xa:Array Value}{W W':World}(h:pQ w xa W)(hx:Below W.heap.size W W'):pQ w xa W':=
 ⟨(hx.block _ (lO h.kr)).trans h.kr,(hx.block _ (lO h.kx)).trans h.kx,h.all.trans (hx.mono h.all.size)⟩
theorem pQ.drew {w:World}{xa:Array Value}{W:World}(h:pQ w xa W):pQ w xa W.drew:=⟨h.kr,h.kx,h.all.drew⟩
def XI (k:Int)(nl ns b off c0:Nat)(z er:Int)(cr:Pl.bF):Array Value:= #[.int .u8 k,.int .i64 0,.int .i64 0,.int .i64 0,.int .i64 0,.int .i64 z,.int .i64 er,.int .i64 cr.b,.int .i64 cr.n,.int .i64 cr.l,.int .i64 cr.y,.int .i64 cr.x,.int .i64 cr.s,.slice (some ⟨b,off+1,none⟩) nl (c0-1),.slice (some ⟨b,off+(1+nl),none⟩) ns (c0-(1+nl))]
def vg (o:Option Pl.kZ)(b off c0:Nat)(w:World)(e:Ending)(w':World):Prop:=
 ∃X:Array Value,e=.returned (.tuple #[.agg X,.bool o.isSome])∧X.size=15∧X.all (·.oneCell')=true∧(∀x,o=some x->X=XI x.kind (if x.kind=2∨x.kind=4 then 2 else 1) (if x.kind≠1∧x.kind≠2 then 2 else 1) b off c0 x.size x.er x.aB)∧Below w.heap.size w w'
theorem G_ (w:World): ∃W0 W1,((w.alloc (.cells (zf 0) 141)).alloc (.cells (zf 0) 141))=W0∧(storeVar 141 ⟨w.heap.size+1,0,none⟩ (.agg (zf 0))).run prog W0=.ok () W1∧pQ w (zf 0) W1:=by
 have k1:=heap_alloc2_old w (.cells (zf 0) 141) (.cells (zf 0) 141)
 have k2:=heap_alloc2_new w (.cells (zf 0) 141) (.cells (zf 0) 141)
 have hb:Below w.heap.size w ((w.alloc (.cells (zf 0) 141)).alloc (.cells (zf 0) 141)):=((Below.refl _ w).alloc (Nat.le_refl _) _).alloc (by simp) _
 obtain⟨W1,st,k3,hg⟩:=aG _ (w.heap.size+1) 141 141 (zf 0) (zf 0) k2 aA rfl (by simp[Value.oneCell'])
 exact⟨_,W1,rfl,st,(hg.block _ (lO k1) (by simp)).trans k1,k3,hb.grown hg hb.size (fun j e=>by cases e;omega)⟩
def vw :Nat->ByteArray
 |1=>⟨#[115,116,111,110,101]⟩
 |2=>⟨#[119,105,100,116,104]⟩
 |3=>⟨#[99,111,117,114,115,101]⟩
 |4=>⟨#[97,108,111,110,103]⟩
 |5=>⟨#[108,101,118,101,108]⟩
 |_=>⟨#[]⟩
theorem ni (k:Nat)(w:World)(h1:1<=k)(h5:k<=5):Calls prog 92 #[.int .u8 k] w fun e w'=>e=.returned (.string (vw k))∧w=w':=by
 rcases(show k=1∨k=2∨k=3∨k=4∨k=5 by omega)with rfl|rfl|rfl|rfl|rfl
 ·exact G5 _
 ·exact G6 _
 ·exact G7 _
 ·exact G8 _
 ·exact G9 _
theorem EW (b off c0:Nat)(l:List ByteArray)(A:Option Addr)(w:World)(h4:l.length<4):
  Calls prog 103 #[.slice A l.length c0] w (vg (Pl.aX l) b off c0 w):=by
 have HV:Hid (Pl.aX l=Option.none):=Lib.hid (by unfold Pl.aX;rw[if_pos h4])
 have g4:(l.length:Int)<4:=by omega
 obtain⟨W0,W1,hW0,st1,H⟩:=G_ w
 go_enter func103,ntmps103
 have lx:=ak H.kx underlying141 rfl aA
 obtain⟨W9,lN,fA,fB⟩:=aG W1 w.heap.size 141 141 (zf 0) (zf 0) H.kr aA rfl (by simp[Value.oneCell'])
 have l9:=ak fA underlying141 rfl aA
 have fC:Below w.heap.size w W9:=H.all.grown fB H.all.size (fun j e=>by cases e;exact Nat.le_refl _)
 go_wp2
 refine bodyPost_ret (v:=.tuple #[.agg (zf 0),.bool false]) (by simp[results,results103,go_sem,l9]) rfl ?_
 rw[HV.out]
 exact⟨(zf 0),rfl,rfl,by simp[Value.oneCell'],(fun x hx=>by cases hx),fC⟩
theorem He (b off c0:Nat)(l:List ByteArray)(w:World)(_hl:d9 w w.heap.size (some ⟨b,off,none⟩) l)(h4:4<=l.length)(n0:ByteArray)(u0: ∀W,Below w.heap.size w W->W.cell? ⟨b,off,none⟩=some (.string n0))(hv:Hid (∀k,1<=k->k<=5->((vw k).toList==n0.toList)=false))(HV:Hid (Pl.aX l=Option.none)):
  Calls prog 103 #[.slice (some ⟨b,off,none⟩) l.length c0] w (vg (Pl.aX l) b off c0 w):=by
 have g4: ¬(l.length:Int)<4:=by omega
 have g5:(0:Int)<(l.length:Int):=by omega
 have g7:0<l.length:=by omega
 obtain⟨W0,W1,hW0,st1,H⟩:=G_ w
 go_enter func103,ntmps103
 go_wp2
 go_loopw [7] (fun i wr=> ∃(k:Nat),1<=k∧k<=6∧i=.int .u8 k∧pQ w (if 0<k then (zf 0)else (zf 0)) wr) (fun i _=>6-(intOf i).toNat)
 case atStart=>exact⟨1,by omega,by omega,rfl,by rw[if_pos (by omega)];exact H⟩
 case round=>
  clear H st1 hW0
  obtain⟨k,k1,k6,rfl,H⟩:=hrel
  by_cases h6:k=6
  ·subst h6
   replace H:pQ w (zf 0) wr:=by rw[if_pos (by omega)]at H;exact H
   clear hv
   obtain⟨hcx,hfx⟩:=ah H.kx
   have lx:=ak H.kx underlying141 rfl aA
   obtain⟨W9,lN,fA,fB⟩:=aG wr w.heap.size 141 141 (zf 0) (zf 0) H.kr aA rfl (by simp[Value.oneCell'])
   have l9:=ak fA underlying141 rfl aA
   have fC:Below w.heap.size w W9:=H.all.grown fB H.all.size (fun j e=>by cases e;exact Nat.le_refl _)
   go_wp2
   refine bodyPost_ret (v:=.tuple #[.agg (zf 0),.bool false]) (by simp[results,results103,go_sem,l9]) rfl ?_
   rw[HV.out]
   exact⟨(zf 0),rfl,rfl,by simp[Value.oneCell'],(fun x hx=>by cases hx),fC⟩
  ·have k5:(k:Int)<=5:=by omega
   have k7:(k:Int)<6:=by omega
   have e8:IntKind.u8.wrap ((k:Int)+1)=(k:Int)+1:=by rcases(show k=1∨k=2∨k=3∨k=4∨k=5 by omega)with rfl|rfl|rfl|rfl|rfl<;>rfl
   have hvk:((vw k).toList==n0.toList)=false:=hv.out k k1 (by omega)
   have pv:=fun W=>ni k W k1 (by omega)
   obtain⟨y,hy⟩: ∃y,vw k=y:=⟨_,rfl⟩
   rw[hy]at hvk pv
   replace H:pQ w (if 0<k+1 then (zf 0)else (zf 0)) wr:=by
    rw[if_pos (by omega)]at H ⊢;exact H
   clear hy hv
   obtain⟨xa,hxa⟩: ∃xa:Array Value,(if 0<k+1 then ((zf 0):Array Value)else (zf 0))=xa:=⟨_,rfl⟩
   rw[hxa]at H
   replace H:=H.drew
   have uc:=u0 _ H.all
   go_wp2
   go_region_held3 (fun W=>W.cell? ⟨b,off,none⟩=some (.string n0)) (exact uc) (first|(go_at_call 92;refine(pv _).mono ?_;rintro e w' ⟨rfl,rfl⟩))
   all_goals go_wp2
   all_goals (
    go_roundw
    case rel=>exact⟨k+1,by omega,by omega,by go_num,by rw[hxa];exact H⟩
    case measure=>first|(simp[intOf];done)|(simp[intOf];omega))
