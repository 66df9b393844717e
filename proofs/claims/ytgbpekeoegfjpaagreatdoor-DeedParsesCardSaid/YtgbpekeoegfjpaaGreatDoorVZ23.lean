/- Proved: parts of the walk. -/
import Derived.Test.YtgbpekeoegfjpaaGreatDoorVZ19
import Derived.Test.YtgbpekeoegfjpaaGreatDoorVZ20
import Derived.Test.YtgbpekeoegfjpaaGreatDoorVZ22
set_option maxRecDepth 100000
set_option maxHeartbeats 4000000
namespace Go.Proofs
open Tryz RowKit
variable (A1 A2 A3 A4 : Option Addr) (c1 c2 c3 c4 : Nat) (f : Pl.aL)
attribute [-go_sem] run_equalIn_agg storeVar loadVar
attribute [local go_sem] bZ bH dU aT eB
theorem nK (g i:Nat)(n:Int)(w:World):(storeVar 3 ⟨g,i,none⟩ (.int .i64 n)).run prog w=(store ⟨g,i,none⟩ (.int .i64 n)).run prog w:=by
 obtain⟨inf,hi,hs⟩: ∃inf,prog.info? 3=some inf∧inf.size=1:=by
  have h:(prog.info? 3).map (·.size)=some 1:=by kernel_rfl
  cases hq:prog.info? 3 with
  |none=>rw[hq]at h;cases h
  |some inf=>rw[hq]at h;exact⟨inf,rfl,by simpa using h⟩
 have hz:(sizeOf 3).run prog w=.ok 1 w:=by
  have:=run_sizeOf (P:=prog) w hi
  rw[this,show prog.cellsOf 3=inf.size by simp[Program.cellsOf,hi],hs]
 simp[storeVar,Sem.run_bind,hz,Value.cells,storeCells,Addr.add]
attribute [local go_sem] nK
noncomputable def Pl.mg (f:Pl.aL)(c:Pl.aZ):Pl.aZ:=if Pl.aM f c=0 then c.back else ⟨0,0,0,0,0,0,0,Pl.bF.zero⟩
def Rs (c:Pl.aZ):Value:=.agg (kq c)
def D_ (c:Pl.aZ)(E:Int)(w:World)(e:Ending)(w':World):Prop:=e=.returned (.tuple #[Rs c,.int .i64 E])∧Below w.heap.size w w'
theorem BD (c:Pl.aZ)(w:World): ∃W0,((w.alloc (.cells (fq A1 A2 A3 A4 c1 c2 c3 c4 f) 28)).alloc (.cells (kq c) 48)).alloc (.cells bP 48)=W0∧
  W0.heap[w.heap.size]?=some (.cells (fq A1 A2 A3 A4 c1 c2 c3 c4 f) 28 (0,0))∧W0.heap[w.heap.size+1]?=some (.cells (kq c) 48 (0,0))∧W0.heap[w.heap.size+2]?=some (.cells bP 48 (0,0))∧Below w.heap.size w W0:=by
 refine⟨_,rfl,?_,?_,?_,(((Below.refl _ w).alloc (Nat.le_refl _) _).alloc (by simp) _).alloc (by simp only[World.size_alloc];omega) _⟩
 ·have kf:=(heap_alloc_new w (.cells (fq A1 A2 A3 A4 c1 c2 c3 c4 f) 28))
  have kf:=(Below.heap_alloc _ (.cells (kq c) 48) _ (lO kf)).trans kf
  exact(Below.heap_alloc _ (.cells bP 48) _ (lO kf)).trans kf
 ·have kc:=(heap_alloc_new (w.alloc (.cells (fq A1 A2 A3 A4 c1 c2 c3 c4 f) 28)) (.cells (kq c) 48))
  rw[World.size_alloc]at kc
  exact(Below.heap_alloc _ (.cells bP 48) _ (lO kc)).trans kc
 ·have kr:=(heap_alloc_new ((w.alloc (.cells (fq A1 A2 A3 A4 c1 c2 c3 c4 f) 28)).alloc (.cells (kq c) 48)) (.cells bP 48))
  simp only[World.size_alloc]at kr
  exact kr
theorem O6 (c:Pl.aZ)(E:Int)(w:World)(hf:bB w w.heap.size A1 A2 A3 A4 f)(hm:Small f)(hc:dY c1 c2 c3 c4 f)(hk:c.kind<=255)(HC:Hid (Pl.aM f c=E))(h0:E≠0):
  Calls prog 66 #[.agg (fq A1 A2 A3 A4 c1 c2 c3 c4 f),.agg (kq c)] w (D_ (Pl.mg f c) (Pl.aM f c) w):=by
 have hv:Hid (Pl.mg f c=⟨0,0,0,0,0,0,0,Pl.bF.zero⟩):=Lib.hid (by unfold Pl.mg;rw[HC.out,if_neg h0])
 obtain⟨W0,hW0,kf,kc,kr,hall⟩:=BD A1 A2 A3 A4 c1 c2 c3 c4 f c w
 have iw:=ak kf underlying28 rfl av
 have gZ:=ak kc underlying48 rfl aj
 go_enter func66,ntmps66
 go_wp2_with (go_at_call 38;refine(gX A1 A2 A3 A4 c1 c2 c3 c4 f c E _ HC (hf.up hall) hm hc hk).mono ?_;rintro e w1 ⟨rfl,hx⟩;clear iw gZ;have kf:=kE hx kf;have kc:=kE hx kc;have kr:=kE hx kr;have hall:Below w.heap.size w w1:=hall.trans (hx.mono hall.size);clear hx;obtain⟨W2,st2,nZ,hg2⟩:=aG w1 (w.heap.size+2) _ 48 _ bP kr aj rfl (by simp[Value.oneCell']);have l2:=ak nZ underlying48 rfl aj;have hB2:Below w.heap.size w W2:=hall.grown hg2 hall.size (fun k e=>by cases e;omega))
 refine bodyPost_ret (v:=.tuple #[.agg bP,.int .i64 E]) (by simp[results,results66,go_sem,l2]) rfl ?_
 rw[hv.out,HC.out]
 exact⟨rfl,hB2⟩
theorem JH (c:Pl.aZ)(w:World)(hf:bB w w.heap.size A1 A2 A3 A4 f)(hm:Small f)(hc:dY c1 c2 c3 c4 f)(hk:c.kind<=255)(HC:Hid (Pl.aM f c=0))(h3:c.kind≠3)(h5:c.kind≠5):
  Calls prog 66 #[.agg (fq A1 A2 A3 A4 c1 c2 c3 c4 f),.agg (kq c)] w (D_ (Pl.mg f c) (Pl.aM f c) w):=by
 have hv:Hid (Pl.mg f c=c):=Lib.hid (by unfold Pl.mg Pl.aZ.back;rw[if_pos HC.out,if_neg h5,if_neg h3])
 have h3': ¬(c.kind:Int)=3:=by omega
 have h5': ¬(c.kind:Int)=5:=by omega
 obtain⟨W0,hW0,kf,kc,kr,hall⟩:=BD A1 A2 A3 A4 c1 c2 c3 c4 f c w
 have iw:=ak kf underlying28 rfl av
 have gZ:=ak kc underlying48 rfl aj
 go_enter func66,ntmps66
 go_wp2_with (go_at_call 38;refine(gX A1 A2 A3 A4 c1 c2 c3 c4 f c 0 _ HC (hf.up hall) hm hc hk).mono ?_;rintro e w1 ⟨rfl,hx⟩;clear iw gZ;have kf:=kE hx kf;have kc:=kE hx kc;have kr:=kE hx kr;have hall:Below w.heap.size w w1:=hall.trans (hx.mono hall.size);clear hx;have l1:=ak kc underlying48 rfl aj;obtain⟨hcc,hfc⟩:=ah kc;obtain⟨W2,st2,nZ,hg2⟩:=aG w1 (w.heap.size+2) _ 48 _ (kq c) kr aj rfl (by simp[Value.oneCell']);have l2:=ak nZ underlying48 rfl aj;have hB2:Below w.heap.size w W2:=hall.grown hg2 hall.size (fun k e=>by cases e;omega))
 refine bodyPost_ret (v:=.tuple #[.agg (kq c),.int .i64 0]) (by simp[results,results66,go_sem,l2]) rfl ?_
 rw[hv.out,HC.out]
 exact⟨rfl,hB2⟩
theorem O7 (c:Pl.aZ)(w w1:World)(kc:w1.heap[w.heap.size+1]?=some (.cells (iq 5 c) 48 (0,0)))(kr:w1.heap[w.heap.size+2]?=some (.cells bP 48 (0,0)))(hall:Below w.heap.size w w1):
  ∃W3 W2,((w1.setCell ⟨w.heap.size+1,3,none⟩ (.int .i64 c.till)).setCell ⟨w.heap.size+1,4,none⟩ (.int .i64 c.fr)).setCell ⟨w.heap.size+1,5,none⟩ (.int .i64 (-c.size))=W3∧(loadVar 48 ⟨w.heap.size+1,0,none⟩).run prog W3=.ok (.agg (bR 5 c.lim c.bL c.till c.fr (-c.size) c.er c.aB.b c.aB.n c.aB.l c.aB.y c.aB.x c.aB.s)) W3∧(storeVar 48 ⟨w.heap.size+2,0,none⟩ (.agg (bR 5 c.lim c.bL c.till c.fr (-c.size) c.er c.aB.b c.aB.n c.aB.l c.aB.y c.aB.x c.aB.s))).run prog W3=.ok () W2∧(loadVar 48 ⟨w.heap.size+2,0,none⟩).run prog W2=.ok (.agg (bR 5 c.lim c.bL c.till c.fr (-c.size) c.er c.aB.b c.aB.n c.aB.l c.aB.y c.aB.x c.aB.s)) W2∧Below w.heap.size w W2:=by
 obtain⟨W3,hW3⟩: ∃W3,((w1.setCell ⟨w.heap.size+1,3,none⟩ (.int .i64 c.till)).setCell ⟨w.heap.size+1,4,none⟩ (.int .i64 c.fr)).setCell ⟨w.heap.size+1,5,none⟩ (.int .i64 (-c.size))=W3:=⟨_,rfl⟩
 have Vv:W3.heap[w.heap.size+1]?=some (.cells (bR 5 c.lim c.bL c.till c.fr (-c.size) c.er c.aB.b c.aB.n c.aB.l c.aB.y c.aB.x c.aB.s) 48 (0,0)):=by
  rw[<-hW3]
  exact heap_setCell_same _ _ 5 _ _ _ (heap_setCell_same _ _ 4 _ _ _ (heap_setCell_same _ _ 3 _ _ _ kc))
 have xI:W3.heap[w.heap.size+2]?=some (.cells bP 48 (0,0)):=by
  rw[<-hW3]
  exact(Below.heap_setCell _ _ _ _ (show w.heap.size+2≠w.heap.size+1 by omega)).trans ((Below.heap_setCell _ _ _ _ (show w.heap.size+2≠w.heap.size+1 by omega)).trans ((Below.heap_setCell _ _ _ _ (show w.heap.size+2≠w.heap.size+1 by omega)).trans kr))
 have lq:Below w.heap.size w W3:=by
  rw[<-hW3]
  exact((hall.setCell (p:=⟨w.heap.size+1,3,none⟩) (Nat.le_succ _) _).setCell (p:=⟨w.heap.size+1,4,none⟩) (Nat.le_succ _) _).setCell (p:=⟨w.heap.size+1,5,none⟩) (Nat.le_succ _) _
 have l3:=ak Vv underlying48 rfl aj
 obtain⟨W2,st2,nZ,hg2⟩:=aG W3 (w.heap.size+2) _ 48 _ (bR 5 c.lim c.bL c.till c.fr (-c.size) c.er c.aB.b c.aB.n c.aB.l c.aB.y c.aB.x c.aB.s) xI aj rfl (by simp[Value.oneCell'])
 exact⟨W3,W2,hW3,l3,st2,ak nZ underlying48 rfl aj,lq.grown hg2 lq.size (fun k e=>by cases e;omega)⟩
theorem Gc (c:Pl.aZ)(w:World)(hf:bB w w.heap.size A1 A2 A3 A4 f)(hm:Small f)(hc:dY c1 c2 c3 c4 f)(hk:c.kind<=255)(HC:Hid (Pl.aM f c=0))(h5:c.kind=5):
  Calls prog 66 #[.agg (fq A1 A2 A3 A4 c1 c2 c3 c4 f),.agg (kq c)] w (D_ (Pl.mg f c) (Pl.aM f c) w):=by
 have hv:Hid (Pl.mg f c= {c with fr:=c.till,till:=c.fr,size:= -c.size}):=Lib.hid (by unfold Pl.mg Pl.aZ.back;rw[if_pos HC.out,if_pos h5])
 have h5':(c.kind:Int)=5:=by omega
 obtain⟨_,ht⟩:=LV HC.out
 have hsz: -100000<=c.size∧c.size<=100000:=by have:=ht.2.2;omega
 have Yy:IntKind.i64.wrap (-c.size)= -c.size:=IntWalk.i64_in _ (by omega)
 obtain⟨W0,hW0,kf,kc,kr,hall⟩:=BD A1 A2 A3 A4 c1 c2 c3 c4 f c w
 have iw:=ak kf underlying28 rfl av
 have gZ:=ak kc underlying48 rfl aj
 have hcall:=fun W (hf:bB W W.heap.size A1 A2 A3 A4 f)=>gX A1 A2 A3 A4 c1 c2 c3 c4 f c 0 W HC hf hm hc hk
 simp only[h5']at hcall hW0 kc gZ
 clear h5'
 go_enter func66,ntmps66
 go_wp2_with (go_at_call 38;refine(hcall _ (hf.up hall)).mono ?_;rintro e w1 ⟨rfl,hx⟩;clear iw gZ;have kf:=kE hx kf;have kc:=kE hx kc;have kr:=kE hx kr;have hall:Below w.heap.size w w1:=hall.trans (hx.mono hall.size);clear hx;obtain⟨hcc,hfc⟩:=ah kc;obtain⟨W3,W2,hW3,l3,st2,l2,hB2⟩:=O7 c w w1 kc kr hall)
 refine bodyPost_ret (v:=.tuple #[.agg (bR 5 c.lim c.bL c.till c.fr (-c.size) c.er c.aB.b c.aB.n c.aB.l c.aB.y c.aB.x c.aB.s),.int .i64 0]) (by simp[results,results66,go_sem,l2]) rfl ?_
 rw[hv.out,HC.out]
 refine⟨?_,hB2⟩
 unfold Rs
 simp only[h5]
 rfl
end Go.Proofs
namespace Go.Proofs
open Tryz RowKit
variable (A1 A2 A3 A4 : Option Addr) (c1 c2 c3 c4 : Nat) (f : Pl.aL)
attribute [-go_sem] run_equalIn_agg storeVar loadVar
attribute [local go_sem] bZ bH dU aT eB nK
theorem Ir {t:TypeId}{n:Nat}(h:(prog.info? t).map (·.size)=some n)(w:World):(sizeOf t).run prog w=.ok n w:=by
 obtain⟨inf,hi,hs⟩: ∃inf,prog.info? t=some inf∧inf.size=n:=by
  cases hq:prog.info? t with
  |none=>rw[hq]at h;cases h
  |some inf=>rw[hq]at h;exact⟨inf,rfl,by simpa using h⟩
 have:=run_sizeOf (P:=prog) w hi
 rw[this,show prog.cellsOf t=inf.size by simp[Program.cellsOf,hi],hs]
theorem sJ :(prog.info? 46).map (·.size)=some 6:=by kernel_rfl
theorem jO (g i:Nat)(b n l y x s:Int)(w:World):(storeVar 46 ⟨g,i,none⟩ (.agg (i6 b n l y x s))).run prog w=
  (do store ⟨g,i,none⟩ (.int .i64 b);store ⟨g,i+1,none⟩ (.int .i64 n);store ⟨g,i+2,none⟩ (.int .i64 l);store ⟨g,i+3,none⟩ (.int .i64 y);store ⟨g,i+4,none⟩ (.int .i64 x);store ⟨g,i+5,none⟩ (.int .i64 s):Sem Unit).run prog w:=by
 simp[storeVar,Sem.run_bind,Ir sJ,Value.cells,storeCells,Addr.add]
theorem JI (w:World):(isAgg 46).run prog w=.ok true w:=by
 unfold isAgg
 rw[Sem.run_bind,run_underlying underlying46 w]
 rfl
theorem LZ {α β γ:Type}(r:Result α)(f:α->World->Result β)(g:β->World->Result γ):(r.andThen f).andThen g=r.andThen fun a w=>(f a w).andThen g:=by cases r<;>rfl
theorem jP (g i:Nat)(w:World):(loadVar 46 ⟨g,i,none⟩).run prog w=
  (do let b←load ⟨g,i,none⟩;let n←load ⟨g,i+1,none⟩;let l←load ⟨g,i+2,none⟩;let y←load ⟨g,i+3,none⟩;let x←load ⟨g,i+4,none⟩;let s←load ⟨g,i+5,none⟩;pure (.agg #[b,n,l,y,x,s]):Sem Value).run prog w:=by
 simp only[loadVar,Sem.run_bind,JI,Ir sJ,loadCells,loadCellsFrom,Addr.add,Result.andThen_ok,if_true,Sem.run_pure,Nat.add_zero,Nat.reduceAdd,Nat.zero_add]
 simp[LZ]
structure Qf (w:World)(z cs:Array Value)(W:World):Prop where
 kc:W.heap[w.heap.size+1]?=some (.cells cs 48 (0,0))
 kr:W.heap[w.heap.size+2]?=some (.cells z 48 (0,0))
 all:Below w.heap.size w W
theorem Qf.set {w:World}{z cs:Array Value}{W:World}(h:Qf w z cs W)(o:Nat)(v:Value):Qf w z (cs.setIfInBounds o v) (W.setCell ⟨w.heap.size+1,o,none⟩ v):=
 ⟨heap_setCell_same _ _ _ _ _ _ h.kc,(Below.heap_setCell _ _ _ _ (show w.heap.size+2≠w.heap.size+1 by omega)).trans h.kr,h.all.setCell (p:=⟨w.heap.size+1,o,none⟩) (Nat.le_succ _) _⟩
theorem Qf.drew {w:World}{z cs:Array Value}{W:World}(h:Qf w z cs W):Qf w z cs W.drew:=⟨h.kc,h.kr,h.all.drew⟩
theorem O8 (c:Pl.aZ)(w w1:World)(kc:w1.heap[w.heap.size+1]?=some (.cells (iq 3 c) 48 (0,0)))(kr:w1.heap[w.heap.size+2]?=some (.cells bP 48 (0,0)))(hall:Below w.heap.size w w1):
  ∃W3 W2,(((((((((w1).setCell ⟨w.heap.size+1,3,none⟩ (.int .i64 c.till)).setCell ⟨w.heap.size+1,4,none⟩ (.int .i64 c.fr)).setCell ⟨w.heap.size+1,7,none⟩ (.int .i64 ((c.aB.b+180)%360))).setCell ⟨w.heap.size+1,8,none⟩ (.int .i64 c.aB.n)).setCell ⟨w.heap.size+1,9,none⟩ (.int .i64 c.aB.l)).setCell ⟨w.heap.size+1,10,none⟩ (.int .i64 c.aB.y)).setCell ⟨w.heap.size+1,11,none⟩ (.int .i64 c.aB.x)).setCell ⟨w.heap.size+1,12,none⟩ (.int .i64 c.aB.s)).drew=W3∧(loadVar 48 ⟨w.heap.size+1,0,none⟩).run prog W3=.ok (.agg (bR 3 c.lim c.bL c.till c.fr c.size c.er ((c.aB.b+180)%360) c.aB.n c.aB.l c.aB.y c.aB.x c.aB.s)) W3∧(storeVar 48 ⟨w.heap.size+2,0,none⟩ (.agg (bR 3 c.lim c.bL c.till c.fr c.size c.er ((c.aB.b+180)%360) c.aB.n c.aB.l c.aB.y c.aB.x c.aB.s))).run prog W3=.ok () W2∧(loadVar 48 ⟨w.heap.size+2,0,none⟩).run prog W2=.ok (.agg (bR 3 c.lim c.bL c.till c.fr c.size c.er ((c.aB.b+180)%360) c.aB.n c.aB.l c.aB.y c.aB.x c.aB.s)) W2∧Below w.heap.size w W2:=by
 obtain⟨W3,hW3⟩: ∃W3,(((((((((w1).setCell ⟨w.heap.size+1,3,none⟩ (.int .i64 c.till)).setCell ⟨w.heap.size+1,4,none⟩ (.int .i64 c.fr)).setCell ⟨w.heap.size+1,7,none⟩ (.int .i64 ((c.aB.b+180)%360))).setCell ⟨w.heap.size+1,8,none⟩ (.int .i64 c.aB.n)).setCell ⟨w.heap.size+1,9,none⟩ (.int .i64 c.aB.l)).setCell ⟨w.heap.size+1,10,none⟩ (.int .i64 c.aB.y)).setCell ⟨w.heap.size+1,11,none⟩ (.int .i64 c.aB.x)).setCell ⟨w.heap.size+1,12,none⟩ (.int .i64 c.aB.s)).drew=W3:=⟨_,rfl⟩
 have H:=(((((((((Qf.mk kc kr hall:Qf w _ _ w1).set 3 (.int .i64 c.till)).set 4 (.int .i64 c.fr)).set 7 (.int .i64 ((c.aB.b+180)%360))).set 8 (.int .i64 c.aB.n)).set 9 (.int .i64 c.aB.l)).set 10 (.int .i64 c.aB.y)).set 11 (.int .i64 c.aB.x)).set 12 (.int .i64 c.aB.s)).drew
 rw[hW3]at H
 simp only[List.setIfInBounds_toArray,List.set_cons_succ,List.set_cons_zero]at H
 have Vv:=H.kc
 have xI:=H.kr
 have lq:=H.all
 have l3:=ak Vv underlying48 rfl aj
 obtain⟨W2,st2,nZ,hg2⟩:=aG W3 (w.heap.size+2) _ 48 _ (bR 3 c.lim c.bL c.till c.fr c.size c.er ((c.aB.b+180)%360) c.aB.n c.aB.l c.aB.y c.aB.x c.aB.s) xI aj rfl (by simp[Value.oneCell'])
 exact⟨W3,W2,hW3,l3,st2,ak nZ underlying48 rfl aj,lq.grown hg2 lq.size (fun k e=>by cases e;omega)⟩
attribute [local go_sem] jP jO
theorem Ea (c:Pl.aZ)(w:World)(hf:bB w w.heap.size A1 A2 A3 A4 f)(hm:Small f)(hc:dY c1 c2 c3 c4 f)(hk:c.kind<=255)(HC:Hid (Pl.aM f c=0))(h3:c.kind=3):
  Calls prog 66 #[.agg (fq A1 A2 A3 A4 c1 c2 c3 c4 f),.agg (kq c)] w (D_ (Pl.mg f c) (Pl.aM f c) w):=by
 have hv:Hid (Pl.mg f c= {c with fr:=c.till,till:=c.fr,aB:=c.aB.back}):=Lib.hid (by unfold Pl.mg Pl.aZ.back;rw[if_pos HC.out,if_neg (by omega),if_pos h3])
 have h3':(c.kind:Int)=3:=by omega
 have hco:c.aB.ok=true:=by
  have:=HC.out
  unfold Pl.aM Pl.fP at this
  cases hq:c.aB.ok with
  |true=>rfl
  |false=>simp[hq,h3]at this;split at this<;>(try split at this)<;>simp_all
 obtain⟨W0,hW0,kf,kc,kr,hall⟩:=BD A1 A2 A3 A4 c1 c2 c3 c4 f c w
 have iw:=ak kf underlying28 rfl av
 have gZ:=ak kc underlying48 rfl aj
 have hcall:=fun W (hf:bB W W.heap.size A1 A2 A3 A4 f)=>gX A1 A2 A3 A4 c1 c2 c3 c4 f c 0 W HC hf hm hc hk
 simp only[h3']at hcall hW0 kc gZ
 clear h3'
 go_enter func66,ntmps66
 go_wp2_with first|(go_at_call 38;refine(hcall _ (hf.up hall)).mono ?_;rintro e w1 ⟨rfl,hx⟩;clear iw gZ;have kf:=kE hx kf;have kc:=kE hx kc;have kr:=kE hx kr;have hall:Below w.heap.size w w1:=hall.trans (hx.mono hall.size);obtain⟨hcc,hfc⟩:=ah kc;clear hx)|(go_at_call 136;refine(FB c.aB _ hco).mono ?_;rintro e w2 ⟨rfl,hx⟩;have kc:=kE hx kc;have kr:=kE hx kr;have hall:Below w.heap.size w w2:=hall.trans (hx.mono hall.size);obtain⟨zx,O9⟩:=ah kc;clear hx)
 have hne:w2.heap.size≠w.heap.size+1:=by have:=(lO kc);omega
 have hne':w.heap.size+1≠w2.heap.size:=fun e=>hne e.symm
 obtain⟨W4,Xb⟩: ∃W4,w2.alloc (.cells (i6 ((c.aB.b+180)%360) c.aB.n c.aB.l c.aB.y c.aB.x c.aB.s) 46)=W4:=⟨_,rfl⟩
 have k7:=heap_alloc_new w2 (.cells (i6 ((c.aB.b+180)%360) c.aB.n c.aB.l c.aB.y c.aB.x c.aB.s) 46)
 have kc:=(Below.heap_alloc _ (.cells (i6 ((c.aB.b+180)%360) c.aB.n c.aB.l c.aB.y c.aB.x c.aB.s) 46) _ (lO kc)).trans kc
 have kr:=(Below.heap_alloc _ (.cells (i6 ((c.aB.b+180)%360) c.aB.n c.aB.l c.aB.y c.aB.x c.aB.s) 46) _ (lO kr)).trans kr
 have hall:=hall.alloc hall.size (.cells (i6 ((c.aB.b+180)%360) c.aB.n c.aB.l c.aB.y c.aB.x c.aB.s) 46)
 rw[Xb]at k7 kc kr hall ⊢
 clear hcc hfc zx O9 Xb hcall
 generalize w2.heap.size=b7 at*
 obtain⟨hcc,hfc⟩:=ah kc
 obtain⟨PZ,Sq⟩:=ah k7
 go_region
 obtain⟨W3,W2,hW3,l3,st2,l2,hB2⟩:=O8 c w W4 kc kr hall
 rw[hW3]
 clear hW3 hcc hfc PZ Sq k7 kc kr
 go_wp2_with fail
 refine bodyPost_ret (v:=.tuple #[.agg (bR 3 c.lim c.bL c.till c.fr c.size c.er ((c.aB.b+180)%360) c.aB.n c.aB.l c.aB.y c.aB.x c.aB.s),.int .i64 0]) (by simp[results,results66,go_sem,l2]) rfl ?_
 rw[hv.out,HC.out]
 refine⟨?_,hB2⟩
 unfold Rs Pl.bF.back
 simp only[h3]
 rfl
theorem Rt (c:Pl.aZ)(w:World)(hf:bB w w.heap.size A1 A2 A3 A4 f)(hm:Small f)(hc:dY c1 c2 c3 c4 f)(hk:c.kind<=255):
  Calls prog 66 #[.agg (fq A1 A2 A3 A4 c1 c2 c3 c4 f),.agg (kq c)] w (D_ (Pl.mg f c) (Pl.aM f c) w):=by
 by_cases h0:Pl.aM f c=0
 ·by_cases h3:c.kind=3
  ·exact Ea A1 A2 A3 A4 c1 c2 c3 c4 f c w hf hm hc hk (Lib.hid h0) h3
  ·by_cases h5:c.kind=5
   ·exact Gc A1 A2 A3 A4 c1 c2 c3 c4 f c w hf hm hc hk (Lib.hid h0) h5
   ·exact JH A1 A2 A3 A4 c1 c2 c3 c4 f c w hf hm hc hk (Lib.hid h0) h3 h5
 ·exact O6 A1 A2 A3 A4 c1 c2 c3 c4 f c _ w hf hm hc hk (Lib.hid rfl) h0
end Go.Proofs
namespace Go.Proofs
open Tryz RowKit Shelf
variable (A1 A2 A3 A4 : Option Addr) (c1 c2 c3 c4 : Nat) (f : Pl.aL)
attribute [local go_sem] Oper.semAt_some
namespace Pl
variable (A1 A2 A3 A4 : Option Addr) (c1 c2 c3 c4 : Nat) (f : Pl.aL)
def nL {σ:Type}(next:σ->Nat->List ByteArray->Option σ):Nat->σ->List (List ByteArray)->σ ⊕ (σ×Nat×List ByteArray)
 |_,s,[]=> .inl s
 |k,s,ws::r=>if ws=[]then nL next (k+1) s r else match next s (k+1) ws with
  |some s'=>nL next (k+1) s' r
  |none=> .inr (s,k+1,ws)
theorem Gd {σ:Type}{next:σ->Nat->List ByteArray->Option σ}{k:Nat}{s:σ}{r:List (List ByteArray)}:nL next k s ([]::r)=nL next (k+1) s r:=by rw[nL,if_pos rfl]
theorem O_ {σ:Type}{next:σ->Nat->List ByteArray->Option σ}{k:Nat}{s s':σ}{ws:List ByteArray}{r:List (List ByteArray)}(h:ws≠ [])(hn:next s (k+1) ws=some s'):nL next k s (ws::r)=nL next (k+1) s' r:=by rw[nL,if_neg h,hn]
theorem Iu {σ:Type}{next:σ->Nat->List ByteArray->Option σ}{k:Nat}{s:σ}{ws:List ByteArray}{r:List (List ByteArray)}(h:ws≠ [])(hn:next s (k+1) ws=none):nL next k s (ws::r)=.inr (s,k+1,ws):=by rw[nL,if_neg h,hn]
end Pl
theorem L6 {σ:Type}(n L bs:Nat)(src:ByteArray)(hsrc:src.size<=20000)(J:σ->World->Prop)(next:σ->Nat->List ByteArray->Option σ)(X:σ->Nat->List ByteArray->World->Prop)(s0:σ)
  (W1:World) (hE1:Env W1) (hb:W1.heap[bs]?=some (.cells #[.string src] 9 (0,0)))
  (h0:J s0 (W1.alloc (.cells ((Pl.splitV 10 src).map Value.string).toArray 9)))
  (hrow: ∀s W,J s W->W.heap[W1.heap.size]?=some (.cells ((Pl.splitV 10 src).map Value.string).toArray 9 (0,0)))
  (Vw: ∀s W,J s W->Env W) (hup: ∀s W W',J s W->Below W.heap.size W W'->J s W')
  (hY: ∀s (k b c:Nat) (ws:List ByteArray) W,J s W->k+1<=50000->d9 W W.heap.size (some ⟨b,0,none⟩) ws->ws.length<=c->dK ws->ws≠ []->(∃r,Pl.nL next k s (ws::r)=Pl.nL next 0 s0 ((Pl.splitV 10 src).map Pl.aW))->
   YieldAt Fence.wide (n-1) prog L #[.int .i64 ((k:Int)+1),.slice (some ⟨b,0,none⟩) ws.length c] W fun e W'=>
    (∃s',next s (k+1) ws=some s'∧e=.returned (.bool true)∧J s' W')∨(next s (k+1) ws=none∧e=.returned (.bool false)∧X s (k+1) ws W')):
  CallsIn Fence.wide n prog 144 #[.func (.yield L) #[] #[],.pointer (some ⟨bs,0,none⟩)] W1 fun e W'=>
   (∃v,e=.returned v)∧((∃s1,Pl.nL next 0 s0 ((Pl.splitV 10 src).map Pl.aW)=.inl s1∧J s1 W')∨(∃s k ws,Pl.nL next 0 s0 ((Pl.splitV 10 src).map Pl.aW)=.inr (s,k,ws)∧X s k ws W')):=by
 refine callsIn_of_wp func144 rfl trivial ?_ rfl
 simp only[ntmps144,List.size_toArray,List.length_cons,List.length_nil,Nat.reduceAdd,Nat.reduceSub,Array.replicate_succ,Array.replicate_zero,List.push_toArray,List.append_toArray,List.nil_append,List.cons_append]
 obtain⟨hcs,hfs⟩:=ah hb
 have hls:=mZ 10 src
 have hlz:=nH 10 src
 have hsp:=xM 10 src W1 hE1 (by omega)
 obtain⟨R,hR⟩: ∃R,Pl.nL next 0 s0 ((Pl.splitV 10 src).map Pl.aW)=R:=⟨_,rfl⟩
 rw[hR]at hY ⊢
 have hrun:Hid (Pl.nL next 0 s0 (((Pl.splitV 10 src).drop 0).map Pl.aW)=R):=Lib.hid hR
 clear hR
 gi_wp2_with fail
 refine⟨trivial,fun h=>(by cases h),?_⟩
 refine(callsIn_wide.2 hsp).mono ?_
 rintro e w2 ⟨rfl,rfl⟩
 generalize (W1.alloc (.cells ((Pl.splitV 10 src).map Value.string).toArray 9))=W2 at h0 ⊢
 generalize W1.heap.size=B at hrow ⊢
 clear hcs hfs hsp
 gi_wp2_with fail
 gi_loopw [9] (fun p wr=> ∃(k:Nat) (s:σ),k<=(Pl.splitV 10 src).length∧p=.int .i64 k∧J s wr∧Hid (Pl.nL next k s (((Pl.splitV 10 src).drop k).map Pl.aW)=R)) (fun p _=>(Pl.splitV 10 src).length-(intOf p).toNat)
 case atStart=>exact⟨0,_,by omega,rfl,h0,hrun⟩
 case round=>
  obtain⟨k,s,hk,rfl,hJ,H⟩:=hrel
  by_cases hlt:k<(Pl.splitV 10 src).length
  ·have hlt2:(Pl.splitV 10 src).drop k=(Pl.splitV 10 src)[k]::(Pl.splitV 10 src).drop (k+1):=by simp
   obtain⟨hcr,hfr⟩:=ah (hrow _ _ hJ)
   have q0:wr.cell? ⟨B,k,none⟩=some (.string (Pl.splitV 10 src)[k]):=by rw[hcr];simp[hlt]
   clear hcr hfr
   have hEr:Env wr:=Vw _ _ hJ
   have hz:=hlz _ (List.getElem_mem hlt)
   rw[hlt2,List.map_cons]at H
   clear hlt2
   generalize (Pl.splitV 10 src)[k]=l at q0 hz H
   have hwd:=Bz l wr hEr (by omega)
   have hws:=oW l 20000 (by omega)
   generalize Pl.aW l=ws at hwd hws H
   gi_wp2_with fail
   refine⟨trivial,fun h=>(by cases h),?_⟩
   refine(callsIn_wide.2 hwd).mono ?_
   rintro e w3 ⟨b,c,rfl,hc,hbl,hb3,Tg⟩
   have hJ3:=hup _ _ _ hJ hb3
   by_cases hnil:ws=[]
   ·subst hnil
    gi_wp2_with fail
    refine⟨fun _ h=>(by cases h),?_⟩
    gi_wp2
    go_roundw
    case rel=>exact⟨k+1,s,by omega,by simp,hJ3,Lib.hid (Pl.Gd.symm.trans H.out)⟩
    case measure=>first|(simp[intOf];done)|(simp[intOf];omega)
   ·have hpos:0<ws.length:=List.length_pos_iff.2 hnil
    obtain⟨fn,tmps,assign,body,hy,hR⟩:=hY s k b c ws w3 hJ3 (by omega) Tg hc ⟨(by have:=hws.1;show ws.length<=100000;omega),fun x hx=>by have:=hws.2 x hx;omega⟩ hnil ⟨_,H.out⟩
    gi_wp2
    refine⟨fun h=>(by cases h),hR.mono ?_⟩
    rintro e W3 (⟨s',hs',rfl,Vt⟩|⟨hno,rfl,hx5⟩)
    ·gi_wp2
     go_roundw
     case rel=>exact⟨k+1,s',by omega,by simp,Vt,Lib.hid ((Pl.O_ hnil hs').symm.trans H.out)⟩
     case measure=>first|(simp[intOf];done)|(simp[intOf];omega)
    ·have hr:=H.out.symm.trans (Pl.Iu hnil hno)
     gi_wp2
     refine bodyPost_ret (results_none rfl _ _ _) rfl ?_
     exact⟨⟨_,rfl⟩,.inr ⟨_,_,_,hr,hx5⟩⟩
  ·gi_wp2
   go_end0
   have hd:(Pl.splitV 10 src).drop k=[]:=List.drop_eq_nil_of_le (by omega)
   rw[hd]at H
   exact⟨⟨_,rfl⟩,.inl ⟨s,H.out.symm,hJ⟩⟩
end Go.Proofs
namespace Go.Proofs
open Tryz RowKit Shelf
variable (A1 A2 A3 A4 : Option Addr) (c1 c2 c3 c4 : Nat) (f : Pl.aL)
attribute [-go_sem] run_equalIn_agg storeVar loadVar
theorem Iw (a:Addr)(w:World):(loadVar 38 a).run prog w=(load a).run prog w:=fE underlying38 rfl a w
attribute [local go_sem] bZ bH dU aT eB mU Iw
end Go.Proofs
namespace Go.Proofs.Pl
open RowKit
variable (A1 A2 A3 A4 : Option Addr) (c1 c2 c3 c4 : Nat) (f : Pl.aL)
def aL.nm (f:aL):Prop:=(∀s∈f.st,s.1.size<=100000)∧(∀s∈f.li,s.size<=100000)∧ ∀p∈f.pa,p.name.size<=100000
theorem BF {s:ByteArray}(h:isName s=true):s.size<=100000:=by
 by_cases hz:s.size<1∨24<s.size
 ·rw[nu hz]at h;cases h
 ·omega
def Item.nm :Item->Prop
 | .vQ n _=>n.size<=100000
 | .limit n=>n.size<=100000
 | .oI n _ _ _=>n.size<=100000
 | .variation _ _=>True
theorem Pb {w:List ByteArray}{x:Item}(h:item w=some x):x.nm:=by
 unfold item at h
 split at h
 ·split at h
  ·rename_i hc;cases h;exact BF hc.2
  ·cases h
 ·split at h
  ·split at h
   ·rename_i hc
    obtain⟨v,_,rfl⟩:=Option.map_eq_some_iff.1 h
    exact BF hc
   ·cases h
  ·split at h
   ·obtain⟨y,_,h⟩:=Option.bind_eq_some_iff.1 h
    obtain⟨v,_,rfl⟩:=Option.map_eq_some_iff.1 h
    trivial
   ·cases h
 ·split at h
  ·rename_i hc;cases h;exact BF hc.2.1
  ·cases h
 ·cases h
theorem Pd {f f':aL}{w:List ByteArray}(h:f.nm)(hx:bM f w=.ok f'):f'.nm:=by
 obtain⟨h1,h2,h3⟩:=h
 unfold bM at hx
 split at hx
 ·rename_i x hi
  have hn:=Pb hi
  unfold added at hx
  split at hx
  ·cases hx
   refine⟨fun s hs=> ?_,h2,h3⟩
   rcases List.mem_append.1 hs with hs|hs
   ·exact h1 s hs
   ·simp at hs;subst hs;exact hn
  ·cases hx
   refine⟨h1,fun s hs=> ?_,h3⟩
   rcases List.mem_append.1 hs with hs|hs
   ·exact h2 s hs
   ·simp at hs;subst hs;exact hn
  ·split at hx
   ·split at hx
    ·cases hx
     refine⟨h1,h2,fun s hs=> ?_⟩
     rcases List.mem_append.1 hs with hs|hs
     ·exact h3 s hs
     ·simp at hs;subst hs;exact hn
    ·cases hx
   ·cases hx
  ·cases hx
   exact⟨h1,h2,h3⟩
 ·cases hx
theorem uh : ∀(l:List (List ByteArray)) (f f':aL) (n m:Nat),f.nm->f.le m->dL f n l=.ok f'->f'.nm∧f'.le (m+l.length)
 | [],f,f',n,m,h1,h2,h=>by
  unfold dL at h
  cases h
  exact⟨h1,by simpa using h2⟩
 | w::l,f,f',n,m,h1,h2,h=>by
  by_cases hw:w=[]
  ·rw[zV hw]at h
   obtain⟨a,b⟩:=uh l f f' (n+1) m h1 h2 h
   exact⟨a,b.more (by simp)⟩
  ·cases hf:bM f w with
   |ok g=>
    rw[LH hw hf]at h
    obtain⟨a,b⟩:=uh l g f' (n+1) (m+1) (Pd h1 hf) (Io h2 hf) h
    exact⟨a,b.more (by simp;omega)⟩
   |error e=>
    rw[Im hw hf]at h
    cases h
theorem Pe :aL.none.nm:=⟨by simp[aL.none],by simp[aL.none],by simp[aL.none]⟩
theorem none_le :aL.none.le 0:=by simp[aL.none,aL.le]
end Go.Proofs.Pl
namespace Go.Proofs
open Tryz RowKit Shelf
variable (A1 A2 A3 A4 : Option Addr) (c1 c2 c3 c4 : Nat) (f : Pl.aL)
attribute [local go_sem] Oper.semAt_some
theorem Iy (s:ByteArray)(w:World):
  Calls prog 72 #[.string s] w fun e w'=>e=.returned (.func (.func 144) #[] #[.pointer (some ⟨w.heap.size,0,none⟩)])∧w'=w.alloc (.cells #[.string s] 9):=by
 go_enter func72,ntmps72
 go_wp2
 go_ret
 exact⟨by simp,rfl⟩
def Ru (r:Pl.aL×Int×Int)(w:World)(e:Ending)(w':World):Prop:=
 ∃A1 c1 A2 c2 A3 c3 A4 c4,e=.returned (.tuple #[.agg (fq A1 A2 A3 A4 c1 c2 c3 c4 r.1),.agg (i2 r.2.1 r.2.2)])∧
  bB w' w'.heap.size A1 A2 A3 A4 r.1∧dY c1 c2 c3 c4 r.1∧Below w.heap.size w w'
theorem zY (w:World)(B:Nat):bB w B none none none none Pl.aL.none:=⟨.inl rfl,.inl rfl,.inl rfl,.inl rfl⟩
theorem zZ :dY 0 0 0 0 Pl.aL.none:=⟨Nat.le_refl _,Nat.le_refl _,Nat.le_refl _,Nat.le_refl _⟩
theorem ug.putObj {w:World}{src:ByteArray}{s:LS}{W:World}{r:Loop}(r':Loop)(h:ug w src s W)(hl:W.heap[w.heap.size+5]?=some (.loop r)):ug w src s (W.putObj (w.heap.size+5) (.loop r')):=by
 have hg:=grownBy_putObj' W (w.heap.size+5) (.loop r')
 obtain⟨h1,h2,h3,⟨v1,v2,v3,v4,hF,hO⟩,h5,h6,h7,h8,h9⟩:=h
 have key: ∀k,k≠w.heap.size+5->(W.putObj (w.heap.size+5) (.loop r')).heap[k]?=W.heap[k]?:=fun k hk=>World.putObj_heap_other (by omega)
 have hlt:=(lO hl)
 refine⟨h1.grown hg h1.size (fun k e=>by cases e;omega),(key _ (by omega)).trans h2,(key _ (by omega)).trans h3,⟨v1,v2,v3,v4,?_,hO⟩,(key _ (by omega)).trans h5,h6,fun e=>(key _ (by omega)).trans (h7 e),fun e=> ?_,fun x hx=> ?_⟩
 ·exact⟨(key _ (by omega)).trans hF.box,hF.o1.kept hg (.inr fun e=>by have:=hO _ (.inl e);omega),hF.o2.kept hg (.inr fun e=>by have:=hO _ (.inr (.inl e));omega),hF.o3.kept hg (.inr fun e=>by have:=hO _ (.inr (.inr (.inl e)));omega),hF.o4.kept hg (.inr fun e=>by have:=hO _ (.inr (.inr (.inr e)));omega)⟩
 ·rw[<-h8 e];simp[World.putObj]
 ·obtain⟨a,b⟩:=h9 x hx
  have hsz:(W.putObj (w.heap.size+5) (.loop r')).heap.size=W.heap.size:=by simp[World.putObj]
  rw[hsz]
  refine⟨a.keep fun p hp=> ?_,b⟩
  by_cases e:p.block=w.heap.size+5
  ·have e1:(W.putObj (w.heap.size+5) (.loop r')).heap[p.block]?=some (.loop r'):=by rw[e];exact World.putObj_heap_same hlt
   have e2:W.heap[p.block]?=some (.loop r):=by rw[e];exact hl
   simp[World.cell?,e1,e2]
  ·exact World.cell?_of_block (key _ e)
theorem Si.putObj {w:World}{s:LS}{x:LX}{W:World}(r':Loop)(h:Si w s x W):Si w s x (W.putObj (w.heap.size+5) (.loop r')):=by
 obtain⟨E,h1,h2,h3,h4⟩:=h
 have hg:=grownBy_putObj' W (w.heap.size+5) (.loop r')
 exact⟨E,h1,h2.grown hg h2.size (fun k e=>by cases e;omega),(World.putObj_heap_other (by omega)).trans h3,(World.putObj_heap_other (by omega)).trans h4⟩
theorem ug.mid {w:World}{src:ByteArray}{s:LS}{W W2:World}(hi:ug w src s W)(hon:s.on=true){v1 v2 v3 v4:Value}(hO: ∀i,Oy v1 v2 v3 v4 i->w.heap.size+7<=i)(hB:aU (w.heap.size+2) (Oz (w.heap.size+2) v1 v2 v3 v4) W W2):
  ∀k,w.heap.size+3<=k->k<w.heap.size+7->W2.heap[k]?=W.heap[k]?:=by
 intro k h3 h7
 have l6:=(Array.getElem?_eq_some_iff.1 (hi.row hon)).1
 refine hB.k k (by omega) ?_
 rintro(h|h)
 ·omega
 ·have:=hO _ h;omega
theorem ug.next {w:World}{src:ByteArray}{s:LS}{W W2:World}{num:Nat}{f':Pl.aL}(hi:ug w src s W)(hon:s.on=true)(hn:s.n<num){ws:List ByteArray}(hf:Pl.bM s.f ws=.ok f'){v1 v2 v3 v4 u1 u2 u3 u4:Value}(hO: ∀i,Oy v1 v2 v3 v4 i->w.heap.size+7<=i)(hB:aU (w.heap.size+2) (Oz (w.heap.size+2) v1 v2 v3 v4) W W2)
  (hF:fu (w.heap.size+2) f' W2 u1 u2 u3 u4) (hN:New (Oz (w.heap.size+2) v1 v2 v3 v4) W.heap.size u1 u2 u3 u4):ug w src ⟨f',num,true,none⟩ W2:=by
 have hm:=hi.mid hon hO hB
 have l6:=(Array.getElem?_eq_some_iff.1 (hi.row hon)).1
 refine⟨hi.below.trans (hB.b.mono (by omega)),(hB.b.block _ (by omega)).trans hi.r1,(hB.b.block _ (by omega)).trans hi.r2,⟨u1,u2,u3,u4,hF,fun i h=> ?_⟩,(hm _ (by omega) (by omega)).trans hi.sr,(Pl.Io hi.le hf).more (show s.n+1<=num from hn),fun _=>(hm _ (by omega) (by omega)).trans (hi.row hon),fun e=>(by cases e),fun x hx=>(by cases hx)⟩
 rcases hN i h with (h'|h')|h'
 ·have:=(hF.oy h).1;omega
 ·exact hO _ h'
 ·omega
theorem Seg.z_ {α:Type}{enc:α->List Value}{size n B:Nat}{w w':World}{A:Option Addr}{l:List α}(h:Seg enc size w B A l)(hA:From n A)(hk: ∀b,n<=b->b<B->w'.heap[b]?=w.heap[b]?):Seg enc size w' B A l:=by
 rcases h with h|⟨b,off,hb,hlt,hc⟩
 ·exact .inl h
 ·exact .inr ⟨b,off,hb,hlt,fun k x hx j v hv=>(World.cell?_of_block (hk b (hA _ hb) hlt)).trans (hc k x hx j v hv)⟩
theorem bB.z_ {n B:Nat}{w w':World}{A1 A2 A3 A4:Option Addr}{f:Pl.aL}(h:bB w B A1 A2 A3 A4 f)(h1:From n A1)(h2:From n A2)(h3:From n A3)(h4:From n A4)(hk: ∀b,n<=b->b<B->w'.heap[b]?=w.heap[b]?):bB w' B A1 A2 A3 A4 f:=
 ⟨h.st.z_ h1 hk,h.li.z_ h2 hk,h.pa.z_ h3 hk,h.va.z_ h4 hk⟩
theorem L8 {f:Pl.aL}{ws:List ByteArray}{E:Int}(h:Pl.bM f ws=.error E):0<E:=by
 unfold Pl.bM at h
 split at h
 ·unfold Pl.added at h
  split at h
  ·cases h
  ·cases h
  ·split at h
   ·split at h
    ·cases h
    ·cases h;decide
   ·cases h;decide
  ·cases h
 ·cases h;decide
def Yz (w:World)(src:ByteArray)(x:LX)(a':Act)(_W:World):Prop:=
 a'= {tmps:= #[.string src,undef,.pointer (some ⟨w.heap.size,0,none⟩),.pointer (some ⟨w.heap.size+1,0,none⟩),.pointer (some ⟨w.heap.size+2,0,none⟩),.int .i64 (x.1:Int),.slice (some ⟨x.2.1,0,none⟩) x.2.2.2.length x.2.2.1,undef,undef,.string src,.int .i64 src.size,.bool (decide (20000<(src.size:Int))),undef,undef,.string src,.func (.func 144) #[] #[.pointer (some ⟨w.heap.size+3,0,none⟩)],.int .i64 (x.1:Int),.slice (some ⟨x.2.1,0,none⟩) x.2.2.2.length x.2.2.1,undef,undef,undef,undef,undef,undef,undef,undef,undef,undef,undef,undef,undef,undef,undef,undef,undef],defers:=[]}
attribute [-go_sem] storeVar
theorem BG (src:ByteArray)(w:World)(hE:Env w)(hs:src.size<=20000):Calls prog 19 #[.string src] w (Ru (Pl.gU src) w):=by
 refine(callsIn_wide (n:=3)).1 ?_
 refine callsIn_of_wp_marks func19 rfl trivial ?_ rfl
 simp only[ntmps19,List.size_toArray,List.length_cons,List.length_nil,Nat.reduceAdd,Nat.reduceSub,Array.replicate_succ,Array.replicate_zero,List.push_toArray,List.append_toArray,List.nil_append,List.cons_append]
 gi_wp2_with (refine⟨trivial,?_⟩;gi_at_call 72;refine(callsIn_wide.2 (Iy _ _)).mono ?_;rintro e w' ⟨rfl,rfl⟩)
 obtain⟨W0,hW0⟩: ∃W0,(((w.alloc (.cells #[.slice none 0 0,.slice none 0 0,.slice none 0 0,.slice none 0 0] 28)).alloc (.cells (i2 0 0) 31)).alloc (.cells #[.slice none 0 0,.slice none 0 0,.slice none 0 0,.slice none 0 0] 28)).alloc (.cells #[.string src] 9)=W0:=⟨_,rfl⟩
 have hs0:W0.heap.size=w.heap.size+4:=by rw[<-hW0];simp
 rw[hW0]
 refine l5 (F:=Fence.wide) (encs:=LM) rfl (by omega) (gf:=144) (lb:= #[.pointer (some ⟨w.heap.size+3,0,none⟩)]) (by simp[go_sem]) trivial (enters_of func144 (by kernel_rfl) rfl) (fun _=>rfl)
  xO ⟨Pl.aL.none,0,false,none⟩ (WT src) (WU src) Ti (ug w src) (Si w) (Yz w src) ?put ?Rv ?FX ?start ?seq ?assign ?body ?done ?stop
 case put=>
  intro s W r r' hl h
  rw[hs0]at hl ⊢
  exact h.putObj r' hl
 case Rv=>
  intro s x W r r' hl h
  rw[hs0]
  exact h.putObj r'
 case FX=>
  intro x a' W r r' hl h
  exact h
 case start=>
  intro r
  have hb:Below W0.heap.size W0 ((W0.alloc (.deferred (some []))).alloc (.loop r)):=((Below.refl _ W0).alloc (Nat.le_refl _) _).alloc (by simp) _
  have hbw:Below w.heap.size w W0:=by
   rw[<-hW0]
   exact((((Below.refl _ w).alloc (Nat.le_refl _) _).alloc (by simp) _).alloc (by simp;omega) _).alloc (by simp;omega) _
  have e0:W0.heap[w.heap.size]?=some (.cells #[.slice none 0 0,.slice none 0 0,.slice none 0 0,.slice none 0 0] 28 (0,0)):=by
   rw[<-hW0];exact(Below.heap_alloc _ _ _ (by simp;omega)).trans ((Below.heap_alloc _ _ _ (by simp;omega)).trans ((Below.heap_alloc _ _ _ (by simp)).trans (World.alloc_heap_new w _)))
  have e1:W0.heap[w.heap.size+1]?=some (.cells (i2 0 0) 31 (0,0)):=by
   rw[<-hW0];refine(Below.heap_alloc _ _ _ (by simp)).trans ((Below.heap_alloc _ _ _ (by simp)).trans ?_)
   have:=World.alloc_heap_new (w.alloc (.cells #[.slice none 0 0,.slice none 0 0,.slice none 0 0,.slice none 0 0] 28)) (.cells (i2 0 0) 31)
   rwa[World.size_alloc]at this
  have e2:W0.heap[w.heap.size+2]?=some (.cells #[.slice none 0 0,.slice none 0 0,.slice none 0 0,.slice none 0 0] 28 (0,0)):=by
   rw[<-hW0];refine(Below.heap_alloc _ _ _ (by simp)).trans ?_
   have:=World.alloc_heap_new ((w.alloc (.cells #[.slice none 0 0,.slice none 0 0,.slice none 0 0,.slice none 0 0] 28)).alloc (.cells (i2 0 0) 31)) (.cells #[.slice none 0 0,.slice none 0 0,.slice none 0 0,.slice none 0 0] 28)
   rwa[World.size_alloc,World.size_alloc]at this
  have e3:W0.heap[w.heap.size+3]?=some (.cells #[.string src] 9 (0,0)):=by
   rw[<-hW0]
   have:=World.alloc_heap_new (((w.alloc (.cells #[.slice none 0 0,.slice none 0 0,.slice none 0 0,.slice none 0 0] 28)).alloc (.cells (i2 0 0) 31)).alloc (.cells #[.slice none 0 0,.slice none 0 0,.slice none 0 0,.slice none 0 0] 28)) (.cells #[.string src] 9)
   rwa[World.size_alloc,World.size_alloc,World.size_alloc]at this
  refine⟨hbw.trans (hb.mono (by omega)),(hb.block _ (by omega)).trans e0,(hb.block _ (by omega)).trans e1,⟨_,_,_,_,⟨(hb.block _ (by omega)).trans e2,World.ownsRow_nil _ _ _ _,World.ownsRow_nil _ _ _ _,World.ownsRow_nil _ _ _ _,World.ownsRow_nil _ _ _ _⟩,fun i h=> ?_⟩,(hb.block _ (by omega)).trans e3,Pl.none_le,fun e=>(by cases e),fun _=>by simp;omega,fun x hx=>(by cases hx)⟩
  rcases h with h|h|h|h<;>cases h
 case seq=>
  rintro rec rec' W1 hY hI hl hk
  rw[hs0]at hY hl hk ⊢
  refine(JE _ w src rec rec' hE hs ?_ W1 ⟨hI,hl,hk⟩).mono ?_
  ·rintro s x W hp ⟨hi,hl,hk⟩
   exact hY s x W hp hi hl hk
  ·rintro e W' ⟨hv,h⟩
   exact⟨hv,h⟩
 case assign=>
  rintro s x W K r hp hi hl hk hK
  rw[hs0]at hl hk hK ⊢
  gi_wp2
  exact hK _ _ hi rfl hl hk
 case body=>
  rintro s ⟨num,b,c,ws⟩ a' W r ⟨hon,Tj,hn,Xc⟩ hi rfl hl hk
  rw[hs0]at hl hk ⊢
  obtain⟨hN,hc,hS,hne⟩:=hi.pend _ Tj
  obtain⟨v1,v2,v3,v4,hF,hO⟩:=hi.NV
  simp only at hN hc hS hne hn Xc
  have ow:Env W:=hE.up hi.below
  have hle:=hi.le.more (show s.n<=100000 by omega)
  have h8:=hE.size
  cases ws with
  |nil=>exact absurd rfl hne
  |cons k ws=>
  have hfl:=DX (w.heap.size+2) s.f v1 v2 v3 v4 (some ⟨b,0,none⟩) c k ws W ow hF (by omega) hN (by simpa using hc) (nG hS) hle.1 hle.2.1 hle.2.2.1 hle.2.2.2
  cases hr:Pl.bM s.f (k::ws)with
  |ok f'=>
   rw[hr]at hfl
   have HR:=Lib.hid hr
   clear hr
   gi_wp2_with fail
   refine⟨trivial,?_⟩
   refine(CallsIn.inRound _ (callsIn_wide.2 hfl)).mono ?_
   rintro e W2 ⟨hB,rfl,u1,u2,u3,u4,hF2,Nr⟩
   gi_wp2
   have hm:=hi.mid hon hO hB
   exact⟨(hm _ (by omega) (by omega)).trans hl,(hm _ (by omega) (by omega)).trans hk,⟨f',num,true,none⟩,by simp[xO,HR.out],hi.next hon hn HR.out hO hB hF2 Nr⟩
  | error E=>
   rw[hr]at hfl
   have HR:=Lib.hid hr
   have hE0:=L8 hr
   clear hr
   gi_wp2_with fail
   refine⟨trivial,?_⟩
   refine(CallsIn.inRound _ (callsIn_wide.2 hfl)).mono ?_
   rintro e W2 ⟨hB,rfl⟩
   have um:=(hB.b.block w.heap.size (by omega)).trans hi.r1
   have nZ:=(hB.b.block (w.heap.size+1) (by omega)).trans hi.r2
   obtain⟨hc1,hf1⟩:=ah um
   obtain⟨hc2,hf2⟩:=ah nZ
   obtain⟨W3,Qe,xI,hg3⟩:=aG W2 w.heap.size _ 28 _ #[.slice none 0 0,.slice none 0 0,.slice none 0 0,.slice none 0 0] um av rfl (by simp[Value.oneCell'])
   have xR:=(hg3.block (w.heap.size+1) (lO nZ) (by simp)).trans nZ
   obtain⟨W4,Ro,zX,hg4⟩:=aG W3 (w.heap.size+1) _ 31 _ (i2 E (num:Int)) xR j_ rfl (by simp[Value.oneCell'])
   have Gf:=(hg4.block w.heap.size (lO xI) (by simp)).trans xI
   clear hc1 hf1 hc2 hf2 um nZ xR hfl
   gi_wp2_with fail
   have hm:=hi.mid hon hO hB
   have keep: ∀k,w.heap.size+2<=k->k<W2.heap.size->W4.heap[k]?=W2.heap[k]?:=fun k h2 h3=>
    (hg4.block k (by have:=hg3.size;omega) (by simp;omega)).trans (hg3.block k h3 (by simp;omega))
   have l6:=(Array.getElem?_eq_some_iff.1 ((hm (w.heap.size+6) (by omega) (by omega)).trans (hi.row hon))).1
   have hbel:Below w.heap.size w W4:=((hi.below.trans (hB.b.mono (by omega))).grown hg3 (by omega) (fun k e=>by cases e;omega)).grown hg4 (by have:=hg3.size;omega) (fun k e=>by cases e;omega)
   exact⟨(keep _ (by omega) (by omega)).trans ((hm _ (by omega) (by omega)).trans hl),(keep _ (by omega) (by omega)).trans ((hm _ (by omega) (by omega)).trans hk),by simp[xO,HR.out],E,HR.out,hbel,Gf,zX⟩
 case done=>
  rintro s1 W hd hi hk
  rw[hs0]at hk
  obtain⟨hrun,hon⟩:=hd
  obtain⟨v1,v2,v3,v4,hF,hO⟩:=hi.NV
  obtain⟨A1,d1,rfl,_⟩:=dQ vS hF.o1
  obtain⟨A2,d2,rfl,_⟩:=dQ gy hF.o2
  obtain⟨A3,d3,rfl,_⟩:=dQ vT hF.o3
  obtain⟨A4,d4,rfl,_⟩:=dQ vU hF.o4
  obtain⟨hfs,hcp⟩:=fu.NV A1 A2 A3 A4 d1 d2 d3 d4 s1.f hF
  have hlen:((Pl.splitV 10 src).map Pl.aW).length<=90000:=by have:=mZ 10 src;simp;omega
  obtain⟨hnm,hle⟩:=Pl.uh _ _ _ _ _ Pl.Pe Pl.none_le hrun
  have hle:=hle.more (show 0+((Pl.splitV 10 src).map Pl.aW).length<=100000 by omega)
  have hsm:Small s1.f:=⟨hle.1,hle.2.1,hle.2.2.1,hle.2.2.2,hnm.1,hnm.2.1,hnm.2.2⟩
  obtain⟨E,hE1⟩: ∃E,Pl.aR s1.f=E:=⟨_,rfl⟩
  have HE:=Lib.hid hE1
  have hp:Hid (Pl.gU src=if E=0 then (s1.f,0,0)else (Pl.aL.none,E,0)):=Lib.hid (by
   unfold Pl.gU
   rw[if_neg (by omega),Pl.sI,Pl.l8]
   rw[show Pl.dL Pl.aL.none 0 ((Pl.splitV 10 src).map Pl.aW)=.ok s1.f from hrun]
   simp only[hE1])
  have hck:=bX A1 A2 A3 A4 d1 d2 d3 d4 s1.f E W HE hfs hsm hcp
  obtain⟨hcb,ru⟩:=ah hF.box
  have l4:=(lO hk)
  have um:=hi.r1
  have nZ:=hi.r2
  have Vx:=hF.box
  have hbw:=hi.below
  have hoff: ∀p,p<w.heap.size+5->p<W.heap.size:=fun p hp=>by omega
  have F1:From (w.heap.size+7) A1:=fun a ha=>hO _ (.inl (by rw[ha];rfl))
  have F2:From (w.heap.size+7) A2:=fun a ha=>hO _ (.inr (.inl (by rw[ha];rfl)))
  have F3:From (w.heap.size+7) A3:=fun a ha=>hO _ (.inr (.inr (.inl (by rw[ha];rfl))))
  have F4:From (w.heap.size+7) A4:=fun a ha=>hO _ (.inr (.inr (.inr (by rw[ha];rfl))))
  clear hE1 hrun hi hF hO hle hnm hlen
  gi_wp2_with fail
  refine⟨trivial,?_⟩
  refine(callsIn_wide.2 hck).mono ?_
  rintro e W2 ⟨rfl,hx⟩
  have hsz2:=hx.size
  have hk2:=(hx.block _ l4).trans hk
  have um:=(hx.block _ (hoff _ (by omega))).trans um
  have nZ:=(hx.block _ (hoff _ (by omega))).trans nZ
  have Vx:=(hx.block _ (hoff _ (by omega))).trans Vx
  obtain⟨hcb,ru⟩:=ah Vx
  have Vy:=hfs.up hx
  have hbw2:=hbw.trans (hx.mono hbw.size)
  by_cases h0:E=0
  ·subst h0
   obtain⟨W3,Qe,xI,hg3⟩:=aG W2 w.heap.size _ 28 _ (fq A1 A2 A3 A4 d1 d2 d3 d4 s1.f) um av rfl (by simp[Value.oneCell'])
   have xR:=(hg3.block (w.heap.size+1) (lO nZ) (by simp)).trans nZ
   obtain⟨W4,Ro,zX,hg4⟩:=aG W3 (w.heap.size+1) _ 31 _ (i2 0 0) xR j_ rfl (by simp[Value.oneCell'])
   have Gf:=(hg4.block w.heap.size (lO xI) (by simp)).trans xI
   clear um nZ xR
   gi_wp2_with fail
   have keep: ∀k,k≠w.heap.size->k≠w.heap.size+1->k<W2.heap.size->W4.heap[k]?=W2.heap[k]?:=fun k h1 h2 h3=>
    (hg4.block k (by have:=hg3.size;omega) (by simp;omega)).trans (hg3.block k h3 (by simp;omega))
   have hk4:=(keep (w.heap.size+4) (by omega) (by omega) (by omega)).trans hk2
   have wJ:W2.heap.size<=W4.heap.size:=Nat.le_trans hg3.size hg4.size
   have hbel:Below w.heap.size w W4:=(hbw2.grown hg3 (by omega) (fun k e=>by cases e;omega)).grown hg4 (by have:=hg3.size;omega) (fun k e=>by cases e;omega)
   have hb4:Below w.heap.size w (W4.putObj (w.heap.size+4) (.deferred none)):=hbel.grown (grownBy_putObj' W4 (w.heap.size+4) (.deferred none)) hbel.size (fun k e=>by cases e;omega)
   have g1:=(World.putObj_heap_other (w:=W4) (o:=.deferred none) (show w.heap.size≠w.heap.size+4 by omega)).trans Gf
   have g2:=(World.putObj_heap_other (w:=W4) (o:=.deferred none) (show w.heap.size+1≠w.heap.size+4 by omega)).trans zX
   obtain⟨hd1,he1⟩:=ah g1
   obtain⟨hd2,he2⟩:=ah g2
   refine⟨by simp,.inl ⟨_,_,rfl,run_takeDeferred hk4,?_⟩⟩
   have hfin:bB (W4.putObj (w.heap.size+4) (.deferred none)) (W4.putObj (w.heap.size+4) (.deferred none)).heap.size A1 A2 A3 A4 s1.f:=by
    have h:=Vy.z_ F1 F2 F3 F4 (w':=W4.putObj (w.heap.size+4) (.deferred none)) fun b h1 h2=>(World.putObj_heap_other (by omega)).trans (keep b (by omega) (by omega) h2)
    have hz:W2.heap.size<=(W4.putObj (w.heap.size+4) (.deferred none)).heap.size:=by simpa [World.putObj]using wJ
    exact⟨h.st.more hz,h.li.more hz,h.pa.more hz,h.va.more hz⟩
   have HP:Pl.gU src=(s1.f,0,0):=by rw[hp.out];simp
   rw[HP]
   refine⟨.tuple #[.agg (fq A1 A2 A3 A4 d1 d2 d3 d4 s1.f),.agg (i2 0 0)],?_,A1,d1,A2,d2,A3,d3,A4,d4,rfl,hfin,hcp,hb4⟩
   simp[results,results19,go_sem,hd1,hd2]
  ·have hne:(E !=0)=true:=by simpa using h0
   obtain⟨W3,Qe,xI,hg3⟩:=aG W2 w.heap.size _ 28 _ #[.slice none 0 0,.slice none 0 0,.slice none 0 0,.slice none 0 0] um av rfl (by simp[Value.oneCell'])
   have xR:=(hg3.block (w.heap.size+1) (lO nZ) (by simp)).trans nZ
   obtain⟨W4,Ro,zX,hg4⟩:=aG W3 (w.heap.size+1) _ 31 _ (i2 E 0) xR j_ rfl (by simp[Value.oneCell'])
   have Gf:=(hg4.block w.heap.size (lO xI) (by simp)).trans xI
   clear um nZ xR
   gi_wp2_with fail
   have keep: ∀k,k≠w.heap.size->k≠w.heap.size+1->k<W2.heap.size->W4.heap[k]?=W2.heap[k]?:=fun k h1 h2 h3=>
    (hg4.block k (by have:=hg3.size;omega) (by simp;omega)).trans (hg3.block k h3 (by simp;omega))
   have hk4:=(keep (w.heap.size+4) (by omega) (by omega) (by omega)).trans hk2
   have wJ:W2.heap.size<=W4.heap.size:=Nat.le_trans hg3.size hg4.size
   have hbel:Below w.heap.size w W4:=(hbw2.grown hg3 (by omega) (fun k e=>by cases e;omega)).grown hg4 (by have:=hg3.size;omega) (fun k e=>by cases e;omega)
   have hb4:Below w.heap.size w (W4.putObj (w.heap.size+4) (.deferred none)):=hbel.grown (grownBy_putObj' W4 (w.heap.size+4) (.deferred none)) hbel.size (fun k e=>by cases e;omega)
   have g1:=(World.putObj_heap_other (w:=W4) (o:=.deferred none) (show w.heap.size≠w.heap.size+4 by omega)).trans Gf
   have g2:=(World.putObj_heap_other (w:=W4) (o:=.deferred none) (show w.heap.size+1≠w.heap.size+4 by omega)).trans zX
   obtain⟨hd1,he1⟩:=ah g1
   obtain⟨hd2,he2⟩:=ah g2
   refine⟨by simp,.inl ⟨_,_,rfl,run_takeDeferred hk4,?_⟩⟩
   have HP:Pl.gU src=(Pl.aL.none,E,0):=by rw[hp.out,if_neg h0]
   rw[HP]
   refine⟨.tuple #[.agg #[.slice none 0 0,.slice none 0 0,.slice none 0 0,.slice none 0 0],.agg (i2 E 0)],?_,none,0,none,0,none,0,none,0,rfl,zY _ _,zZ,hb4⟩
   simp[results,results19,go_sem,hd1,hd2]
 case stop=>
  rintro s x W ⟨E,hf,hrun⟩ ⟨E',hf',hB,hr1,hr2⟩ hk
  rw[hs0]at hk ⊢
  rw[hf]at hf'
  cases hf'
  have hp:Pl.gU src=(Pl.aL.none,E,(x.1:Int)):=by
   unfold Pl.gU
   rw[if_neg (by omega),Pl.sI,Pl.l8]
   rw[show Pl.dL Pl.aL.none 0 ((Pl.splitV 10 src).map Pl.aW)=.error (E,x.1) from hrun]
  rw[hp]
  obtain⟨hc1,hf1⟩:=ah hr1
  obtain⟨hc2,hf2⟩:=ah hr2
  clear hp hf hrun
  gi_wp2
  refine⟨by simp,.inl ⟨_,_,rfl,run_takeDeferred hk,?_⟩⟩
  have hb4:Below w.heap.size w (W.putObj (w.heap.size+4) (.deferred none)):=hB.grown (grownBy_putObj' W (w.heap.size+4) (.deferred none)) hB.size (fun k e=>by cases e;omega)
  have g1:=(World.putObj_heap_other (w:=W) (o:=.deferred none) (show w.heap.size≠w.heap.size+4 by omega)).trans hr1
  have g2:=(World.putObj_heap_other (w:=W) (o:=.deferred none) (show w.heap.size+1≠w.heap.size+4 by omega)).trans hr2
  obtain⟨hd1,he1⟩:=ah g1
  obtain⟨hd2,he2⟩:=ah g2
  refine⟨.tuple #[.agg #[.slice none 0 0,.slice none 0 0,.slice none 0 0,.slice none 0 0],.agg (i2 E (x.1:Int))],?_,none,0,none,0,none,0,none,0,rfl,zY _ _,zZ,hb4⟩
  simp[results,results19,go_sem,hd1,hd2]
