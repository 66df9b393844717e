/- Texts of mine, merged: EV, EW, EX, EY, PlR, DY. -/
import Derived.RegionTactic
import Derived.ChangeAlike
import Derived.Test.YtgbpekeoegfjpaaGreatDoorZ03
import Derived.Test.YtgbpekeoegfjpaaGreatDoorZ06
import Derived.Test.YtgbpekeoegfjpaaGreatDoorZ20
import Derived.Test.YtgbpekeoegfjpaaGreatDoorZ22
import Derived.Test.YtgbpekeoegfjpaaGreatDoorZ00
import Derived.Test.YtgbpekeoegfjpaaGreatDoorZ02
/- Walks: Back. -/
set_option maxRecDepth 100000
namespace Go.Proofs.YtgbpekeoegfjpaaGreatDoor
open Go.RowKit
variable (A1 A2 A3 A4 : Option Addr) (c1 c2 c3 c4 : Nat) (f : Pl.Fld)
attribute [-go_sem] run_equalIn_agg storeVar loadVar
attribute [local go_sem] lv_int lv_bool lv_u8 lv_string lv_vars
theorem sv_int (g i:Nat)(n:Int)(w:World):(storeVar 3 ⟨g,i,none⟩ (.int .i64 n)).run Tryz.prog w=(store ⟨g,i,none⟩ (.int .i64 n)).run Tryz.prog w:=by
 obtain⟨inf,hi,hs⟩: ∃inf,Tryz.prog.info? 3=some inf∧inf.size=1:=by
  have h:(Tryz.prog.info? 3).map (·.size)=some 1:=by kernel_rfl
  cases hq:Tryz.prog.info? 3 with
  |none=>rw[hq]at h;cases h
  |some inf=>rw[hq]at h;exact⟨inf,rfl,by simpa using h⟩
 have hz:(sizeOf 3).run Tryz.prog w=.ok 1 w:=by
  have:=run_sizeOf (P:=Tryz.prog) w hi
  rw[this,show Tryz.prog.cellsOf 3=inf.size by simp[Program.cellsOf,hi],hs]
 simp[storeVar,Sem.run_bind,hz,Value.cells,storeCells,Addr.add]
attribute [local go_sem] sv_int
noncomputable def Pl.backV (f:Pl.Fld)(c:Pl.Cal):Pl.Cal:=if Pl.checkCallE f c=0 then c.back else ⟨0,0,0,0,0,0,0,Pl.Crs.zero⟩
def calV (c:Pl.Cal):Value:=.agg (kq c)
def EndBk (c:Pl.Cal)(E:Int)(w:World)(e:Ending)(w':World):Prop:=e=.returned (.tuple #[calV c,.int .i64 E])∧Below w.heap.size w w'
theorem back_w (c:Pl.Cal)(w:World): ∃W0,((w.alloc (.cells (fq A1 A2 A3 A4 c1 c2 c3 c4 f) 28)).alloc (.cells (kq c) 48)).alloc (.cells z13 48)=W0∧
  W0.heap[w.heap.size]?=some (.cells (fq A1 A2 A3 A4 c1 c2 c3 c4 f) 28 (0,0))∧W0.heap[w.heap.size+1]?=some (.cells (kq c) 48 (0,0))∧W0.heap[w.heap.size+2]?=some (.cells z13 48 (0,0))∧Below w.heap.size w W0:=by
 refine⟨_,rfl,?_,?_,?_,(((Below.refl _ w).alloc (Nat.le_refl _) _).alloc (by simp) _).alloc (by simp only[World.size_alloc];omega) _⟩
 ·have kf:=(heap_alloc_new w (.cells (fq A1 A2 A3 A4 c1 c2 c3 c4 f) 28))
  have kf:=(Below.heap_alloc _ (.cells (kq c) 48) _ (lO kf)).trans kf
  exact(Below.heap_alloc _ (.cells z13 48) _ (lO kf)).trans kf
 ·have kc:=(heap_alloc_new (w.alloc (.cells (fq A1 A2 A3 A4 c1 c2 c3 c4 f) 28)) (.cells (kq c) 48))
  rw[World.size_alloc]at kc
  exact(Below.heap_alloc _ (.cells z13 48) _ (lO kc)).trans kc
 ·have kr:=(heap_alloc_new ((w.alloc (.cells (fq A1 A2 A3 A4 c1 c2 c3 c4 f) 28)).alloc (.cells (kq c) 48)) (.cells z13 48))
  simp only[World.size_alloc]at kr
  exact kr
set_option maxHeartbeats 2000000 in
theorem Back_no (c:Pl.Cal)(E:Int)(w:World)(hf:FldS w w.heap.size A1 A2 A3 A4 f)(hm:Small f)(hc:Caps c1 c2 c3 c4 f)(hk:c.kind<=255)(HC:Hid (Pl.checkCallE f c=E))(h0:E≠0):
  Calls Tryz.prog 66 #[.agg (fq A1 A2 A3 A4 c1 c2 c3 c4 f),.agg (kq c)] w (EndBk (Pl.backV f c) (Pl.checkCallE f c) w):=by
 have hv:Hid (Pl.backV f c=⟨0,0,0,0,0,0,0,Pl.Crs.zero⟩):=Lib.hid (by unfold Pl.backV;rw[HC.out,if_neg h0])
 obtain⟨W0,hW0,kf,kc,kr,hall⟩:=back_w A1 A2 A3 A4 c1 c2 c3 c4 f c w
 have l01:=ld_row kf Tryz.underlying28 rfl info_fld
 have l02:=ld_row kc Tryz.underlying48 rfl info_cal
 go_enter Tryz.func66,Tryz.ntmps66
 go_wp2_with (go_at_call 38;refine(checkCall_h A1 A2 A3 A4 c1 c2 c3 c4 f c E _ HC (hf.up hall) hm hc hk).mono ?_;rintro e w1 ⟨rfl,hx⟩;clear l01 l02;have kf:=kE hx kf;have kc:=kE hx kc;have kr:=kE hx kr;have hall:Below w.heap.size w w1:=hall.trans (hx.mono hall.size);clear hx;obtain⟨W2,st2,kr2,hg2⟩:=st_row w1 (w.heap.size+2) _ 48 _ z13 kr info_cal rfl (by simp[Value.oneCell']);have l2:=ld_row kr2 Tryz.underlying48 rfl info_cal;have hB2:Below w.heap.size w W2:=hall.grown hg2 hall.size (fun k e=>by cases e;omega))
 refine bodyPost_ret (v:=.tuple #[.agg z13,.int .i64 E]) (by simp[results,Tryz.results66,go_sem,l2]) rfl ?_
 rw[hv.out,HC.out]
 exact⟨rfl,hB2⟩
set_option maxHeartbeats 2000000 in
theorem Back_same (c:Pl.Cal)(w:World)(hf:FldS w w.heap.size A1 A2 A3 A4 f)(hm:Small f)(hc:Caps c1 c2 c3 c4 f)(hk:c.kind<=255)(HC:Hid (Pl.checkCallE f c=0))(h3:c.kind≠3)(h5:c.kind≠5):
  Calls Tryz.prog 66 #[.agg (fq A1 A2 A3 A4 c1 c2 c3 c4 f),.agg (kq c)] w (EndBk (Pl.backV f c) (Pl.checkCallE f c) w):=by
 have hv:Hid (Pl.backV f c=c):=Lib.hid (by unfold Pl.backV Pl.Cal.back;rw[if_pos HC.out,if_neg h5,if_neg h3])
 have h3': ¬(c.kind:Int)=3:=by omega
 have h5': ¬(c.kind:Int)=5:=by omega
 obtain⟨W0,hW0,kf,kc,kr,hall⟩:=back_w A1 A2 A3 A4 c1 c2 c3 c4 f c w
 have l01:=ld_row kf Tryz.underlying28 rfl info_fld
 have l02:=ld_row kc Tryz.underlying48 rfl info_cal
 go_enter Tryz.func66,Tryz.ntmps66
 go_wp2_with (go_at_call 38;refine(checkCall_h A1 A2 A3 A4 c1 c2 c3 c4 f c 0 _ HC (hf.up hall) hm hc hk).mono ?_;rintro e w1 ⟨rfl,hx⟩;clear l01 l02;have kf:=kE hx kf;have kc:=kE hx kc;have kr:=kE hx kr;have hall:Below w.heap.size w w1:=hall.trans (hx.mono hall.size);clear hx;have l1:=ld_row kc Tryz.underlying48 rfl info_cal;obtain⟨hcc,hfc⟩:=blk_cells kc;obtain⟨W2,st2,kr2,hg2⟩:=st_row w1 (w.heap.size+2) _ 48 _ (kq c) kr info_cal rfl (by simp[Value.oneCell']);have l2:=ld_row kr2 Tryz.underlying48 rfl info_cal;have hB2:Below w.heap.size w W2:=hall.grown hg2 hall.size (fun k e=>by cases e;omega))
 refine bodyPost_ret (v:=.tuple #[.agg (kq c),.int .i64 0]) (by simp[results,Tryz.results66,go_sem,l2]) rfl ?_
 rw[hv.out,HC.out]
 exact⟨rfl,hB2⟩
theorem back_lv (c:Pl.Cal)(w w1:World)(kc:w1.heap[w.heap.size+1]?=some (.cells (kkq 5 c) 48 (0,0)))(kr:w1.heap[w.heap.size+2]?=some (.cells z13 48 (0,0)))(hall:Below w.heap.size w w1):
  ∃W3 W2,((w1.setCell ⟨w.heap.size+1,3,none⟩ (.int .i64 c.till)).setCell ⟨w.heap.size+1,4,none⟩ (.int .i64 c.fr)).setCell ⟨w.heap.size+1,5,none⟩ (.int .i64 (-c.size))=W3∧(loadVar 48 ⟨w.heap.size+1,0,none⟩).run Tryz.prog W3=.ok (.agg (kA13 5 c.lim c.oth c.till c.fr (-c.size) c.er c.crs.b c.crs.n c.crs.l c.crs.y c.crs.x c.crs.s)) W3∧(storeVar 48 ⟨w.heap.size+2,0,none⟩ (.agg (kA13 5 c.lim c.oth c.till c.fr (-c.size) c.er c.crs.b c.crs.n c.crs.l c.crs.y c.crs.x c.crs.s))).run Tryz.prog W3=.ok () W2∧(loadVar 48 ⟨w.heap.size+2,0,none⟩).run Tryz.prog W2=.ok (.agg (kA13 5 c.lim c.oth c.till c.fr (-c.size) c.er c.crs.b c.crs.n c.crs.l c.crs.y c.crs.x c.crs.s)) W2∧Below w.heap.size w W2:=by
 obtain⟨W3,hW3⟩: ∃W3,((w1.setCell ⟨w.heap.size+1,3,none⟩ (.int .i64 c.till)).setCell ⟨w.heap.size+1,4,none⟩ (.int .i64 c.fr)).setCell ⟨w.heap.size+1,5,none⟩ (.int .i64 (-c.size))=W3:=⟨_,rfl⟩
 have kc3:W3.heap[w.heap.size+1]?=some (.cells (kA13 5 c.lim c.oth c.till c.fr (-c.size) c.er c.crs.b c.crs.n c.crs.l c.crs.y c.crs.x c.crs.s) 48 (0,0)):=by
  rw[<-hW3]
  exact heap_setCell_same _ _ 5 _ _ _ (heap_setCell_same _ _ 4 _ _ _ (heap_setCell_same _ _ 3 _ _ _ kc))
 have kr3:W3.heap[w.heap.size+2]?=some (.cells z13 48 (0,0)):=by
  rw[<-hW3]
  exact(Below.heap_setCell _ _ _ _ (show w.heap.size+2≠w.heap.size+1 by omega)).trans ((Below.heap_setCell _ _ _ _ (show w.heap.size+2≠w.heap.size+1 by omega)).trans ((Below.heap_setCell _ _ _ _ (show w.heap.size+2≠w.heap.size+1 by omega)).trans kr))
 have hall3:Below w.heap.size w W3:=by
  rw[<-hW3]
  exact((hall.setCell (p:=⟨w.heap.size+1,3,none⟩) (Nat.le_succ _) _).setCell (p:=⟨w.heap.size+1,4,none⟩) (Nat.le_succ _) _).setCell (p:=⟨w.heap.size+1,5,none⟩) (Nat.le_succ _) _
 have l3:=ld_row kc3 Tryz.underlying48 rfl info_cal
 obtain⟨W2,st2,kr2,hg2⟩:=st_row W3 (w.heap.size+2) _ 48 _ (kA13 5 c.lim c.oth c.till c.fr (-c.size) c.er c.crs.b c.crs.n c.crs.l c.crs.y c.crs.x c.crs.s) kr3 info_cal rfl (by simp[Value.oneCell'])
 exact⟨W3,W2,hW3,l3,st2,ld_row kr2 Tryz.underlying48 rfl info_cal,hall3.grown hg2 hall3.size (fun k e=>by cases e;omega)⟩
set_option maxHeartbeats 2000000 in
theorem Back_level (c:Pl.Cal)(w:World)(hf:FldS w w.heap.size A1 A2 A3 A4 f)(hm:Small f)(hc:Caps c1 c2 c3 c4 f)(hk:c.kind<=255)(HC:Hid (Pl.checkCallE f c=0))(h5:c.kind=5):
  Calls Tryz.prog 66 #[.agg (fq A1 A2 A3 A4 c1 c2 c3 c4 f),.agg (kq c)] w (EndBk (Pl.backV f c) (Pl.checkCallE f c) w):=by
 have hv:Hid (Pl.backV f c= {c with fr:=c.till,till:=c.fr,size:= -c.size}):=Lib.hid (by unfold Pl.backV Pl.Cal.back;rw[if_pos HC.out,if_pos h5])
 have h5':(c.kind:Int)=5:=by omega
 obtain⟨_,ht⟩:=tab_of HC.out
 have hsz: -100000<=c.size∧c.size<=100000:=by have:=ht.2.2;omega
 have hng:IntKind.i64.wrap (-c.size)= -c.size:=IntWalk.i64_in _ (by omega)
 obtain⟨W0,hW0,kf,kc,kr,hall⟩:=back_w A1 A2 A3 A4 c1 c2 c3 c4 f c w
 have l01:=ld_row kf Tryz.underlying28 rfl info_fld
 have l02:=ld_row kc Tryz.underlying48 rfl info_cal
 have hcall:=fun W (hf:FldS W W.heap.size A1 A2 A3 A4 f)=>checkCall_h A1 A2 A3 A4 c1 c2 c3 c4 f c 0 W HC hf hm hc hk
 simp only[h5']at hcall hW0 kc l02
 clear h5'
 go_enter Tryz.func66,Tryz.ntmps66
 go_wp2_with (go_at_call 38;refine(hcall _ (hf.up hall)).mono ?_;rintro e w1 ⟨rfl,hx⟩;clear l01 l02;have kf:=kE hx kf;have kc:=kE hx kc;have kr:=kE hx kr;have hall:Below w.heap.size w w1:=hall.trans (hx.mono hall.size);clear hx;obtain⟨hcc,hfc⟩:=blk_cells kc;obtain⟨W3,W2,hW3,l3,st2,l2,hB2⟩:=back_lv c w w1 kc kr hall)
 refine bodyPost_ret (v:=.tuple #[.agg (kA13 5 c.lim c.oth c.till c.fr (-c.size) c.er c.crs.b c.crs.n c.crs.l c.crs.y c.crs.x c.crs.s),.int .i64 0]) (by simp[results,Tryz.results66,go_sem,l2]) rfl ?_
 rw[hv.out,HC.out]
 refine⟨?_,hB2⟩
 unfold calV
 simp only[h5]
 rfl
end Go.Proofs.YtgbpekeoegfjpaaGreatDoor
/- Walks: Back of a course. -/
namespace Go.Proofs.YtgbpekeoegfjpaaGreatDoor
open Go.RowKit
variable (A1 A2 A3 A4 : Option Addr) (c1 c2 c3 c4 : Nat) (f : Pl.Fld)
attribute [-go_sem] run_equalIn_agg storeVar loadVar
attribute [local go_sem] lv_int lv_bool lv_u8 lv_string lv_vars sv_int
theorem size_of {t:TypeId}{n:Nat}(h:(Tryz.prog.info? t).map (·.size)=some n)(w:World):(sizeOf t).run Tryz.prog w=.ok n w:=by
 obtain⟨inf,hi,hs⟩: ∃inf,Tryz.prog.info? t=some inf∧inf.size=n:=by
  cases hq:Tryz.prog.info? t with
  |none=>rw[hq]at h;cases h
  |some inf=>rw[hq]at h;exact⟨inf,rfl,by simpa using h⟩
 have:=run_sizeOf (P:=Tryz.prog) w hi
 rw[this,show Tryz.prog.cellsOf t=inf.size by simp[Program.cellsOf,hi],hs]
theorem info_crs :(Tryz.prog.info? 46).map (·.size)=some 6:=by kernel_rfl
theorem sv_course (g i:Nat)(b n l y x s:Int)(w:World):(storeVar 46 ⟨g,i,none⟩ (.agg (i6 b n l y x s))).run Tryz.prog w=
  (do store ⟨g,i,none⟩ (.int .i64 b);store ⟨g,i+1,none⟩ (.int .i64 n);store ⟨g,i+2,none⟩ (.int .i64 l);store ⟨g,i+3,none⟩ (.int .i64 y);store ⟨g,i+4,none⟩ (.int .i64 x);store ⟨g,i+5,none⟩ (.int .i64 s):Sem Unit).run Tryz.prog w:=by
 simp[storeVar,Sem.run_bind,size_of info_crs,Value.cells,storeCells,Addr.add]
theorem isAgg_crs (w:World):(isAgg 46).run Tryz.prog w=.ok true w:=by
 unfold isAgg
 rw[Sem.run_bind,run_underlying Tryz.underlying46 w]
 rfl
theorem at_assoc {α β γ:Type}(r:Result α)(f:α->World->Result β)(g:β->World->Result γ):(r.andThen f).andThen g=r.andThen fun a w=>(f a w).andThen g:=by cases r<;>rfl
theorem lv_course (g i:Nat)(w:World):(loadVar 46 ⟨g,i,none⟩).run Tryz.prog w=
  (do let b←load ⟨g,i,none⟩;let n←load ⟨g,i+1,none⟩;let l←load ⟨g,i+2,none⟩;let y←load ⟨g,i+3,none⟩;let x←load ⟨g,i+4,none⟩;let s←load ⟨g,i+5,none⟩;pure (.agg #[b,n,l,y,x,s]):Sem Value).run Tryz.prog w:=by
 simp only[loadVar,Sem.run_bind,isAgg_crs,size_of info_crs,loadCells,loadCellsFrom,Addr.add,Result.andThen_ok,if_true,Sem.run_pure,Nat.add_zero,Nat.reduceAdd,Nat.zero_add]
 simp[at_assoc]
structure BkS (w:World)(z cs:Array Value)(W:World):Prop where
 kc:W.heap[w.heap.size+1]?=some (.cells cs 48 (0,0))
 kr:W.heap[w.heap.size+2]?=some (.cells z 48 (0,0))
 all:Below w.heap.size w W
theorem BkS.set {w:World}{z cs:Array Value}{W:World}(h:BkS w z cs W)(o:Nat)(v:Value):BkS w z (cs.setIfInBounds o v) (W.setCell ⟨w.heap.size+1,o,none⟩ v):=
 ⟨heap_setCell_same _ _ _ _ _ _ h.kc,(Below.heap_setCell _ _ _ _ (show w.heap.size+2≠w.heap.size+1 by omega)).trans h.kr,h.all.setCell (p:=⟨w.heap.size+1,o,none⟩) (Nat.le_succ _) _⟩
theorem BkS.drew {w:World}{z cs:Array Value}{W:World}(h:BkS w z cs W):BkS w z cs W.drew:=⟨h.kc,h.kr,h.all.drew⟩
theorem back_cs (c:Pl.Cal)(w w1:World)(kc:w1.heap[w.heap.size+1]?=some (.cells (kkq 3 c) 48 (0,0)))(kr:w1.heap[w.heap.size+2]?=some (.cells z13 48 (0,0)))(hall:Below w.heap.size w w1):
  ∃W3 W2,(((((((((w1).setCell ⟨w.heap.size+1,3,none⟩ (.int .i64 c.till)).setCell ⟨w.heap.size+1,4,none⟩ (.int .i64 c.fr)).setCell ⟨w.heap.size+1,7,none⟩ (.int .i64 ((c.crs.b+180)%360))).setCell ⟨w.heap.size+1,8,none⟩ (.int .i64 c.crs.n)).setCell ⟨w.heap.size+1,9,none⟩ (.int .i64 c.crs.l)).setCell ⟨w.heap.size+1,10,none⟩ (.int .i64 c.crs.y)).setCell ⟨w.heap.size+1,11,none⟩ (.int .i64 c.crs.x)).setCell ⟨w.heap.size+1,12,none⟩ (.int .i64 c.crs.s)).drew=W3∧(loadVar 48 ⟨w.heap.size+1,0,none⟩).run Tryz.prog W3=.ok (.agg (kA13 3 c.lim c.oth c.till c.fr c.size c.er ((c.crs.b+180)%360) c.crs.n c.crs.l c.crs.y c.crs.x c.crs.s)) W3∧(storeVar 48 ⟨w.heap.size+2,0,none⟩ (.agg (kA13 3 c.lim c.oth c.till c.fr c.size c.er ((c.crs.b+180)%360) c.crs.n c.crs.l c.crs.y c.crs.x c.crs.s))).run Tryz.prog W3=.ok () W2∧(loadVar 48 ⟨w.heap.size+2,0,none⟩).run Tryz.prog W2=.ok (.agg (kA13 3 c.lim c.oth c.till c.fr c.size c.er ((c.crs.b+180)%360) c.crs.n c.crs.l c.crs.y c.crs.x c.crs.s)) W2∧Below w.heap.size w W2:=by
 obtain⟨W3,hW3⟩: ∃W3,(((((((((w1).setCell ⟨w.heap.size+1,3,none⟩ (.int .i64 c.till)).setCell ⟨w.heap.size+1,4,none⟩ (.int .i64 c.fr)).setCell ⟨w.heap.size+1,7,none⟩ (.int .i64 ((c.crs.b+180)%360))).setCell ⟨w.heap.size+1,8,none⟩ (.int .i64 c.crs.n)).setCell ⟨w.heap.size+1,9,none⟩ (.int .i64 c.crs.l)).setCell ⟨w.heap.size+1,10,none⟩ (.int .i64 c.crs.y)).setCell ⟨w.heap.size+1,11,none⟩ (.int .i64 c.crs.x)).setCell ⟨w.heap.size+1,12,none⟩ (.int .i64 c.crs.s)).drew=W3:=⟨_,rfl⟩
 have H:=(((((((((BkS.mk kc kr hall:BkS w _ _ w1).set 3 (.int .i64 c.till)).set 4 (.int .i64 c.fr)).set 7 (.int .i64 ((c.crs.b+180)%360))).set 8 (.int .i64 c.crs.n)).set 9 (.int .i64 c.crs.l)).set 10 (.int .i64 c.crs.y)).set 11 (.int .i64 c.crs.x)).set 12 (.int .i64 c.crs.s)).drew
 rw[hW3]at H
 simp only[List.setIfInBounds_toArray,List.set_cons_succ,List.set_cons_zero]at H
 have kc3:=H.kc
 have kr3:=H.kr
 have hall3:=H.all
 have l3:=ld_row kc3 Tryz.underlying48 rfl info_cal
 obtain⟨W2,st2,kr2,hg2⟩:=st_row W3 (w.heap.size+2) _ 48 _ (kA13 3 c.lim c.oth c.till c.fr c.size c.er ((c.crs.b+180)%360) c.crs.n c.crs.l c.crs.y c.crs.x c.crs.s) kr3 info_cal rfl (by simp[Value.oneCell'])
 exact⟨W3,W2,hW3,l3,st2,ld_row kr2 Tryz.underlying48 rfl info_cal,hall3.grown hg2 hall3.size (fun k e=>by cases e;omega)⟩
attribute [local go_sem] lv_course sv_course
set_option maxHeartbeats 2000000 in
theorem Back_course (c:Pl.Cal)(w:World)(hf:FldS w w.heap.size A1 A2 A3 A4 f)(hm:Small f)(hc:Caps c1 c2 c3 c4 f)(hk:c.kind<=255)(HC:Hid (Pl.checkCallE f c=0))(h3:c.kind=3):
  Calls Tryz.prog 66 #[.agg (fq A1 A2 A3 A4 c1 c2 c3 c4 f),.agg (kq c)] w (EndBk (Pl.backV f c) (Pl.checkCallE f c) w):=by
 have hv:Hid (Pl.backV f c= {c with fr:=c.till,till:=c.fr,crs:=c.crs.back}):=Lib.hid (by unfold Pl.backV Pl.Cal.back;rw[if_pos HC.out,if_neg (by omega),if_pos h3])
 have h3':(c.kind:Int)=3:=by omega
 have hco:c.crs.ok=true:=by
  have:=HC.out
  unfold Pl.checkCallE Pl.callE at this
  cases hq:c.crs.ok with
  |true=>rfl
  |false=>simp[hq,h3]at this;split at this<;>(try split at this)<;>simp_all
 obtain⟨W0,hW0,kf,kc,kr,hall⟩:=back_w A1 A2 A3 A4 c1 c2 c3 c4 f c w
 have l01:=ld_row kf Tryz.underlying28 rfl info_fld
 have l02:=ld_row kc Tryz.underlying48 rfl info_cal
 have hcall:=fun W (hf:FldS W W.heap.size A1 A2 A3 A4 f)=>checkCall_h A1 A2 A3 A4 c1 c2 c3 c4 f c 0 W HC hf hm hc hk
 simp only[h3']at hcall hW0 kc l02
 clear h3'
 go_enter Tryz.func66,Tryz.ntmps66
 go_wp2_with first|(go_at_call 38;refine(hcall _ (hf.up hall)).mono ?_;rintro e w1 ⟨rfl,hx⟩;clear l01 l02;have kf:=kE hx kf;have kc:=kE hx kc;have kr:=kE hx kr;have hall:Below w.heap.size w w1:=hall.trans (hx.mono hall.size);obtain⟨hcc,hfc⟩:=blk_cells kc;clear hx)|(go_at_call 136;refine(Reverse_ok c.crs _ hco).mono ?_;rintro e w2 ⟨rfl,hx⟩;have kc:=kE hx kc;have kr:=kE hx kr;have hall:Below w.heap.size w w2:=hall.trans (hx.mono hall.size);obtain⟨hcc2,hfc2⟩:=blk_cells kc;clear hx)
 have hne:w2.heap.size≠w.heap.size+1:=by have:=(lO kc);omega
 have hne':w.heap.size+1≠w2.heap.size:=fun e=>hne e.symm
 obtain⟨W4,hW4⟩: ∃W4,w2.alloc (.cells (i6 ((c.crs.b+180)%360) c.crs.n c.crs.l c.crs.y c.crs.x c.crs.s) 46)=W4:=⟨_,rfl⟩
 have k7:=heap_alloc_new w2 (.cells (i6 ((c.crs.b+180)%360) c.crs.n c.crs.l c.crs.y c.crs.x c.crs.s) 46)
 have kc:=(Below.heap_alloc _ (.cells (i6 ((c.crs.b+180)%360) c.crs.n c.crs.l c.crs.y c.crs.x c.crs.s) 46) _ (lO kc)).trans kc
 have kr:=(Below.heap_alloc _ (.cells (i6 ((c.crs.b+180)%360) c.crs.n c.crs.l c.crs.y c.crs.x c.crs.s) 46) _ (lO kr)).trans kr
 have hall:=hall.alloc hall.size (.cells (i6 ((c.crs.b+180)%360) c.crs.n c.crs.l c.crs.y c.crs.x c.crs.s) 46)
 rw[hW4]at k7 kc kr hall ⊢
 clear hcc hfc hcc2 hfc2 hW4 hcall
 generalize w2.heap.size=b7 at*
 obtain⟨hcc,hfc⟩:=blk_cells kc
 obtain⟨hc7,hf7⟩:=blk_cells k7
 go_region
 obtain⟨W3,W2,hW3,l3,st2,l2,hB2⟩:=back_cs c w W4 kc kr hall
 rw[hW3]
 clear hW3 hcc hfc hc7 hf7 k7 kc kr
 go_wp2_with fail
 refine bodyPost_ret (v:=.tuple #[.agg (kA13 3 c.lim c.oth c.till c.fr c.size c.er ((c.crs.b+180)%360) c.crs.n c.crs.l c.crs.y c.crs.x c.crs.s),.int .i64 0]) (by simp[results,Tryz.results66,go_sem,l2]) rfl ?_
 rw[hv.out,HC.out]
 refine⟨?_,hB2⟩
 unfold calV Pl.Crs.back
 simp only[h3]
 rfl
theorem Back_a (c:Pl.Cal)(w:World)(hf:FldS w w.heap.size A1 A2 A3 A4 f)(hm:Small f)(hc:Caps c1 c2 c3 c4 f)(hk:c.kind<=255):
  Calls Tryz.prog 66 #[.agg (fq A1 A2 A3 A4 c1 c2 c3 c4 f),.agg (kq c)] w (EndBk (Pl.backV f c) (Pl.checkCallE f c) w):=by
 by_cases h0:Pl.checkCallE f c=0
 ·by_cases h3:c.kind=3
  ·exact Back_course A1 A2 A3 A4 c1 c2 c3 c4 f c w hf hm hc hk (Lib.hid h0) h3
  ·by_cases h5:c.kind=5
   ·exact Back_level A1 A2 A3 A4 c1 c2 c3 c4 f c w hf hm hc hk (Lib.hid h0) h5
   ·exact Back_same A1 A2 A3 A4 c1 c2 c3 c4 f c w hf hm hc hk (Lib.hid h0) h3 h5
 ·exact Back_no A1 A2 A3 A4 c1 c2 c3 c4 f c _ w hf hm hc hk (Lib.hid rfl) h0
end Go.Proofs.YtgbpekeoegfjpaaGreatDoor
/- Walk: the iterator of the lines of a source, over whatever its caller keeps. -/
namespace Go.Proofs.YtgbpekeoegfjpaaGreatDoor
open Go.RowKit Go.Shelf
variable (A1 A2 A3 A4 : Option Addr) (c1 c2 c3 c4 : Nat) (f : Pl.Fld)
attribute [local go_sem] Oper.semAt_some
namespace Pl
variable (A1 A2 A3 A4 : Option Addr) (c1 c2 c3 c4 : Nat) (f : Pl.Fld)
def runG {σ:Type}(next:σ->Nat->List ByteArray->Option σ):Nat->σ->List (List ByteArray)->σ ⊕ (σ×Nat×List ByteArray)
 |_,s,[]=> .inl s
 |k,s,ws::r=>if ws=[]then runG next (k+1) s r else match next s (k+1) ws with
  |some s'=>runG next (k+1) s' r
  |none=> .inr (s,k+1,ws)
theorem runG_blank {σ:Type}{next:σ->Nat->List ByteArray->Option σ}{k:Nat}{s:σ}{r:List (List ByteArray)}:runG next k s ([]::r)=runG next (k+1) s r:=by rw[runG,if_pos rfl]
theorem runG_ok {σ:Type}{next:σ->Nat->List ByteArray->Option σ}{k:Nat}{s s':σ}{ws:List ByteArray}{r:List (List ByteArray)}(h:ws≠ [])(hn:next s (k+1) ws=some s'):runG next k s (ws::r)=runG next (k+1) s' r:=by rw[runG,if_neg h,hn]
theorem runG_no {σ:Type}{next:σ->Nat->List ByteArray->Option σ}{k:Nat}{s:σ}{ws:List ByteArray}{r:List (List ByteArray)}(h:ws≠ [])(hn:next s (k+1) ws=none):runG next k s (ws::r)=.inr (s,k+1,ws):=by rw[runG,if_neg h,hn]
end Pl
set_option maxHeartbeats 4000000 in
theorem lines_in {σ:Type}(n L bs:Nat)(src:ByteArray)(hsrc:src.size<=20000)(J:σ->World->Prop)(next:σ->Nat->List ByteArray->Option σ)(X:σ->Nat->List ByteArray->World->Prop)(s0:σ)
  (W1:World) (hE1:Env W1) (hb:W1.heap[bs]?=some (.cells #[.string src] 9 (0,0)))
  (h0:J s0 (W1.alloc (.cells ((Pl.splitV 10 src).map Value.string).toArray 9)))
  (hrow: ∀s W,J s W->W.heap[W1.heap.size]?=some (.cells ((Pl.splitV 10 src).map Value.string).toArray 9 (0,0)))
  (henv: ∀s W,J s W->Env W) (hup: ∀s W W',J s W->Below W.heap.size W W'->J s W')
  (hY: ∀s (k b c:Nat) (ws:List ByteArray) W,J s W->k+1<=50000->Nms W W.heap.size (some ⟨b,0,none⟩) ws->ws.length<=c->Sizes ws->ws≠ []->(∃r,Pl.runG next k s (ws::r)=Pl.runG next 0 s0 ((Pl.splitV 10 src).map Pl.wordsB))->
   YieldAt Fence.wide (n-1) Tryz.prog L #[.int .i64 ((k:Int)+1),.slice (some ⟨b,0,none⟩) ws.length c] W fun e W'=>
    (∃s',next s (k+1) ws=some s'∧e=.returned (.bool true)∧J s' W')∨(next s (k+1) ws=none∧e=.returned (.bool false)∧X s (k+1) ws W')):
  CallsIn Fence.wide n Tryz.prog 144 #[.func (.yield L) #[] #[],.pointer (some ⟨bs,0,none⟩)] W1 fun e W'=>
   (∃v,e=.returned v)∧((∃s1,Pl.runG next 0 s0 ((Pl.splitV 10 src).map Pl.wordsB)=.inl s1∧J s1 W')∨(∃s k ws,Pl.runG next 0 s0 ((Pl.splitV 10 src).map Pl.wordsB)=.inr (s,k,ws)∧X s k ws W')):=by
 refine callsIn_of_wp Tryz.func144 rfl trivial ?_ rfl
 simp only[Tryz.ntmps144,List.size_toArray,List.length_cons,List.length_nil,Nat.reduceAdd,Nat.reduceSub,Array.replicate_succ,Array.replicate_zero,List.push_toArray,List.append_toArray,List.nil_append,List.cons_append]
 obtain⟨hcs,hfs⟩:=blk_cells hb
 have hls:=splitV_le 10 src
 have hlz:=splitV_sizes 10 src
 have hsp:=splitD_a 10 src W1 hE1 (by omega)
 obtain⟨R,hR⟩: ∃R,Pl.runG next 0 s0 ((Pl.splitV 10 src).map Pl.wordsB)=R:=⟨_,rfl⟩
 rw[hR]at hY ⊢
 have hrun:Hid (Pl.runG next 0 s0 (((Pl.splitV 10 src).drop 0).map Pl.wordsB)=R):=Lib.hid hR
 clear hR
 gi_wp2_with fail
 refine⟨trivial,fun h=>(by cases h),?_⟩
 refine(callsIn_wide.2 hsp).mono ?_
 rintro e w2 ⟨rfl,rfl⟩
 generalize (W1.alloc (.cells ((Pl.splitV 10 src).map Value.string).toArray 9))=W2 at h0 ⊢
 generalize W1.heap.size=B at hrow ⊢
 clear hcs hfs hsp
 gi_wp2_with fail
 gi_loopw [9] (fun p wr=> ∃(k:Nat) (s:σ),k<=(Pl.splitV 10 src).length∧p=.int .i64 k∧J s wr∧Hid (Pl.runG next k s (((Pl.splitV 10 src).drop k).map Pl.wordsB)=R)) (fun p _=>(Pl.splitV 10 src).length-(intOf p).toNat)
 case atStart=>exact⟨0,_,by omega,rfl,h0,hrun⟩
 case round=>
  obtain⟨k,s,hk,rfl,hJ,H⟩:=hrel
  by_cases hlt:k<(Pl.splitV 10 src).length
  ·have hlt2:(Pl.splitV 10 src).drop k=(Pl.splitV 10 src)[k]::(Pl.splitV 10 src).drop (k+1):=by simp
   obtain⟨hcr,hfr⟩:=blk_cells (hrow _ _ hJ)
   have q0:wr.cell? ⟨B,k,none⟩=some (.string (Pl.splitV 10 src)[k]):=by rw[hcr];simp[hlt]
   clear hcr hfr
   have hEr:Env wr:=henv _ _ hJ
   have hz:=hlz _ (List.getElem_mem hlt)
   rw[hlt2,List.map_cons]at H
   clear hlt2
   generalize (Pl.splitV 10 src)[k]=l at q0 hz H
   have hwd:=words_a l wr hEr (by omega)
   have hws:=words_sizes l 20000 (by omega)
   generalize Pl.wordsB l=ws at hwd hws H
   gi_wp2_with fail
   refine⟨trivial,fun h=>(by cases h),?_⟩
   refine(callsIn_wide.2 hwd).mono ?_
   rintro e w3 ⟨b,c,rfl,hc,hbl,hb3,hn3⟩
   have hJ3:=hup _ _ _ hJ hb3
   by_cases hnil:ws=[]
   ·subst hnil
    gi_wp2_with fail
    refine⟨fun _ h=>(by cases h),?_⟩
    gi_wp2
    go_roundw
    case rel=>exact⟨k+1,s,by omega,by simp,hJ3,Lib.hid (Pl.runG_blank.symm.trans H.out)⟩
    case measure=>first|(simp[intOf];done)|(simp[intOf];omega)
   ·have hpos:0<ws.length:=List.length_pos_iff.2 hnil
    obtain⟨fn,tmps,assign,body,hy,hR⟩:=hY s k b c ws w3 hJ3 (by omega) hn3 hc ⟨(by have:=hws.1;show ws.length<=100000;omega),fun x hx=>by have:=hws.2 x hx;omega⟩ hnil ⟨_,H.out⟩
    gi_wp2
    refine⟨fun h=>(by cases h),hR.mono ?_⟩
    rintro e W3 (⟨s',hs',rfl,hJ5⟩|⟨hno,rfl,hx5⟩)
    ·gi_wp2
     go_roundw
     case rel=>exact⟨k+1,s',by omega,by simp,hJ5,Lib.hid ((Pl.runG_ok hnil hs').symm.trans H.out)⟩
     case measure=>first|(simp[intOf];done)|(simp[intOf];omega)
    ·have hr:=H.out.symm.trans (Pl.runG_no hnil hno)
     gi_wp2
     refine bodyPost_ret (results_none rfl _ _ _) rfl ?_
     exact⟨⟨_,rfl⟩,.inr ⟨_,_,_,hr,hx5⟩⟩
  ·gi_wp2
   go_end0
   have hd:(Pl.splitV 10 src).drop k=[]:=List.drop_eq_nil_of_le (by omega)
   rw[hd]at H
   exact⟨⟨_,rfl⟩,.inl ⟨s,H.out.symm,hJ⟩⟩
end Go.Proofs.YtgbpekeoegfjpaaGreatDoor
/- Walk: a line of deeds ahead of the first deed, that is no deed. -/
namespace Go.Proofs.YtgbpekeoegfjpaaGreatDoor
open Go.RowKit Go.Shelf
variable (A1 A2 A3 A4 : Option Addr) (c1 c2 c3 c4 : Nat) (f : Pl.Fld)
attribute [-go_sem] run_equalIn_agg storeVar loadVar
theorem lv_deds (a:Addr)(w:World):(loadVar 38 a).run Tryz.prog w=(load a).run Tryz.prog w:=lv_scalar Tryz.underlying38 rfl a w
attribute [local go_sem] lv_int lv_bool lv_u8 lv_string lv_vars lv_errno lv_deds
set_option maxHeartbeats 4000000 in
theorem deedLine_first (bd:Nat)(A:Option Addr)(c:Nat)(k:ByteArray)(ws:List ByteArray)(w:World)(hEv:Env w)(hd:w.heap[bd]?=some (.cells #[.slice none 0 0] 38 (0,0)))
  (hw:Nms w w.heap.size A (k::ws)) (hc:(k::ws).length<=c) (hs:Sizes (k::ws)) (hk:k≠Pl.wDeed):
  Calls Tryz.prog 88 #[.agg (fq A1 A2 A3 A4 c1 c2 c3 c4 f),.pointer (some ⟨bd,0,none⟩),.slice A (ws.length+1) c] w fun e w'=>e=.returned (.int .i64 4)∧Below w.heap.size w w':=by
 obtain⟨b,off,rfl,hb,q0⟩:=Nms.at1 hw (k:=0) (by simp)
 simp only[Nat.add_zero,List.getElem_cons_zero]at q0
 have e1:(0:Int)<((ws.length:Nat):Int)+1:=by omega
 have hkd:((k.toList==Pl.wDeed.toList))=false:=by rw[str_same];exact decide_eq_false hk
 have hlt:=(lO hd)
 have ke:=heap_alloc2_new w (.cells (fq A1 A2 A3 A4 c1 c2 c3 c4 f) 28) (.cells #[.int .i64 0] 29)
 have hb0:Below w.heap.size w ((w.alloc (.cells (fq A1 A2 A3 A4 c1 c2 c3 c4 f) 28)).alloc (.cells #[.int .i64 0] 29)):=((Below.refl _ w).alloc (Nat.le_refl _) _).alloc (by simp) _
 have hfm:=fun W (hb0:Below w.heap.size w W)=>formed_a (some ⟨b,off,none⟩) c (k::ws) W (hEv.up hb0) (hw.up hb0) hc hs
 unfold Pl.wDeed at hkd
 rw[show(⟨#[100,101,101,100]⟩:ByteArray).toList=[100,101,101,100] from by rw[ByteArray.toList_eq]]at hkd
 cases hform:Pl.form (k::ws)with
 |none=>
  simp only[hform]at hfm
  go_enter_defers Tryz.func88,Tryz.ntmps88
  go_wp2_with (go_at_call 100;refine(hfm _ hb0).mono ?_;rintro e w1 ⟨hx,rfl⟩;have ke:=kE hx ke;have hb1:Below w.heap.size w w1:=hb0.trans (hx.mono hb0.size))
  refine leaves_cons (f:=96) (args:= #[.pointer (some ⟨w.heap.size+1,0,none⟩)]) (by simp) (by simp[go_sem]) ?_
  refine(caught_up _ _ _ _ ke).mono ?_
  rintro e u' w'' ⟨rfl,rfl,rfl⟩
  have ke4:=heap_setCell_same _ (w.heap.size+1) 0 _ _ (.int .i64 4) ke
  obtain⟨hce,hfe⟩:=blk_cells ke4
  exact⟨.int .i64 4,by simp[results,Tryz.results88,go_sem,hce],rfl,hb1.setCell (p:=⟨w.heap.size+1,0,none⟩) (Nat.le_succ _) _⟩
 |some x=>
  simp only[hform]at hfm
  go_enter_defers Tryz.func88,Tryz.ntmps88
  go_wp2_with (first|(go_at_call 100;refine(hfm _ hb0).mono ?_;rintro e w1 ⟨hx,v,rfl,hF⟩;have hd:=(hb0.trans (hx.mono hb0.size)).block bd hlt|>.trans hd;obtain⟨hcd,hfd⟩:=blk_cells hd;have ke:=kE hx ke;have hb1:Below w.heap.size w w1:=hb0.trans (hx.mono hb0.size))|(go_at_call 97;refine(unless_no _ _).mono ?_;rintro e w2 ⟨rfl,hx2⟩;have ke:=kE hx2 ke;have hb1:Below w.heap.size w w2:=hb1.trans (hx2.mono hb1.size)))
  refine leaves_cons (f:=96) (args:= #[.pointer (some ⟨w.heap.size+1,0,none⟩)]) (by simp) (by simp[go_sem]) ?_
  refine(caught_up _ _ _ _ ke).mono ?_
  rintro e u' w'' ⟨rfl,rfl,rfl⟩
  have ke4:=heap_setCell_same _ (w.heap.size+1) 0 _ _ (.int .i64 4) ke
  obtain⟨hce,hfe⟩:=blk_cells ke4
  exact⟨.int .i64 4,by simp[results,Tryz.results88,go_sem,hce],rfl,hb1.setCell (p:=⟨w.heap.size+1,0,none⟩) (Nat.le_succ _) _⟩
end Go.Proofs.YtgbpekeoegfjpaaGreatDoor
/- Plain laws of chapter 03: a field read is no greater than its source. No program. -/
namespace Go.Proofs.YtgbpekeoegfjpaaGreatDoor.Pl
open Go.RowKit
variable (A1 A2 A3 A4 : Option Addr) (c1 c2 c3 c4 : Nat) (f : Pl.Fld)
def Fld.nm (f:Fld):Prop:=(∀s∈f.st,s.1.size<=100000)∧(∀s∈f.li,s.size<=100000)∧ ∀p∈f.pa,p.name.size<=100000
theorem name_le {s:ByteArray}(h:isName s=true):s.size<=100000:=by
 by_cases hz:s.size<1∨24<s.size
 ·rw[isName_short hz]at h;cases h
 ·omega
def Item.nm :Item->Prop
 | .station n _=>n.size<=100000
 | .limit n=>n.size<=100000
 | .parcel n _ _ _=>n.size<=100000
 | .variation _ _=>True
theorem item_nm {w:List ByteArray}{x:Item}(h:item w=some x):x.nm:=by
 unfold item at h
 split at h
 ·split at h
  ·rename_i hc;cases h;exact name_le hc.2
  ·cases h
 ·split at h
  ·split at h
   ·rename_i hc
    obtain⟨v,_,rfl⟩:=Option.map_eq_some_iff.1 h
    exact name_le hc
   ·cases h
  ·split at h
   ·obtain⟨y,_,h⟩:=Option.bind_eq_some_iff.1 h
    obtain⟨v,_,rfl⟩:=Option.map_eq_some_iff.1 h
    trivial
   ·cases h
 ·split at h
  ·rename_i hc;cases h;exact name_le hc.2.1
  ·cases h
 ·cases h
theorem line_nm {f f':Fld}{w:List ByteArray}(h:f.nm)(hx:fieldLine f w=.ok f'):f'.nm:=by
 obtain⟨h1,h2,h3⟩:=h
 unfold fieldLine at hx
 split at hx
 ·rename_i x hi
  have hn:=item_nm hi
  unfold added at hx
  split at hx
  ·cases hx
   refine⟨fun s hs=> ?_,h2,h3⟩
   rcases List.mem_append.1 hs with hs|hs
   ·exact h1 s hs
   ·simp at hs;subst hs;exact hn
  ·cases hx
   refine⟨h1,fun s hs=> ?_,h3⟩
   rcases List.mem_append.1 hs with hs|hs
   ·exact h2 s hs
   ·simp at hs;subst hs;exact hn
  ·split at hx
   ·split at hx
    ·cases hx
     refine⟨h1,h2,fun s hs=> ?_⟩
     rcases List.mem_append.1 hs with hs|hs
     ·exact h3 s hs
     ·simp at hs;subst hs;exact hn
    ·cases hx
   ·cases hx
  ·cases hx
   exact⟨h1,h2,h3⟩
 ·cases hx
theorem run_small : ∀(l:List (List ByteArray)) (f f':Fld) (n m:Nat),f.nm->f.le m->fieldRun f n l=.ok f'->f'.nm∧f'.le (m+l.length)
 | [],f,f',n,m,h1,h2,h=>by
  unfold fieldRun at h
  cases h
  exact⟨h1,by simpa using h2⟩
 | w::l,f,f',n,m,h1,h2,h=>by
  by_cases hw:w=[]
  ·rw[run_blank hw]at h
   obtain⟨a,b⟩:=run_small l f f' (n+1) m h1 h2 h
   exact⟨a,b.more (by simp)⟩
  ·cases hf:fieldLine f w with
   |ok g=>
    rw[run_ok hw hf]at h
    obtain⟨a,b⟩:=run_small l g f' (n+1) (m+1) (line_nm h1 hf) (line_le h2 hf) h
    exact⟨a,b.more (by simp;omega)⟩
   |error e=>
    rw[run_err hw hf]at h
    cases h
theorem none_nm :Fld.none.nm:=⟨by simp[Fld.none],by simp[Fld.none],by simp[Fld.none]⟩
theorem none_le :Fld.none.le 0:=by simp[Fld.none,Fld.le]
end Go.Proofs.YtgbpekeoegfjpaaGreatDoor.Pl
/- Walk: a field read from its source. -/
namespace Go.Proofs.YtgbpekeoegfjpaaGreatDoor
open Go.RowKit Go.Shelf
variable (A1 A2 A3 A4 : Option Addr) (c1 c2 c3 c4 : Nat) (f : Pl.Fld)
attribute [local go_sem] Oper.semAt_some
theorem lines_a (s:ByteArray)(w:World):
  Calls Tryz.prog 72 #[.string s] w fun e w'=>e=.returned (.func (.func 144) #[] #[.pointer (some ⟨w.heap.size,0,none⟩)])∧w'=w.alloc (.cells #[.string s] 9):=by
 go_enter Tryz.func72,Tryz.ntmps72
 go_wp2
 go_ret
 exact⟨by simp,rfl⟩
def RetF (r:Pl.Fld×Int×Int)(w:World)(e:Ending)(w':World):Prop:=
 ∃A1 c1 A2 c2 A3 c3 A4 c4,e=.returned (.tuple #[.agg (fq A1 A2 A3 A4 c1 c2 c3 c4 r.1),.agg (i2 r.2.1 r.2.2)])∧
  FldS w' w'.heap.size A1 A2 A3 A4 r.1∧Caps c1 c2 c3 c4 r.1∧Below w.heap.size w w'
theorem fldS_none (w:World)(B:Nat):FldS w B none none none none Pl.Fld.none:=⟨.inl rfl,.inl rfl,.inl rfl,.inl rfl⟩
theorem caps_none :Caps 0 0 0 0 Pl.Fld.none:=⟨Nat.le_refl _,Nat.le_refl _,Nat.le_refl _,Nat.le_refl _⟩
theorem LInv.putObj {w:World}{src:ByteArray}{s:LS}{W:World}{r:Loop}(r':Loop)(h:LInv w src s W)(hl:W.heap[w.heap.size+5]?=some (.loop r)):LInv w src s (W.putObj (w.heap.size+5) (.loop r')):=by
 have hg:=grownBy_putObj' W (w.heap.size+5) (.loop r')
 obtain⟨h1,h2,h3,⟨v1,v2,v3,v4,hF,hO⟩,h5,h6,h7,h8,h9⟩:=h
 have key: ∀k,k≠w.heap.size+5->(W.putObj (w.heap.size+5) (.loop r')).heap[k]?=W.heap[k]?:=fun k hk=>World.putObj_heap_other (by omega)
 have hlt:=(lO hl)
 refine⟨h1.grown hg h1.size (fun k e=>by cases e;omega),(key _ (by omega)).trans h2,(key _ (by omega)).trans h3,⟨v1,v2,v3,v4,?_,hO⟩,(key _ (by omega)).trans h5,h6,fun e=>(key _ (by omega)).trans (h7 e),fun e=> ?_,fun x hx=> ?_⟩
 ·exact⟨(key _ (by omega)).trans hF.box,hF.o1.kept hg (.inr fun e=>by have:=hO _ (.inl e);omega),hF.o2.kept hg (.inr fun e=>by have:=hO _ (.inr (.inl e));omega),hF.o3.kept hg (.inr fun e=>by have:=hO _ (.inr (.inr (.inl e)));omega),hF.o4.kept hg (.inr fun e=>by have:=hO _ (.inr (.inr (.inr e)));omega)⟩
 ·rw[<-h8 e];simp[World.putObj]
 ·obtain⟨a,b⟩:=h9 x hx
  have hsz:(W.putObj (w.heap.size+5) (.loop r')).heap.size=W.heap.size:=by simp[World.putObj]
  rw[hsz]
  refine⟨a.keep fun p hp=> ?_,b⟩
  by_cases e:p.block=w.heap.size+5
  ·have e1:(W.putObj (w.heap.size+5) (.loop r')).heap[p.block]?=some (.loop r'):=by rw[e];exact World.putObj_heap_same hlt
   have e2:W.heap[p.block]?=some (.loop r):=by rw[e];exact hl
   simp[World.cell?,e1,e2]
  ·exact World.cell?_of_block (key _ e)
theorem IxL.putObj {w:World}{s:LS}{x:LX}{W:World}(r':Loop)(h:IxL w s x W):IxL w s x (W.putObj (w.heap.size+5) (.loop r')):=by
 obtain⟨E,h1,h2,h3,h4⟩:=h
 have hg:=grownBy_putObj' W (w.heap.size+5) (.loop r')
 exact⟨E,h1,h2.grown hg h2.size (fun k e=>by cases e;omega),(World.putObj_heap_other (by omega)).trans h3,(World.putObj_heap_other (by omega)).trans h4⟩
theorem LInv.mid {w:World}{src:ByteArray}{s:LS}{W W2:World}(hi:LInv w src s W)(hon:s.on=true){v1 v2 v3 v4:Value}(hO: ∀i,Oy v1 v2 v3 v4 i->w.heap.size+7<=i)(hB:BelowE (w.heap.size+2) (Oz (w.heap.size+2) v1 v2 v3 v4) W W2):
  ∀k,w.heap.size+3<=k->k<w.heap.size+7->W2.heap[k]?=W.heap[k]?:=by
 intro k h3 h7
 have l6:=(Array.getElem?_eq_some_iff.1 (hi.row hon)).1
 refine hB.k k (by omega) ?_
 rintro(h|h)
 ·omega
 ·have:=hO _ h;omega
theorem LInv.next {w:World}{src:ByteArray}{s:LS}{W W2:World}{num:Nat}{f':Pl.Fld}(hi:LInv w src s W)(hon:s.on=true)(hn:s.n<num){ws:List ByteArray}(hf:Pl.fieldLine s.f ws=.ok f'){v1 v2 v3 v4 u1 u2 u3 u4:Value}(hO: ∀i,Oy v1 v2 v3 v4 i->w.heap.size+7<=i)(hB:BelowE (w.heap.size+2) (Oz (w.heap.size+2) v1 v2 v3 v4) W W2)
  (hF:FInv (w.heap.size+2) f' W2 u1 u2 u3 u4) (hN:New (Oz (w.heap.size+2) v1 v2 v3 v4) W.heap.size u1 u2 u3 u4):LInv w src ⟨f',num,true,none⟩ W2:=by
 have hm:=hi.mid hon hO hB
 have l6:=(Array.getElem?_eq_some_iff.1 (hi.row hon)).1
 refine⟨hi.below.trans (hB.b.mono (by omega)),(hB.b.block _ (by omega)).trans hi.r1,(hB.b.block _ (by omega)).trans hi.r2,⟨u1,u2,u3,u4,hF,fun i h=> ?_⟩,(hm _ (by omega) (by omega)).trans hi.sr,(Pl.line_le hi.le hf).more (show s.n+1<=num from hn),fun _=>(hm _ (by omega) (by omega)).trans (hi.row hon),fun e=>(by cases e),fun x hx=>(by cases hx)⟩
 rcases hN i h with (h'|h')|h'
 ·have:=(hF.oy h).1;omega
 ·exact hO _ h'
 ·omega
theorem Seg.keepF {α:Type}{enc:α->List Value}{size n B:Nat}{w w':World}{A:Option Addr}{l:List α}(h:Seg enc size w B A l)(hA:From n A)(hk: ∀b,n<=b->b<B->w'.heap[b]?=w.heap[b]?):Seg enc size w' B A l:=by
 rcases h with h|⟨b,off,hb,hlt,hc⟩
 ·exact .inl h
 ·exact .inr ⟨b,off,hb,hlt,fun k x hx j v hv=>(World.cell?_of_block (hk b (hA _ hb) hlt)).trans (hc k x hx j v hv)⟩
theorem FldS.keepF {n B:Nat}{w w':World}{A1 A2 A3 A4:Option Addr}{f:Pl.Fld}(h:FldS w B A1 A2 A3 A4 f)(h1:From n A1)(h2:From n A2)(h3:From n A3)(h4:From n A4)(hk: ∀b,n<=b->b<B->w'.heap[b]?=w.heap[b]?):FldS w' B A1 A2 A3 A4 f:=
 ⟨h.st.keepF h1 hk,h.li.keepF h2 hk,h.pa.keepF h3 hk,h.va.keepF h4 hk⟩
theorem line_err {f:Pl.Fld}{ws:List ByteArray}{E:Int}(h:Pl.fieldLine f ws=.error E):0<E:=by
 unfold Pl.fieldLine at h
 split at h
 ·unfold Pl.added at h
  split at h
  ·cases h
  ·cases h
  ·split at h
   ·split at h
    ·cases h
    ·cases h;decide
   ·cases h;decide
  ·cases h
 ·cases h;decide
def AxF (w:World)(src:ByteArray)(x:LX)(a':Act)(_W:World):Prop:=
 a'= {tmps:= #[.string src,undef,.pointer (some ⟨w.heap.size,0,none⟩),.pointer (some ⟨w.heap.size+1,0,none⟩),.pointer (some ⟨w.heap.size+2,0,none⟩),.int .i64 (x.1:Int),.slice (some ⟨x.2.1,0,none⟩) x.2.2.2.length x.2.2.1,undef,undef,.string src,.int .i64 src.size,.bool (decide (20000<(src.size:Int))),undef,undef,.string src,.func (.func 144) #[] #[.pointer (some ⟨w.heap.size+3,0,none⟩)],.int .i64 (x.1:Int),.slice (some ⟨x.2.1,0,none⟩) x.2.2.2.length x.2.2.1,undef,undef,undef,undef,undef,undef,undef,undef,undef,undef,undef,undef,undef,undef,undef,undef,undef],defers:=[]}
set_option maxHeartbeats 4000000 in
theorem parseField_long (src:ByteArray)(w:World)(h:20000<src.size)(hm:src.size<=100000000):Calls Tryz.prog 19 #[.string src] w (RetF (Pl.parseField src) w):=by
 have hp:Pl.parseField src=(Pl.Fld.none,2,0):=by unfold Pl.parseField;rw[if_pos h]
 rw[hp]
 go_enter Tryz.func19,Tryz.ntmps19
 go_wp2
 refine bodyPost_ret (v:=.tuple #[.agg #[.slice none 0 0,.slice none 0 0,.slice none 0 0,.slice none 0 0],.agg (i2 2 0)]) (by simp[results,Tryz.results19,go_sem]) rfl ⟨none,0,none,0,none,0,none,0,rfl,fldS_none _ _,caps_none,by go_grown⟩
attribute [-go_sem] storeVar
set_option maxHeartbeats 4000000 in
theorem parseField_a (src:ByteArray)(w:World)(hE:Env w)(hs:src.size<=20000):Calls Tryz.prog 19 #[.string src] w (RetF (Pl.parseField src) w):=by
 refine(callsIn_wide (n:=3)).1 ?_
 refine callsIn_of_wp_marks Tryz.func19 rfl trivial ?_ rfl
 simp only[Tryz.ntmps19,List.size_toArray,List.length_cons,List.length_nil,Nat.reduceAdd,Nat.reduceSub,Array.replicate_succ,Array.replicate_zero,List.push_toArray,List.append_toArray,List.nil_append,List.cons_append]
 gi_wp2_with (refine⟨trivial,?_⟩;gi_at_call 72;refine(callsIn_wide.2 (lines_a _ _)).mono ?_;rintro e w' ⟨rfl,rfl⟩)
 obtain⟨W0,hW0⟩: ∃W0,(((w.alloc (.cells #[.slice none 0 0,.slice none 0 0,.slice none 0 0,.slice none 0 0] 28)).alloc (.cells (i2 0 0) 31)).alloc (.cells #[.slice none 0 0,.slice none 0 0,.slice none 0 0,.slice none 0 0] 28)).alloc (.cells #[.string src] 9)=W0:=⟨_,rfl⟩
 have hs0:W0.heap.size=w.heap.size+4:=by rw[<-hW0];simp
 rw[hW0]
 refine wpIn_rangeFunc_sx (F:=Fence.wide) (encs:=encL) rfl (by omega) (gf:=144) (lb:= #[.pointer (some ⟨w.heap.size+3,0,none⟩)]) (by simp[go_sem]) trivial (enters_of Tryz.func144 (by kernel_rfl) rfl) (fun _=>rfl)
  nextL ⟨Pl.Fld.none,0,false,none⟩ (DnL src) (StL src) PreL (LInv w src) (IxL w) (AxF w src) ?put ?xput ?aput ?start ?seq ?assign ?body ?done ?stop
 case put=>
  intro s W r r' hl h
  rw[hs0]at hl ⊢
  exact h.putObj r' hl
 case xput=>
  intro s x W r r' hl h
  rw[hs0]
  exact h.putObj r'
 case aput=>
  intro x a' W r r' hl h
  exact h
 case start=>
  intro r
  have hb:Below W0.heap.size W0 ((W0.alloc (.deferred (some []))).alloc (.loop r)):=((Below.refl _ W0).alloc (Nat.le_refl _) _).alloc (by simp) _
  have hbw:Below w.heap.size w W0:=by
   rw[<-hW0]
   exact((((Below.refl _ w).alloc (Nat.le_refl _) _).alloc (by simp) _).alloc (by simp;omega) _).alloc (by simp;omega) _
  have e0:W0.heap[w.heap.size]?=some (.cells #[.slice none 0 0,.slice none 0 0,.slice none 0 0,.slice none 0 0] 28 (0,0)):=by
   rw[<-hW0];exact(Below.heap_alloc _ _ _ (by simp;omega)).trans ((Below.heap_alloc _ _ _ (by simp;omega)).trans ((Below.heap_alloc _ _ _ (by simp)).trans (World.alloc_heap_new w _)))
  have e1:W0.heap[w.heap.size+1]?=some (.cells (i2 0 0) 31 (0,0)):=by
   rw[<-hW0];refine(Below.heap_alloc _ _ _ (by simp)).trans ((Below.heap_alloc _ _ _ (by simp)).trans ?_)
   have:=World.alloc_heap_new (w.alloc (.cells #[.slice none 0 0,.slice none 0 0,.slice none 0 0,.slice none 0 0] 28)) (.cells (i2 0 0) 31)
   rwa[World.size_alloc]at this
  have e2:W0.heap[w.heap.size+2]?=some (.cells #[.slice none 0 0,.slice none 0 0,.slice none 0 0,.slice none 0 0] 28 (0,0)):=by
   rw[<-hW0];refine(Below.heap_alloc _ _ _ (by simp)).trans ?_
   have:=World.alloc_heap_new ((w.alloc (.cells #[.slice none 0 0,.slice none 0 0,.slice none 0 0,.slice none 0 0] 28)).alloc (.cells (i2 0 0) 31)) (.cells #[.slice none 0 0,.slice none 0 0,.slice none 0 0,.slice none 0 0] 28)
   rwa[World.size_alloc,World.size_alloc]at this
  have e3:W0.heap[w.heap.size+3]?=some (.cells #[.string src] 9 (0,0)):=by
   rw[<-hW0]
   have:=World.alloc_heap_new (((w.alloc (.cells #[.slice none 0 0,.slice none 0 0,.slice none 0 0,.slice none 0 0] 28)).alloc (.cells (i2 0 0) 31)).alloc (.cells #[.slice none 0 0,.slice none 0 0,.slice none 0 0,.slice none 0 0] 28)) (.cells #[.string src] 9)
   rwa[World.size_alloc,World.size_alloc,World.size_alloc]at this
  refine⟨hbw.trans (hb.mono (by omega)),(hb.block _ (by omega)).trans e0,(hb.block _ (by omega)).trans e1,⟨_,_,_,_,⟨(hb.block _ (by omega)).trans e2,World.ownsRow_nil _ _ _ _,World.ownsRow_nil _ _ _ _,World.ownsRow_nil _ _ _ _,World.ownsRow_nil _ _ _ _⟩,fun i h=> ?_⟩,(hb.block _ (by omega)).trans e3,Pl.none_le,fun e=>(by cases e),fun _=>by simp;omega,fun x hx=>(by cases hx)⟩
  rcases h with h|h|h|h<;>cases h
 case seq=>
  rintro rec rec' W1 hY hI hl hk
  rw[hs0]at hY hl hk ⊢
  refine(lines1_in _ w src rec rec' hE hs ?_ W1 ⟨hI,hl,hk⟩).mono ?_
  ·rintro s x W hp ⟨hi,hl,hk⟩
   exact hY s x W hp hi hl hk
  ·rintro e W' ⟨hv,h⟩
   exact⟨hv,h⟩
 case assign=>
  rintro s x W K r hp hi hl hk hK
  rw[hs0]at hl hk hK ⊢
  gi_wp2
  exact hK _ _ hi rfl hl hk
 case body=>
  rintro s ⟨num,b,c,ws⟩ a' W r ⟨hon,hpd,hn,hn5⟩ hi rfl hl hk
  rw[hs0]at hl hk ⊢
  obtain⟨hN,hc,hS,hne⟩:=hi.pend _ hpd
  obtain⟨v1,v2,v3,v4,hF,hO⟩:=hi.fld
  simp only at hN hc hS hne hn hn5
  have hEW:Env W:=hE.up hi.below
  have hle:=hi.le.more (show s.n<=100000 by omega)
  have h8:=hE.size
  cases ws with
  |nil=>exact absurd rfl hne
  |cons k ws=>
  have hfl:=fieldLine_a (w.heap.size+2) s.f v1 v2 v3 v4 (some ⟨b,0,none⟩) c k ws W hEW hF (by omega) hN (by simpa using hc) (sizes_drop hS) hle.1 hle.2.1 hle.2.2.1 hle.2.2.2
  cases hr:Pl.fieldLine s.f (k::ws)with
  |ok f'=>
   rw[hr]at hfl
   have HR:=Lib.hid hr
   clear hr
   gi_wp2_with fail
   refine⟨trivial,?_⟩
   refine(CallsIn.inRound _ (callsIn_wide.2 hfl)).mono ?_
   rintro e W2 ⟨hB,rfl,u1,u2,u3,u4,hF2,hN2⟩
   gi_wp2
   have hm:=hi.mid hon hO hB
   exact⟨(hm _ (by omega) (by omega)).trans hl,(hm _ (by omega) (by omega)).trans hk,⟨f',num,true,none⟩,by simp[nextL,HR.out],hi.next hon hn HR.out hO hB hF2 hN2⟩
  | error E=>
   rw[hr]at hfl
   have HR:=Lib.hid hr
   have hE0:=line_err hr
   clear hr
   gi_wp2_with fail
   refine⟨trivial,?_⟩
   refine(CallsIn.inRound _ (callsIn_wide.2 hfl)).mono ?_
   rintro e W2 ⟨hB,rfl⟩
   have kr1:=(hB.b.block w.heap.size (by omega)).trans hi.r1
   have kr2:=(hB.b.block (w.heap.size+1) (by omega)).trans hi.r2
   obtain⟨hc1,hf1⟩:=blk_cells kr1
   obtain⟨hc2,hf2⟩:=blk_cells kr2
   obtain⟨W3,st3,kr3,hg3⟩:=st_row W2 w.heap.size _ 28 _ #[.slice none 0 0,.slice none 0 0,.slice none 0 0,.slice none 0 0] kr1 info_fld rfl (by simp[Value.oneCell'])
   have kr2':=(hg3.block (w.heap.size+1) (lO kr2) (by simp)).trans kr2
   obtain⟨W4,st4,kr4,hg4⟩:=st_row W3 (w.heap.size+1) _ 31 _ (i2 E (num:Int)) kr2' info_flt rfl (by simp[Value.oneCell'])
   have kr3':=(hg4.block w.heap.size (lO kr3) (by simp)).trans kr3
   clear hc1 hf1 hc2 hf2 kr1 kr2 kr2' hfl
   gi_wp2_with fail
   have hm:=hi.mid hon hO hB
   have keep: ∀k,w.heap.size+2<=k->k<W2.heap.size->W4.heap[k]?=W2.heap[k]?:=fun k h2 h3=>
    (hg4.block k (by have:=hg3.size;omega) (by simp;omega)).trans (hg3.block k h3 (by simp;omega))
   have l6:=(Array.getElem?_eq_some_iff.1 ((hm (w.heap.size+6) (by omega) (by omega)).trans (hi.row hon))).1
   have hbel:Below w.heap.size w W4:=((hi.below.trans (hB.b.mono (by omega))).grown hg3 (by omega) (fun k e=>by cases e;omega)).grown hg4 (by have:=hg3.size;omega) (fun k e=>by cases e;omega)
   exact⟨(keep _ (by omega) (by omega)).trans ((hm _ (by omega) (by omega)).trans hl),(keep _ (by omega) (by omega)).trans ((hm _ (by omega) (by omega)).trans hk),by simp[nextL,HR.out],E,HR.out,hbel,kr3',kr4⟩
 case done=>
  rintro s1 W hd hi hk
  rw[hs0]at hk
  obtain⟨hrun,hon⟩:=hd
  obtain⟨v1,v2,v3,v4,hF,hO⟩:=hi.fld
  obtain⟨A1,d1,rfl,_⟩:=own_seg lay_sta hF.o1
  obtain⟨A2,d2,rfl,_⟩:=own_seg lay_nm hF.o2
  obtain⟨A3,d3,rfl,_⟩:=own_seg lay_par hF.o3
  obtain⟨A4,d4,rfl,_⟩:=own_seg lay_var hF.o4
  obtain⟨hfs,hcp⟩:=FInv.fld A1 A2 A3 A4 d1 d2 d3 d4 s1.f hF
  have hlen:((Pl.splitV 10 src).map Pl.wordsB).length<=90000:=by have:=splitV_le 10 src;simp;omega
  obtain⟨hnm,hle⟩:=Pl.run_small _ _ _ _ _ Pl.none_nm Pl.none_le hrun
  have hle:=hle.more (show 0+((Pl.splitV 10 src).map Pl.wordsB).length<=100000 by omega)
  have hsm:Small s1.f:=⟨hle.1,hle.2.1,hle.2.2.1,hle.2.2.2,hnm.1,hnm.2.1,hnm.2.2⟩
  obtain⟨E,hE1⟩: ∃E,Pl.fieldE s1.f=E:=⟨_,rfl⟩
  have HE:=Lib.hid hE1
  have hp:Hid (Pl.parseField src=if E=0 then (s1.f,0,0)else (Pl.Fld.none,E,0)):=Lib.hid (by
   unfold Pl.parseField
   rw[if_neg (by omega),Pl.linesB_split,Pl.fieldGo_run]
   rw[show Pl.fieldRun Pl.Fld.none 0 ((Pl.splitV 10 src).map Pl.wordsB)=.ok s1.f from hrun]
   simp only[hE1])
  have hck:=checkField_h A1 A2 A3 A4 d1 d2 d3 d4 s1.f E W HE hfs hsm hcp
  obtain⟨hcb,hfb⟩:=blk_cells hF.box
  have l4:=(lO hk)
  have kr1:=hi.r1
  have kr2:=hi.r2
  have kbx:=hF.box
  have hbw:=hi.below
  have hoff: ∀p,p<w.heap.size+5->p<W.heap.size:=fun p hp=>by omega
  have F1:From (w.heap.size+7) A1:=fun a ha=>hO _ (.inl (by rw[ha];rfl))
  have F2:From (w.heap.size+7) A2:=fun a ha=>hO _ (.inr (.inl (by rw[ha];rfl)))
  have F3:From (w.heap.size+7) A3:=fun a ha=>hO _ (.inr (.inr (.inl (by rw[ha];rfl))))
  have F4:From (w.heap.size+7) A4:=fun a ha=>hO _ (.inr (.inr (.inr (by rw[ha];rfl))))
  clear hE1 hrun hi hF hO hle hnm hlen
  gi_wp2_with fail
  refine⟨trivial,?_⟩
  refine(callsIn_wide.2 hck).mono ?_
  rintro e W2 ⟨rfl,hx⟩
  have hsz2:=hx.size
  have hk2:=(hx.block _ l4).trans hk
  have kr1:=(hx.block _ (hoff _ (by omega))).trans kr1
  have kr2:=(hx.block _ (hoff _ (by omega))).trans kr2
  have kbx:=(hx.block _ (hoff _ (by omega))).trans kbx
  obtain⟨hcb,hfb⟩:=blk_cells kbx
  have hfs2:=hfs.up hx
  have hbw2:=hbw.trans (hx.mono hbw.size)
  by_cases h0:E=0
  ·subst h0
   obtain⟨W3,st3,kr3,hg3⟩:=st_row W2 w.heap.size _ 28 _ (fq A1 A2 A3 A4 d1 d2 d3 d4 s1.f) kr1 info_fld rfl (by simp[Value.oneCell'])
   have kr2':=(hg3.block (w.heap.size+1) (lO kr2) (by simp)).trans kr2
   obtain⟨W4,st4,kr4,hg4⟩:=st_row W3 (w.heap.size+1) _ 31 _ (i2 0 0) kr2' info_flt rfl (by simp[Value.oneCell'])
   have kr3':=(hg4.block w.heap.size (lO kr3) (by simp)).trans kr3
   clear kr1 kr2 kr2'
   gi_wp2_with fail
   have keep: ∀k,k≠w.heap.size->k≠w.heap.size+1->k<W2.heap.size->W4.heap[k]?=W2.heap[k]?:=fun k h1 h2 h3=>
    (hg4.block k (by have:=hg3.size;omega) (by simp;omega)).trans (hg3.block k h3 (by simp;omega))
   have hk4:=(keep (w.heap.size+4) (by omega) (by omega) (by omega)).trans hk2
   have hsz4:W2.heap.size<=W4.heap.size:=Nat.le_trans hg3.size hg4.size
   have hbel:Below w.heap.size w W4:=(hbw2.grown hg3 (by omega) (fun k e=>by cases e;omega)).grown hg4 (by have:=hg3.size;omega) (fun k e=>by cases e;omega)
   have hb4:Below w.heap.size w (W4.putObj (w.heap.size+4) (.deferred none)):=hbel.grown (grownBy_putObj' W4 (w.heap.size+4) (.deferred none)) hbel.size (fun k e=>by cases e;omega)
   have g1:=(World.putObj_heap_other (w:=W4) (o:=.deferred none) (show w.heap.size≠w.heap.size+4 by omega)).trans kr3'
   have g2:=(World.putObj_heap_other (w:=W4) (o:=.deferred none) (show w.heap.size+1≠w.heap.size+4 by omega)).trans kr4
   obtain⟨hd1,he1⟩:=blk_cells g1
   obtain⟨hd2,he2⟩:=blk_cells g2
   refine⟨by simp,.inl ⟨_,_,rfl,run_takeDeferred hk4,?_⟩⟩
   have hfin:FldS (W4.putObj (w.heap.size+4) (.deferred none)) (W4.putObj (w.heap.size+4) (.deferred none)).heap.size A1 A2 A3 A4 s1.f:=by
    have h:=hfs2.keepF F1 F2 F3 F4 (w':=W4.putObj (w.heap.size+4) (.deferred none)) fun b h1 h2=>(World.putObj_heap_other (by omega)).trans (keep b (by omega) (by omega) h2)
    have hz:W2.heap.size<=(W4.putObj (w.heap.size+4) (.deferred none)).heap.size:=by simpa [World.putObj]using hsz4
    exact⟨h.st.more hz,h.li.more hz,h.pa.more hz,h.va.more hz⟩
   have HP:Pl.parseField src=(s1.f,0,0):=by rw[hp.out];simp
   rw[HP]
   refine⟨.tuple #[.agg (fq A1 A2 A3 A4 d1 d2 d3 d4 s1.f),.agg (i2 0 0)],?_,A1,d1,A2,d2,A3,d3,A4,d4,rfl,hfin,hcp,hb4⟩
   simp[results,Tryz.results19,go_sem,hd1,hd2]
  ·have hne:(E !=0)=true:=by simpa using h0
   obtain⟨W3,st3,kr3,hg3⟩:=st_row W2 w.heap.size _ 28 _ #[.slice none 0 0,.slice none 0 0,.slice none 0 0,.slice none 0 0] kr1 info_fld rfl (by simp[Value.oneCell'])
   have kr2':=(hg3.block (w.heap.size+1) (lO kr2) (by simp)).trans kr2
   obtain⟨W4,st4,kr4,hg4⟩:=st_row W3 (w.heap.size+1) _ 31 _ (i2 E 0) kr2' info_flt rfl (by simp[Value.oneCell'])
   have kr3':=(hg4.block w.heap.size (lO kr3) (by simp)).trans kr3
   clear kr1 kr2 kr2'
   gi_wp2_with fail
   have keep: ∀k,k≠w.heap.size->k≠w.heap.size+1->k<W2.heap.size->W4.heap[k]?=W2.heap[k]?:=fun k h1 h2 h3=>
    (hg4.block k (by have:=hg3.size;omega) (by simp;omega)).trans (hg3.block k h3 (by simp;omega))
   have hk4:=(keep (w.heap.size+4) (by omega) (by omega) (by omega)).trans hk2
   have hsz4:W2.heap.size<=W4.heap.size:=Nat.le_trans hg3.size hg4.size
   have hbel:Below w.heap.size w W4:=(hbw2.grown hg3 (by omega) (fun k e=>by cases e;omega)).grown hg4 (by have:=hg3.size;omega) (fun k e=>by cases e;omega)
   have hb4:Below w.heap.size w (W4.putObj (w.heap.size+4) (.deferred none)):=hbel.grown (grownBy_putObj' W4 (w.heap.size+4) (.deferred none)) hbel.size (fun k e=>by cases e;omega)
   have g1:=(World.putObj_heap_other (w:=W4) (o:=.deferred none) (show w.heap.size≠w.heap.size+4 by omega)).trans kr3'
   have g2:=(World.putObj_heap_other (w:=W4) (o:=.deferred none) (show w.heap.size+1≠w.heap.size+4 by omega)).trans kr4
   obtain⟨hd1,he1⟩:=blk_cells g1
   obtain⟨hd2,he2⟩:=blk_cells g2
   refine⟨by simp,.inl ⟨_,_,rfl,run_takeDeferred hk4,?_⟩⟩
   have HP:Pl.parseField src=(Pl.Fld.none,E,0):=by rw[hp.out,if_neg h0]
   rw[HP]
   refine⟨.tuple #[.agg #[.slice none 0 0,.slice none 0 0,.slice none 0 0,.slice none 0 0],.agg (i2 E 0)],?_,none,0,none,0,none,0,none,0,rfl,fldS_none _ _,caps_none,hb4⟩
   simp[results,Tryz.results19,go_sem,hd1,hd2]
 case stop=>
  rintro s x W ⟨E,hf,hrun⟩ ⟨E',hf',hB,hr1,hr2⟩ hk
  rw[hs0]at hk ⊢
  rw[hf]at hf'
  cases hf'
  have hp:Pl.parseField src=(Pl.Fld.none,E,(x.1:Int)):=by
   unfold Pl.parseField
   rw[if_neg (by omega),Pl.linesB_split,Pl.fieldGo_run]
   rw[show Pl.fieldRun Pl.Fld.none 0 ((Pl.splitV 10 src).map Pl.wordsB)=.error (E,x.1) from hrun]
  rw[hp]
  obtain⟨hc1,hf1⟩:=blk_cells hr1
  obtain⟨hc2,hf2⟩:=blk_cells hr2
  clear hp hf hrun
  gi_wp2
  refine⟨by simp,.inl ⟨_,_,rfl,run_takeDeferred hk,?_⟩⟩
  have hb4:Below w.heap.size w (W.putObj (w.heap.size+4) (.deferred none)):=hB.grown (grownBy_putObj' W (w.heap.size+4) (.deferred none)) hB.size (fun k e=>by cases e;omega)
  have g1:=(World.putObj_heap_other (w:=W) (o:=.deferred none) (show w.heap.size≠w.heap.size+4 by omega)).trans hr1
  have g2:=(World.putObj_heap_other (w:=W) (o:=.deferred none) (show w.heap.size+1≠w.heap.size+4 by omega)).trans hr2
  obtain⟨hd1,he1⟩:=blk_cells g1
  obtain⟨hd2,he2⟩:=blk_cells g2
  refine⟨.tuple #[.agg #[.slice none 0 0,.slice none 0 0,.slice none 0 0,.slice none 0 0],.agg (i2 E (x.1:Int))],?_,none,0,none,0,none,0,none,0,rfl,fldS_none _ _,caps_none,hb4⟩
  simp[results,Tryz.results19,go_sem,hd1,hd2]
end Go.Proofs.YtgbpekeoegfjpaaGreatDoor
