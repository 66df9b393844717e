/- Proved: parts of the walk. -/
import Derived.Test.YtgbpekeoegfjpaaGreatDoorVTH
set_option maxRecDepth 100000
set_option maxHeartbeats 16000000
namespace Go.Proofs
open Tryz RowKit
attribute [-go_sem] run_equalIn_agg loadVar storeVar
attribute [local go_sem] bZ bH dU aT dD
theorem jU :(prog.info? 46).map (·.size)=some 6:=by kernel_rfl
def yX (o:Option Pl.bF)(w:World)(e:Ending)(w':World):Prop:= ∃C:Pl.bF,e=.returned (.tuple #[.agg (cq C),.bool o.isSome])∧(∀c,o=some c->C=c)∧Below w.heap.size w w'
theorem GY (A:Option Addr)(c0:Nat)(l:List ByteArray)(p q:Int)(w:World)(hl:d9 w w.heap.size A l)(ht:Pl.tot l<=100000)(hp:Pl.pos (Pl.idx (fun x=>decide (x=⟨#[98,121]⟩)) l)=p)(hq:Pl.pos (Pl.idx (fun x=>decide (x=⟨#[103,105,118,101]⟩)) l)=q)(p0: -1<=p∧p<=100000)(q0: -1<=q∧q<=100000)
  (h:p<1∨(¬p<1∧6<p)∨(¬p<1∧ ¬6<p∧q<p+2)∨(¬p<1∧ ¬6<p∧ ¬q<p+2∧(l.length:Int)≠q+6)∨(¬p<1∧ ¬6<p∧ ¬q<p+2∧(l.length:Int)=q+6∧ ∃g:Nat,q=g∧ ∃h:g+2<l.length,l[g+2]≠Pl.fT)∨
   (¬p<1∧ ¬6<p∧ ¬q<p+2∧(l.length:Int)=q+6∧ ∃g:Nat,q=g∧ ∃h:g+4<l.length,l[g+2]=Pl.fT∧l[g+4]≠Pl.eu)):
  Calls prog 171 #[.slice A l.length c0] w (yX Option.none w):=by
 have hlen:=Pl.wm l
 have kr:=heap_alloc_new w (.cells z6 46)
 have hall:Below w.heap.size w (w.alloc (.cells z6 46)):=(Below.refl _ w).alloc (Nat.le_refl _) _
 have pp:=fun W (hW:Below w.heap.size w W)=>nC A c0 l ⟨#[98,121]⟩ W (hl.up hW) (by omega)
 have pq:=fun W (hW:Below w.heap.size w W)=>nC A c0 l ⟨#[103,105,118,101]⟩ W (hl.up hW) (by omega)
 rw[hp]at pp
 rw[hq]at pq
 obtain⟨W2,st2,nZ,hg2⟩:=aG (w.alloc (.cells z6 46)) w.heap.size _ 46 _ z6 kr jU rfl (by simp[Value.oneCell'])
 have l2:=ak nZ underlying46 rfl jU
 have hB2:Below w.heap.size w W2:=hall.grown hg2 hall.size (fun k e=>by cases e;exact Nat.le_refl _)
 have e1:IntKind.i64.wrap (p+2)=p+2:=IntWalk.i64_in _ (by omega)
 have e2:IntKind.i64.wrap (q+6)=q+6:=IntWalk.i64_in _ (by omega)
 clear hp hq hg2 nZ
 rcases h with h1|⟨h1,h2⟩|⟨h1,h2,h3⟩|⟨h1,h2,h3,h4⟩|⟨h1,h2,h3,h4,g,rfl,h5,h6⟩|⟨h1,h2,h3,h4,g,rfl,h5,h6,h7⟩
 case inr.inr.inr.inl=>
  have h4':((l.length:Int) !=q+6)=true:=by simpa using h4
  clear h4
  go_enter func171,ntmps171
  go_wp2_with fail
  refine(pp _ hall).mono ?_
  rintro e w' ⟨rfl,rfl⟩
  go_wp2_with fail
  refine(pq _ hall).mono ?_
  rintro e w' ⟨rfl,rfl⟩
  go_wp2_with fail
  refine bodyPost_ret (v:=.tuple #[.agg z6,.bool false]) (by simp[results,results171,go_sem,l2]) rfl ?_
  exact⟨⟨0,0,0,0,0,0⟩,rfl,(fun c hc=>by cases hc),hB2⟩
 case inr.inr.inr.inr.inl=>
  have h4':((l.length:Int) !=(g:Int)+6)=false:=by simpa using h4
  obtain⟨b,off,rfl,mQ,u5⟩:=d9.gY (hl.up hall) h5
  have hw:(l[g+2].toList==[119,101,97,114])=false:=by
   have:(l[g+2].toList==Pl.fT.toList)=false:=by rw[dF];exact decide_eq_false h6
   rw[show Pl.fT.toList=[119,101,97,114] from by unfold Pl.fT;rw[ByteArray.toList_eq]]at this
   exact this
  obtain⟨y,hy⟩: ∃y,l[g+2]=y:=⟨_,rfl⟩
  rw[hy]at u5 hw
  have f1:IntKind.i64.wrap ((g:Int)+2)=(g:Int)+2:=IntWalk.i64_in _ (by omega)
  have f2:(0:Int)<=(g:Int)+2:=by omega
  have f3:((g:Int)+2).toNat=g+2:=by omega
  have f4:(g:Int)+2<(l.length:Int):=by omega
  clear h4 h5 h6 hy
  go_enter func171,ntmps171
  go_wp2_with fail
  refine(pp _ hall).mono ?_
  rintro e w' ⟨rfl,rfl⟩
  go_wp2_with fail
  refine(pq _ hall).mono ?_
  rintro e w' ⟨rfl,rfl⟩
  go_wp2_with fail
  refine bodyPost_ret (v:=.tuple #[.agg z6,.bool false]) (by simp[results,results171,go_sem,l2]) rfl ?_
  exact⟨⟨0,0,0,0,0,0⟩,rfl,(fun c hc=>by cases hc),hB2⟩
 case inr.inr.inr.inr.inr=>
  have h4':((l.length:Int) !=(g:Int)+6)=false:=by simpa using h4
  obtain⟨b,off,rfl,mQ,u5⟩:=d9.gY (hl.up hall) (show g+2<l.length by omega)
  obtain⟨b',off',hA',_,u6⟩:=d9.gY (hl.up hall) h5
  obtain⟨rfl,rfl⟩:b=b'∧off=off':=by simpa using hA'
  have hw:(l[g+4].toList==[115,108,97,99,107])=false:=by
   have:(l[g+4].toList==Pl.eu.toList)=false:=by rw[dF];exact decide_eq_false h7
   rw[show Pl.eu.toList=[115,108,97,99,107] from by unfold Pl.eu;rw[ByteArray.toList_eq]]at this
   exact this
  rw[h6]at u5
  unfold Pl.fT at u5
  obtain⟨y,hy⟩: ∃y,l[g+4]=y:=⟨_,rfl⟩
  rw[hy]at u6 hw
  have f1:IntKind.i64.wrap ((g:Int)+2)=(g:Int)+2:=IntWalk.i64_in _ (by omega)
  have f2:(0:Int)<=(g:Int)+2:=by omega
  have f3:((g:Int)+2).toNat=g+2:=by omega
  have f4:(g:Int)+2<(l.length:Int):=by omega
  have m1:IntKind.i64.wrap ((g:Int)+4)=(g:Int)+4:=IntWalk.i64_in _ (by omega)
  have m2:(0:Int)<=(g:Int)+4:=by omega
  have m3:((g:Int)+4).toNat=g+4:=by omega
  have m4:(g:Int)+4<(l.length:Int):=by omega
  clear h4 h5 h6 h7 hy hA'
  go_enter func171,ntmps171
  go_wp2_with fail
  refine(pp _ hall).mono ?_
  rintro e w' ⟨rfl,rfl⟩
  go_wp2_with fail
  refine(pq _ hall).mono ?_
  rintro e w' ⟨rfl,rfl⟩
  go_wp2_with fail
  refine bodyPost_ret (v:=.tuple #[.agg z6,.bool false]) (by simp[results,results171,go_sem,l2]) rfl ?_
  exact⟨⟨0,0,0,0,0,0⟩,rfl,(fun c hc=>by cases hc),hB2⟩
 all_goals (
  go_enter func171,ntmps171
  go_wp2_with fail
  refine(pp _ hall).mono ?_
  rintro e w' ⟨rfl,rfl⟩
  go_wp2_with fail
  refine(pq _ hall).mono ?_
  rintro e w' ⟨rfl,rfl⟩
  go_wp2_with fail
  refine bodyPost_ret (v:=.tuple #[.agg z6,.bool false]) (by simp[results,results171,go_sem,l2]) rfl ?_
  exact⟨⟨0,0,0,0,0,0⟩,rfl,(fun c hc=>by cases hc),hB2⟩)
theorem GZ (b off c0 bn gn:Nat)(l:List ByteArray)(n d ne x s e1 e2:Int)(a b' c R:Bool)(w:World)(hl:d9 w w.heap.size (some ⟨b,off,none⟩) l)(hcap:l.length<=c0)(ht:Pl.tot l<=100000)(hp:Pl.idx (fun x=>decide (x=⟨#[98,121]⟩)) l=some bn)(hq:Pl.idx (fun x=>decide (x=⟨#[103,105,118,101]⟩)) l=some gn)
  (h1:1<=bn) (h6:bn<=6) (hbg:bn+2<=gn) (Sl:l.length=gn+6) (hw1:l[gn+2]=Pl.fT) (hw2:l[gn+4]=Pl.eu)
  (qc1: ∀W,Below w.heap.size w W->Calls prog 237 #[.string (Pl.eZ (l.take bn))] W fun e w'=>e=.returned (.tuple (i2 n e1))∧Below W.heap.size W w')
  (qc2: ∀W,Below w.heap.size w W->Calls prog 239 #[.string (Pl.eZ ((l.drop (bn+1)).take (gn-(bn+1))))] W fun e w'=>e=.returned (.tuple (i2 d e2))∧Below W.heap.size W w')
  (qc3: ∀W,Below w.heap.size w W->Calls prog 147 #[.string l[gn+1]] W fun e w'=>e=.returned (.tuple #[.int .i64 ne,.bool a])∧W=w')
  (qc4: ∀W,Below w.heap.size w W->Calls prog 148 #[.string l[gn+3]] W fun e w'=>e=.returned (.tuple #[.int .i64 x,.bool b'])∧W=w')
  (qc5: ∀W,Below w.heap.size w W->Calls prog 147 #[.string l[gn+5]] W fun e w'=>e=.returned (.tuple #[.int .i64 s,.bool c])∧W=w')
  (hL:(e1=4∧R=false)∨(e1=0∧e2=4∧R=false)∨(e1=0∧e2=0∧Pl.bQ n 1 100000=false∧R=false)∨(e1=0∧e2=0∧Pl.bQ n 1 100000=true∧a=false∧R=false)∨(e1=0∧e2=0∧Pl.bQ n 1 100000=true∧a=true∧b'=false∧R=false)∨(e1=0∧e2=0∧Pl.bQ n 1 100000=true∧a=true∧b'=true∧R=c)):
  Calls prog 171 #[.slice (some ⟨b,off,none⟩) l.length c0] w fun e w'=>e=.returned (.tuple #[.agg (i6 d ne n 0 x s),.bool R])∧Below w.heap.size w w':=by
 have hlen:=Pl.wm l
 have kr:=heap_alloc_new w (.cells z6 46)
 have hall:Below w.heap.size w (w.alloc (.cells z6 46)):=(Below.refl _ w).alloc (Nat.le_refl _) _
 have pp:=fun W (hW:Below w.heap.size w W)=>nC (some ⟨b,off,none⟩) c0 l ⟨#[98,121]⟩ W (hl.up hW) (by omega)
 have pq:=fun W (hW:Below w.heap.size w W)=>nC (some ⟨b,off,none⟩) c0 l ⟨#[103,105,118,101]⟩ W (hl.up hW) (by omega)
 rw[hp]at pp
 rw[hq]at pq
 simp only[Pl.pos]at pp pq
 have t1:(l.take bn).length=bn:=by rw[List.length_take];omega
 have t2:((l.drop (bn+1)).take (gn-(bn+1))).length=gn-(bn+1):=by rw[List.length_take,List.length_drop];omega
 have UK:=fun W (hW:Below w.heap.size w W)=>IZ (some ⟨b,off,none⟩) c0 (l.take bn) W ((hl.up hW).take bn) (Nat.le_trans (Pl.tC l bn) ht)
 have UL:=fun W (hW:Below w.heap.size w W)=>IZ (some ⟨b,off+(bn+1),none⟩) (c0-(bn+1)) ((l.drop (bn+1)).take (gn-(bn+1))) W ((xg (hl.up hW) (bn+1)).take (gn-(bn+1))) (Nat.le_trans (Pl.tC _ _) (Nat.le_trans (Pl.yT l _) ht))
 simp only[t1]at UK
 simp only[t2]at UL
 have ca:=fun(k:Nat) (hk:k<l.length) W (hW:Below w.heap.size w W)=>(show W.cell? ⟨b,off+k,none⟩=some (.string l[k]) by
  obtain⟨b2,off2,hA,_,u⟩:=d9.gY (hl.up hW) hk
  obtain⟨rfl,rfl⟩:b=b2∧off=off2:=by simpa using hA
  exact u)
 have V7:=ca (gn+1) (by omega)
 have UM:=ca (gn+2) (by omega)
 have V8:=ca (gn+3) (by omega)
 have UN:=ca (gn+4) (by omega)
 have V9:=ca (gn+5) (by omega)
 rw[hw1]at UM
 rw[hw2]at UN
 unfold Pl.fT at UM
 unfold Pl.eu at UN
 have HL:=Lib.hid hL
 clear hL
 have Zk:=Lib.hid Sl
 have hle:=Lib.hid (show l.length<=c0∧gn+5<l.length from⟨hcap,by omega⟩)
 obtain⟨J1,Ut⟩: ∃J,Pl.eZ (l.take bn)=J:=⟨_,rfl⟩
 obtain⟨J2,hJ2⟩: ∃J,Pl.eZ ((l.drop (bn+1)).take (gn-(bn+1)))=J:=⟨_,rfl⟩
 obtain⟨y1,hy1⟩: ∃y,l[gn+1]=y:=⟨_,rfl⟩
 obtain⟨y3,hy3⟩: ∃y,l[gn+3]=y:=⟨_,rfl⟩
 obtain⟨y5,UG⟩: ∃y,l[gn+5]=y:=⟨_,rfl⟩
 rw[Ut]at UK qc1
 rw[hJ2]at UL qc2
 rw[hy1]at V7 qc3
 rw[hy3]at V8 qc4
 rw[UG]at V9 qc5
 clear Ut hJ2 hy1 hy3 UG hw1 hw2 hp hq ca t1 t2
 have V_:=Lib.hid V7
 have Xx:=Lib.hid UM
 have Wd:=Lib.hid V8
 have Xy:=Lib.hid UN
 have Wh:=Lib.hid V9
 clear V7 UM V8 UN V9
 have a1:IntKind.i64.wrap ((gn:Int)+1)=(gn:Int)+1:=IntWalk.i64_in _ (by omega)
 have b1:(0:Int)<=(gn:Int)+1:=by omega
 have d1:((gn:Int)+1).toNat=gn+1:=by omega
 have f1:(gn:Int)+1<(l.length:Int):=by omega
 have a2:IntKind.i64.wrap ((gn:Int)+2)=(gn:Int)+2:=IntWalk.i64_in _ (by omega)
 have b2:(0:Int)<=(gn:Int)+2:=by omega
 have d2:((gn:Int)+2).toNat=gn+2:=by omega
 have f2:(gn:Int)+2<(l.length:Int):=by omega
 have a3:IntKind.i64.wrap ((gn:Int)+3)=(gn:Int)+3:=IntWalk.i64_in _ (by omega)
 have b3:(0:Int)<=(gn:Int)+3:=by omega
 have d3:((gn:Int)+3).toNat=gn+3:=by omega
 have f3:(gn:Int)+3<(l.length:Int):=by omega
 have a4:IntKind.i64.wrap ((gn:Int)+4)=(gn:Int)+4:=IntWalk.i64_in _ (by omega)
 have b4:(0:Int)<=(gn:Int)+4:=by omega
 have d4:((gn:Int)+4).toNat=gn+4:=by omega
 have f4:(gn:Int)+4<(l.length:Int):=by omega
 have a5:IntKind.i64.wrap ((gn:Int)+5)=(gn:Int)+5:=IntWalk.i64_in _ (by omega)
 have b5:(0:Int)<=(gn:Int)+5:=by omega
 have d5:((gn:Int)+5).toNat=gn+5:=by omega
 have f5:(gn:Int)+5<(l.length:Int):=by omega
 have e6:IntKind.i64.wrap ((gn:Int)+6)=(gn:Int)+6:=IntWalk.i64_in _ (by omega)
 have e7:IntKind.i64.wrap ((bn:Int)+2)=(bn:Int)+2:=IntWalk.i64_in _ (by omega)
 have e8:IntKind.i64.wrap ((bn:Int)+1)=(bn:Int)+1:=IntWalk.i64_in _ (by omega)
 have m1: ¬(bn:Int)<1:=by omega
 have m2: ¬(6:Int)<(bn:Int):=by omega
 have m3: ¬(gn:Int)<(bn:Int)+2:=by omega
 have m4:((l.length:Int) !=(gn:Int)+6)=false:=by rw[Sl];simp
 have m5:(0:Int)<=(bn:Int)+1:=by omega
 have m6:((bn:Int)+1).toNat=bn+1:=by omega
 have m7:(bn:Int)+1<=(gn:Int):=by omega
 have m8:(gn:Int)<=(c0:Int):=by omega
 have m9:(bn:Int)<=(c0:Int):=by omega
 clear Sl hbg h1 h6 hcap Zk hle ht
 have Jc:=V_.out _ hall
 have NQ:=Xx.out _ hall
 have Jd:=Wd.out _ hall
 have Zl:=Xy.out _ hall
 have Wi:=Wh.out _ hall
 go_enter func171,ntmps171
 go_wp2_with fail
 refine(pp _ hall).mono ?_
 rintro e w' ⟨rfl,rfl⟩
 go_wp2_with fail
 refine(pq _ hall).mono ?_
 rintro e w' ⟨rfl,rfl⟩
 clear pp pq Jc Jd Wi
 go_wp2_with fail
 clear NQ Zl
 refine(UK _ hall).mono ?_
 rintro e w' ⟨rfl,rfl⟩
 go_wp2_with fail
 refine(qc1 _ hall).mono ?_
 rintro e w5 ⟨rfl,hx⟩
 have kr:=kE hx kr
 have hall:Below w.heap.size w w5:=hall.trans (hx.mono hall.size)
 clear hx
 go_wp2_with fail
 refine(UL _ hall).mono ?_
 rintro e w' ⟨rfl,rfl⟩
 go_wp2_with fail
 refine(qc2 _ hall).mono ?_
 rintro e w7 ⟨rfl,hx⟩
 have kr:=kE hx kr
 have hall:Below w.heap.size w w7:=hall.trans (hx.mono hall.size)
 have Jc:=V_.out _ hall
 have Jd:=Wd.out _ hall
 have Wi:=Wh.out _ hall
 clear hx
 go_wp2_with fail
 refine(qc3 _ hall).mono ?_
 rintro e w' ⟨rfl,rfl⟩
 go_wp2_with fail
 refine(qc4 _ hall).mono ?_
 rintro e w' ⟨rfl,rfl⟩
 go_wp2_with fail
 refine(qc5 _ hall).mono ?_
 rintro e w' ⟨rfl,rfl⟩
 clear a1 a2 a3 a4 a5 b1 b2 b3 b4 b5 d1 d2 d3 d4 d5 f1 f2 f3 f4 f5 e6 e7 e8 m1 m2 m3 m4 m5 m6 m7 m8 m9 V_ Xx Wd Xy Wh Jc Jd Wi qc1 qc2 qc3 qc4 qc5 UK UL
 have kx:=heap_alloc_new w7 (.cells z6 46)
 obtain⟨X1,st1,k16,hg1⟩:=aG (w7.alloc (.cells z6 46)) w7.heap.size _ 46 _ (i6 d ne n 0 x s) kx jU rfl (by simp[Value.oneCell'])
 have hx1:Below w7.heap.size w7 X1:=((Below.refl _ w7).alloc (Nat.le_refl _) _).grown hg1 (by simp) (fun j e=>by cases e;exact Nat.le_refl _)
 have um:=kE hx1 kr
 have aK:Below w.heap.size w X1:=hall.trans (hx1.mono hall.size)
 have lS:=ak (show X1.drew.heap[w7.heap.size]?=_ from k16) underlying46 rfl jU
 obtain⟨W4,Ro,zX,hg4⟩:=aG X1.drew w.heap.size _ 46 _ (i6 d ne n 0 x s) (show X1.drew.heap[w.heap.size]?=_ from um) jU rfl (by simp[Value.oneCell'])
 have l4:=ak zX underlying46 rfl jU
 have Uh:W4.heap[w7.heap.size]?=_:=(hg4.block _ (lO k16) (by have:=lO kr;simp;omega)).trans k16
 have Sm:=ak Uh underlying46 rfl jU
 have hB4:Below w.heap.size w W4:=aK.drew.grown hg4 aK.size (fun k e=>by cases e;exact Nat.le_refl _)
 clear kx hg1 hx1 hg4 zX Uh um k16 aK
 go_wp2_with fail
 clear kr hall hlen
 have hl5:=HL.out
 clear HL
 rcases hl5 with ⟨rfl,rfl⟩|⟨rfl,rfl,rfl⟩|⟨rfl,rfl,hW,rfl⟩|⟨rfl,rfl,hW,rfl,rfl⟩|⟨rfl,rfl,hW,rfl,rfl,rfl⟩|⟨rfl,rfl,hW,rfl,rfl,rfl⟩
 ·refine wp_region_held_drew (S:=fun W=>(loadVar 46 ⟨w7.heap.size,0,none⟩).run prog W=.ok (.agg (i6 d ne n 0 x s)) W) (by kernel_rfl) lS (fun hHeld=> ?_)
  refine tJ 0 109 rfl rfl ?_
  try simp only[au]
  refine tJ 1 110 rfl rfl ?_
  try simp only[au]
  refine tJ 2 111 rfl rfl ?_
  try simp only[au]
  refine tJ 3 112 rfl rfl ?_
  try simp only[au]
  refine tU 4 113 rfl rfl ?_
  try simp only[au]
  refine tU 5 114 rfl rfl ?_
  try simp only[au]
  refine tJ 6 115 rfl rfl ?_
  try simp only[au]
  refine tJ 7 116 rfl rfl ?_
  try simp only[au]
  refine tU 8 117 rfl rfl ?_
  try simp only[au]
  refine tU 9 118 rfl rfl ?_
  try simp only[au]
  refine tJ 10 119 rfl rfl ?_
  try simp only[au]
  refine tJ 11 120 rfl rfl ?_
  try simp only[au]
  refine tU 12 121 rfl rfl ?_
  try simp only[au]
  refine tJ 13 122 rfl rfl ?_
  try simp only[au]
  refine tJ 14 123 rfl rfl ?_
  try simp only[au]
  refine tU 15 124 rfl rfl ?_
  try simp only[au]
  refine tJ 16 125 rfl rfl ?_
  try simp only[au]
  refine tJ 17 126 rfl rfl ?_
  try simp only[au]
  refine tU 18 127 rfl rfl ?_
  try simp only[au]
  refine tJ 19 128 rfl rfl ?_
  try simp only[au]
  refine wpAnyH_ready (rs:=[20]) (by kernel_rfl) (by simp) ?_
  refine aI none rfl rfl (fun K hK=> ?_) AllReadyH.nil
  go_simp
  refine hK.out _ _ Sm (fun hHeld=> ?_)
  clear hK K
  try simp only[au]
  refine tJ 21 3 rfl rfl ?_
  try simp only[au]
  refine wpAnyH_done (by kernel_rfl) ?_ _
  go_wp2
  refine bodyPost_ret (v:=.tuple #[.agg (i6 d ne n 0 x s),.bool false]) (by simp[results,results171,go_sem,l4]) rfl ?_
  exact⟨rfl,hB4⟩
 ·refine wp_region_held_drew (S:=fun W=>(loadVar 46 ⟨w7.heap.size,0,none⟩).run prog W=.ok (.agg (i6 d ne n 0 x s)) W) (by kernel_rfl) lS (fun hHeld=> ?_)
  refine tJ 0 109 rfl rfl ?_
  try simp only[au]
  refine tJ 1 110 rfl rfl ?_
  try simp only[au]
  refine tJ 2 111 rfl rfl ?_
  try simp only[au]
  refine tJ 3 112 rfl rfl ?_
  try simp only[au]
  refine tJ 4 113 rfl rfl ?_
  try simp only[au]
  refine tJ 5 114 rfl rfl ?_
  try simp only[au]
  refine tJ 6 115 rfl rfl ?_
  try simp only[au]
  refine tJ 7 116 rfl rfl ?_
  try simp only[au]
  refine tU 8 117 rfl rfl ?_
  try simp only[au]
  refine tU 9 118 rfl rfl ?_
  try simp only[au]
  refine tJ 10 119 rfl rfl ?_
  try simp only[au]
  refine tJ 11 120 rfl rfl ?_
  try simp only[au]
  refine tU 12 121 rfl rfl ?_
  try simp only[au]
  refine tJ 13 122 rfl rfl ?_
  try simp only[au]
  refine tJ 14 123 rfl rfl ?_
  try simp only[au]
  refine tU 15 124 rfl rfl ?_
  try simp only[au]
  refine tJ 16 125 rfl rfl ?_
  try simp only[au]
  refine tJ 17 126 rfl rfl ?_
  try simp only[au]
  refine tU 18 127 rfl rfl ?_
  try simp only[au]
  refine tJ 19 128 rfl rfl ?_
  try simp only[au]
  refine wpAnyH_ready (rs:=[20]) (by kernel_rfl) (by simp) ?_
  refine aI none rfl rfl (fun K hK=> ?_) AllReadyH.nil
  go_simp
  refine hK.out _ _ Sm (fun hHeld=> ?_)
  clear hK K
  try simp only[au]
  refine tJ 21 3 rfl rfl ?_
  try simp only[au]
  refine wpAnyH_done (by kernel_rfl) ?_ _
  go_wp2
  refine bodyPost_ret (v:=.tuple #[.agg (i6 d ne n 0 x s),.bool false]) (by simp[results,results171,go_sem,l4]) rfl ?_
  exact⟨rfl,hB4⟩
 ·have HW:=Lib.hid hW
  clear hW
  refine wp_region_held_drew (S:=fun W=>(loadVar 46 ⟨w7.heap.size,0,none⟩).run prog W=.ok (.agg (i6 d ne n 0 x s)) W) (by kernel_rfl) lS (fun hHeld=> ?_)
  refine tJ 0 109 rfl rfl ?_
  try simp only[au]
  refine tJ 1 110 rfl rfl ?_
  try simp only[au]
  refine tJ 2 111 rfl rfl ?_
  try simp only[au]
  refine tJ 3 112 rfl rfl ?_
  try simp only[au]
  refine tJ 4 113 rfl rfl ?_
  try simp only[au]
  refine tJ 5 114 rfl rfl ?_
  try simp only[au]
  refine tJ 6 115 rfl rfl ?_
  try simp only[au]
  refine tJ 7 116 rfl rfl ?_
  try simp only[au]
  refine tJ 8 117 rfl rfl ?_
  try simp only[au]
  refine wpAnyH_ready (rs:=[9]) (by kernel_rfl) (by simp) ?_
  refine aI (some 118) rfl rfl (fun K hK=> ?_) AllReadyH.nil
  go_simp
  refine(bW _ _ _ _).mono ?_
  rintro e w' ⟨rfl,rfl⟩
  rw[HW.out]
  refine hK.out _ _ lS (fun hHeld=> ?_)
  clear hK K
  try simp only[au]
  refine tJ 10 119 rfl rfl ?_
  try simp only[au]
  refine tJ 11 120 rfl rfl ?_
  try simp only[au]
  refine tU 12 121 rfl rfl ?_
  try simp only[au]
  refine tJ 13 122 rfl rfl ?_
  try simp only[au]
  refine tJ 14 123 rfl rfl ?_
  try simp only[au]
  refine tU 15 124 rfl rfl ?_
  try simp only[au]
  refine tJ 16 125 rfl rfl ?_
  try simp only[au]
  refine tJ 17 126 rfl rfl ?_
  try simp only[au]
  refine tU 18 127 rfl rfl ?_
  try simp only[au]
  refine tJ 19 128 rfl rfl ?_
  try simp only[au]
  refine wpAnyH_ready (rs:=[20]) (by kernel_rfl) (by simp) ?_
  refine aI none rfl rfl (fun K hK=> ?_) AllReadyH.nil
  go_simp
  refine hK.out _ _ Sm (fun hHeld=> ?_)
  clear hK K
  try simp only[au]
  refine tJ 21 3 rfl rfl ?_
  try simp only[au]
  refine wpAnyH_done (by kernel_rfl) ?_ _
  go_wp2
  refine bodyPost_ret (v:=.tuple #[.agg (i6 d ne n 0 x s),.bool false]) (by simp[results,results171,go_sem,l4]) rfl ?_
  exact⟨rfl,hB4⟩
 ·have HW:=Lib.hid hW
  clear hW
  refine wp_region_held_drew (S:=fun W=>(loadVar 46 ⟨w7.heap.size,0,none⟩).run prog W=.ok (.agg (i6 d ne n 0 x s)) W) (by kernel_rfl) lS (fun hHeld=> ?_)
  refine tJ 0 109 rfl rfl ?_
  try simp only[au]
  refine tJ 1 110 rfl rfl ?_
  try simp only[au]
  refine tJ 2 111 rfl rfl ?_
  try simp only[au]
  refine tJ 3 112 rfl rfl ?_
  try simp only[au]
  refine tJ 4 113 rfl rfl ?_
  try simp only[au]
  refine tJ 5 114 rfl rfl ?_
  try simp only[au]
  refine tJ 6 115 rfl rfl ?_
  try simp only[au]
  refine tJ 7 116 rfl rfl ?_
  try simp only[au]
  refine tJ 8 117 rfl rfl ?_
  try simp only[au]
  refine wpAnyH_ready (rs:=[9]) (by kernel_rfl) (by simp) ?_
  refine aI (some 118) rfl rfl (fun K hK=> ?_) AllReadyH.nil
  go_simp
  refine(bW _ _ _ _).mono ?_
  rintro e w' ⟨rfl,rfl⟩
  rw[HW.out]
  refine hK.out _ _ lS (fun hHeld=> ?_)
  clear hK K
  try simp only[au]
  refine tJ 10 119 rfl rfl ?_
  try simp only[au]
  refine tJ 11 120 rfl rfl ?_
  try simp only[au]
  refine tJ 12 121 rfl rfl ?_
  try simp only[au]
  refine tJ 13 122 rfl rfl ?_
  try simp only[au]
  refine tJ 14 123 rfl rfl ?_
  try simp only[au]
  refine tU 15 124 rfl rfl ?_
  try simp only[au]
  refine tJ 16 125 rfl rfl ?_
  try simp only[au]
  refine tJ 17 126 rfl rfl ?_
  try simp only[au]
  refine tU 18 127 rfl rfl ?_
  try simp only[au]
  refine tJ 19 128 rfl rfl ?_
  try simp only[au]
  refine wpAnyH_ready (rs:=[20]) (by kernel_rfl) (by simp) ?_
  refine aI none rfl rfl (fun K hK=> ?_) AllReadyH.nil
  go_simp
  refine hK.out _ _ Sm (fun hHeld=> ?_)
  clear hK K
  try simp only[au]
  refine tJ 21 3 rfl rfl ?_
  try simp only[au]
  refine wpAnyH_done (by kernel_rfl) ?_ _
  go_wp2
  refine bodyPost_ret (v:=.tuple #[.agg (i6 d ne n 0 x s),.bool false]) (by simp[results,results171,go_sem,l4]) rfl ?_
  exact⟨rfl,hB4⟩
 ·have HW:=Lib.hid hW
  clear hW
  refine wp_region_held_drew (S:=fun W=>(loadVar 46 ⟨w7.heap.size,0,none⟩).run prog W=.ok (.agg (i6 d ne n 0 x s)) W) (by kernel_rfl) lS (fun hHeld=> ?_)
  refine tJ 0 109 rfl rfl ?_
  try simp only[au]
  refine tJ 1 110 rfl rfl ?_
  try simp only[au]
  refine tJ 2 111 rfl rfl ?_
  try simp only[au]
  refine tJ 3 112 rfl rfl ?_
  try simp only[au]
  refine tJ 4 113 rfl rfl ?_
  try simp only[au]
  refine tJ 5 114 rfl rfl ?_
  try simp only[au]
  refine tJ 6 115 rfl rfl ?_
  try simp only[au]
  refine tJ 7 116 rfl rfl ?_
  try simp only[au]
  refine tJ 8 117 rfl rfl ?_
  try simp only[au]
  refine wpAnyH_ready (rs:=[9]) (by kernel_rfl) (by simp) ?_
  refine aI (some 118) rfl rfl (fun K hK=> ?_) AllReadyH.nil
  go_simp
  refine(bW _ _ _ _).mono ?_
  rintro e w' ⟨rfl,rfl⟩
  rw[HW.out]
  refine hK.out _ _ lS (fun hHeld=> ?_)
  clear hK K
  try simp only[au]
  refine tJ 10 119 rfl rfl ?_
  try simp only[au]
  refine tJ 11 120 rfl rfl ?_
  try simp only[au]
  refine tJ 12 121 rfl rfl ?_
  try simp only[au]
  refine tJ 13 122 rfl rfl ?_
  try simp only[au]
  refine tJ 14 123 rfl rfl ?_
  try simp only[au]
  refine tJ 15 124 rfl rfl ?_
  try simp only[au]
  refine tJ 16 125 rfl rfl ?_
  try simp only[au]
  refine tJ 17 126 rfl rfl ?_
  try simp only[au]
  refine tU 18 127 rfl rfl ?_
  try simp only[au]
  refine tJ 19 128 rfl rfl ?_
  try simp only[au]
  refine wpAnyH_ready (rs:=[20]) (by kernel_rfl) (by simp) ?_
  refine aI none rfl rfl (fun K hK=> ?_) AllReadyH.nil
  go_simp
  refine hK.out _ _ Sm (fun hHeld=> ?_)
  clear hK K
  try simp only[au]
  refine tJ 21 3 rfl rfl ?_
  try simp only[au]
  refine wpAnyH_done (by kernel_rfl) ?_ _
  go_wp2
  refine bodyPost_ret (v:=.tuple #[.agg (i6 d ne n 0 x s),.bool false]) (by simp[results,results171,go_sem,l4]) rfl ?_
  exact⟨rfl,hB4⟩
 ·have HW:=Lib.hid hW
  clear hW
  refine wp_region_held_drew (S:=fun W=>(loadVar 46 ⟨w7.heap.size,0,none⟩).run prog W=.ok (.agg (i6 d ne n 0 x s)) W) (by kernel_rfl) lS (fun hHeld=> ?_)
  refine tJ 0 109 rfl rfl ?_
  try simp only[au]
  refine tJ 1 110 rfl rfl ?_
  try simp only[au]
  refine tJ 2 111 rfl rfl ?_
  try simp only[au]
  refine tJ 3 112 rfl rfl ?_
  try simp only[au]
  refine tJ 4 113 rfl rfl ?_
  try simp only[au]
  refine tJ 5 114 rfl rfl ?_
  try simp only[au]
  refine tJ 6 115 rfl rfl ?_
  try simp only[au]
  refine tJ 7 116 rfl rfl ?_
  try simp only[au]
  refine tJ 8 117 rfl rfl ?_
  try simp only[au]
  refine wpAnyH_ready (rs:=[9]) (by kernel_rfl) (by simp) ?_
  refine aI (some 118) rfl rfl (fun K hK=> ?_) AllReadyH.nil
  go_simp
  refine(bW _ _ _ _).mono ?_
  rintro e w' ⟨rfl,rfl⟩
  rw[HW.out]
  refine hK.out _ _ lS (fun hHeld=> ?_)
  clear hK K
  try simp only[au]
  refine tJ 10 119 rfl rfl ?_
  try simp only[au]
  refine tJ 11 120 rfl rfl ?_
  try simp only[au]
  refine tJ 12 121 rfl rfl ?_
  try simp only[au]
  refine tJ 13 122 rfl rfl ?_
  try simp only[au]
  refine tJ 14 123 rfl rfl ?_
  try simp only[au]
  refine tJ 15 124 rfl rfl ?_
  try simp only[au]
  refine tJ 16 125 rfl rfl ?_
  try simp only[au]
  refine tJ 17 126 rfl rfl ?_
  try simp only[au]
  refine tJ 18 127 rfl rfl ?_
  try simp only[au]
  refine tJ 19 128 rfl rfl ?_
  try simp only[au]
  refine wpAnyH_ready (rs:=[20]) (by kernel_rfl) (by simp) ?_
  refine aI none rfl rfl (fun K hK=> ?_) AllReadyH.nil
  go_simp
  refine hK.out _ _ Sm (fun hHeld=> ?_)
  clear hK K
  try simp only[au]
  refine tJ 21 3 rfl rfl ?_
  try simp only[au]
  refine wpAnyH_done (by kernel_rfl) ?_ _
  go_wp2
  refine bodyPost_ret (v:=.tuple #[.agg (i6 d ne n 0 x s),.bool R]) (by simp[results,results171,go_sem,l4]) rfl ?_
  exact⟨rfl,hB4⟩
end Go.Proofs
namespace Go.Proofs
open Tryz RowKit
theorem yX.of {o:Option Pl.bF}{w w':World}{e:Ending}(C:Pl.bF)(R:Bool)(h:e=.returned (.tuple #[.agg (cq C),.bool R]))(hR:o.isSome=R)(hC: ∀c,o=some c->C=c)(hb:Below w.heap.size w w'):yX o w e w':=⟨C,by rw[hR];exact h,hC,hb⟩
theorem Kh {l:List ByteArray}(h: ∀b g,Pl.idx (fun x=>decide (x=Pl.rM)) l=some b->Pl.idx (fun x=>decide (x=Pl.eD)) l=some g-> ¬(1<=b∧b<=6∧b+2<=g∧l.length=g+6∧Pl.wd l (g+2)=Pl.fT∧Pl.wd l (g+4)=Pl.eu)):Pl.qC l=Option.none:=by
 unfold Pl.qC
 split
 ·rename_i b g hb hg
  rw[if_neg (h b g hb hg)]
 ·rfl
theorem I4 (n:Int):Pl.bQ n 1 100000=true↔1<=n∧n<=100000:=by unfold Pl.bQ;simp
theorem Aq (A:Option Addr)(c0:Nat)(l:List ByteArray)(w:World)(hl:d9 w w.heap.size A l)(hcap:l.length<=c0)(ht:Pl.tot l<=100000):
  Calls prog 171 #[.slice A l.length c0] w (yX (Pl.qC l) w):=by
 have hlen:=Pl.wm l
 by_cases hok: ∃b g,Pl.idx (fun x=>decide (x=Pl.rM)) l=some b∧Pl.idx (fun x=>decide (x=Pl.eD)) l=some g∧1<=b∧b<=6∧b+2<=g∧l.length=g+6∧Pl.wd l (g+2)=Pl.fT∧Pl.wd l (g+4)=Pl.eu
 ·obtain⟨b,g,hb,hg,h1,h6,hbg,Sl,hw1,hw2⟩:=hok
  have PU: ∀k (h:k<l.length),Pl.wd l k=l[k]:=fun k h=>by unfold Pl.wd;rw[List.getElem?_eq_getElem h];rfl
  rw[PU _ (by omega)]at hw1 hw2
  obtain⟨bl,off,hA,_,_⟩:=d9.gY hl (k:=0) (by omega)
  subst hA
  have hj1:(Pl.eZ (l.take b)).size<=100000:=by
   have:=Nat.le_trans (Pl.yU (l.take b)) (Nat.le_trans (Pl.tC l b) ht)
   unfold Pl.eZ Pl.q9
   show(Lib.join _ [32]).toArray.size<=100000
   rw[List.size_toArray];exact this
  have z:=fun k (h:k<l.length)=>Pl.gQ (List.getElem_mem (l:=l) h)
  have z1:=z (g+1) (by omega)
  have z3:=z (g+3) (by omega)
  have z5:=z (g+5) (by omega)
  obtain⟨o1,ho1⟩: ∃o,Pl.fG Pl.cO Pl.aY (Pl.eZ (l.take b))=o:=⟨_,rfl⟩
  obtain⟨o2,ho2⟩: ∃o,Pl.fQ (Pl.eZ ((l.drop (b+1)).take (g-(b+1))))=o:=⟨_,rfl⟩
  obtain⟨o3,ho3⟩: ∃o,Pl.bV l[g+1]=o:=⟨_,rfl⟩
  obtain⟨o4,Xz⟩: ∃o,Pl.fK l[g+3]=o:=⟨_,rfl⟩
  obtain⟨o5,XA⟩: ∃o,Pl.bV l[g+5]=o:=⟨_,rfl⟩
  have hv:Pl.qC l=(o1.bind fun m=>if 1<=m∧m<=100000 then some m else Option.none).bind fun n=>o2.bind fun d=>o3.bind fun ne=>o4.bind fun x=>o5.map fun s=>⟨d,ne,n,0,x,s⟩:=by
   unfold Pl.qC
   rw[hb,hg]
   simp only
   rw[if_pos ⟨h1,h6,hbg,Sl,by rw[PU _ (by omega)];exact hw1,by rw[PU _ (by omega)];exact hw2⟩,PU (g+1) (by omega),PU (g+3) (by omega),PU (g+5) (by omega),ho2,ho3,Xz,XA]
   unfold Pl.iQ
   rw[ho1]
  have h:=GZ bl off c0 b g l (kJ o1) (kJ o2) (o3.getD 0) (o4.getD 0) (o5.getD 0) (lZ o1) (lZ o2) o3.isSome o4.isSome o5.isSome (Pl.qC l).isSome w hl hcap ht hb hg h1 h6 hbg Sl hw1 hw2
   (fun W hW=>by rw[<-ho1];exact EN _ W hj1) (fun W hW=>by rw[<-ho2];exact RU _ W)
   (fun W hW=>jd _ o3 W (Lib.hid ho3) (by omega)) (fun W hW=>Ap _ o4 W (Lib.hid Xz) (by omega)) (fun W hW=>jd _ o5 W (Lib.hid XA) (by omega))
   (by
    rw[hv]
    unfold lZ kJ
    cases o1 with
    |none=>exact .inl ⟨rfl,rfl⟩
    |some m=>
    cases o2 with
    |none=>exact .inr (.inl ⟨rfl,rfl,by simp⟩)
    |some d=>
    cases hi:Pl.bQ m 1 100000 with
    |false=>
     have: ¬(1<=m∧m<=100000):=fun h=>by rw[<-I4,hi]at h;cases h
     exact .inr (.inr (.inl ⟨rfl,rfl,hi,by simp[this]⟩))
    |true=>
     have hm:=(I4 m).1 hi
     cases o3 with
     |none=>exact .inr (.inr (.inr (.inl ⟨rfl,rfl,hi,rfl,by simp⟩)))
     |some ne=>
     cases o4 with
     |none=>exact .inr (.inr (.inr (.inr (.inl ⟨rfl,rfl,hi,rfl,rfl,by simp⟩))))
     |some x=>exact .inr (.inr (.inr (.inr (.inr ⟨rfl,rfl,hi,rfl,rfl,by simp[hm]⟩)))))
  refine h.mono ?_
  rintro e w' ⟨rfl,hb'⟩
  refine yX.of ⟨kJ o2,o3.getD 0,kJ o1,0,o4.getD 0,o5.getD 0⟩ _ rfl rfl (fun c hc=> ?_) hb'
  rw[hv]at hc
  obtain⟨n,hn,hc2⟩:=Option.bind_eq_some_iff.1 hc
  clear hc h
  obtain⟨m,rfl,hn2⟩:=Option.bind_eq_some_iff.1 hn
  obtain⟨d,rfl,hc3⟩:=Option.bind_eq_some_iff.1 hc2
  obtain⟨ne,rfl,hc4⟩:=Option.bind_eq_some_iff.1 hc3
  obtain⟨x,rfl,V6⟩:=Option.bind_eq_some_iff.1 hc4
  obtain⟨s,rfl,rfl⟩:=Option.map_eq_some_iff.1 V6
  split at hn2
  ·cases hn2;rfl
  ·cases hn2
 ·have Zm:Pl.qC l=Option.none:=Kh fun b g hb hg h=>hok ⟨b,g,hb,hg,h⟩
  rw[Zm]
  have PU: ∀k (h:k<l.length),Pl.wd l k=l[k]:=fun k h=>by unfold Pl.wd;rw[List.getElem?_eq_getElem h];rfl
  have bnd: ∀(o:Option Nat),(∀i,o=some i->i<l.length)-> -1<=Pl.pos o∧Pl.pos o<=100000:=fun o h=>by
   cases o with
   |none=>exact⟨by show(-1:Int)<= -1;omega,by show(-1:Int)<=100000;omega⟩
   |some i=>
    have:=h i rfl
    exact⟨by unfold Pl.pos;simp only;omega,by unfold Pl.pos;simp only;omega⟩
  refine GY A c0 l (Pl.pos (Pl.idx (fun x=>decide (x=Pl.rM)) l)) (Pl.pos (Pl.idx (fun x=>decide (x=Pl.eD)) l)) w hl ht rfl rfl (bnd _ fun i h=>Pl.AR h) (bnd _ fun i h=>Pl.AR h) ?_
  cases hb:Pl.idx (fun x=>decide (x=Pl.rM)) l with
  |none=>exact .inl (by unfold Pl.pos;simp only;omega)
  | some b=>
   by_cases h1:b<1
   ·exact .inl (by unfold Pl.pos;simp only;omega)
   by_cases h2:6<b
   ·exact .inr (.inl ⟨by unfold Pl.pos;simp only;omega,by unfold Pl.pos;simp only;omega⟩)
   cases hg:Pl.idx (fun x=>decide (x=Pl.eD)) l with
   |none=>exact .inr (.inr (.inl ⟨by unfold Pl.pos;simp only;omega,by unfold Pl.pos;simp only;omega,by unfold Pl.pos;simp only;omega⟩))
   | some g=>
    by_cases h3:g<b+2
    ·exact .inr (.inr (.inl ⟨by unfold Pl.pos;simp only;omega,by unfold Pl.pos;simp only;omega,by unfold Pl.pos;simp only;omega⟩))
    by_cases h4:l.length=g+6
    ·by_cases h5:Pl.wd l (g+2)=Pl.fT
     ·by_cases h6:Pl.wd l (g+4)=Pl.eu
      ·exact absurd ⟨b,g,hb,hg,by omega,by omega,by omega,h4,h5,h6⟩ hok
      ·rw[PU _ (by omega)]at h5 h6
       exact .inr (.inr (.inr (.inr (.inr ⟨by unfold Pl.pos;simp only;omega,by unfold Pl.pos;simp only;omega,by unfold Pl.pos;simp only;omega,by unfold Pl.pos;simp only;omega,g,rfl,by omega,h5,h6⟩))))
     ·rw[PU _ (by omega)]at h5
      exact .inr (.inr (.inr (.inr (.inl ⟨by unfold Pl.pos;simp only;omega,by unfold Pl.pos;simp only;omega,by unfold Pl.pos;simp only;omega,by unfold Pl.pos;simp only;omega,g,rfl,by omega,h5⟩))))
    ·exact .inr (.inr (.inr (.inl ⟨by unfold Pl.pos;simp only;omega,by unfold Pl.pos;simp only;omega,by unfold Pl.pos;simp only;omega,by unfold Pl.pos;simp only;omega⟩)))
