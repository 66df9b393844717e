/- Proved: parts of the walk. -/
import Derived.Test.YtgbpekeoegfjpaaGreatDoorVTJ1
set_option maxRecDepth 100000
set_option maxHeartbeats 16000000
namespace Go.Proofs
open Tryz RowKit
attribute [-go_sem] run_equalIn_agg loadVar storeVar
attribute [local go_sem] bZ bH dU aT dD nK jO jP Au qx
theorem EZ (b off c0:Nat)(l:List ByteArray)(w:World)(hl:d9 w w.heap.size (some ⟨b,off,none⟩) l)(hcap:l.length<=c0)(ht:Pl.tot l<=100000)(h4:4<=l.length)(n0:ByteArray)(u0: ∀W,Below w.heap.size w W->W.cell? ⟨b,off,none⟩=some (.string n0))(vK:(([97,108,111,110,103]:List UInt8)==n0.toList)=true)(hv:Hid (∀k,1<=k->k<=5->k≠4->((vw k).toList==n0.toList)=false))(TL:Option Pl.kZ)(hTL:TL=if l.length=5 then some ⟨4,Pl.wd l 1,Pl.wd l 2,Pl.wd l 3,Pl.wd l 4,0,0,Pl.bF.zero⟩else Option.none)(HV:Hid (Pl.aX l=if l.length<5 then Option.none else if ((l.take 5).drop 1).all Pl.isName=false then Option.none else TL)):
  Calls prog 103 #[.slice (some ⟨b,off,none⟩) l.length c0] w (vg (Pl.aX l) b off c0 w):=by
 have g4: ¬(l.length:Int)<4:=by omega
 have g5:(0:Int)<(l.length:Int):=by omega
 have g7:0<l.length:=by omega
 obtain⟨W0,W1,hW0,st1,H⟩:=G_ w
 go_enter func103,ntmps103
 go_wp2
 go_loopw [7] (fun i wr=> ∃(k:Nat),1<=k∧k<=6∧i=.int .u8 k∧pQ w (if 4<k then (zf 4)else (zf 0)) wr) (fun i _=>6-(intOf i).toNat)
 case atStart=>exact⟨1,by omega,by omega,rfl,by rw[if_neg (by omega)];exact H⟩
 case round=>
  clear H st1 hW0
  obtain⟨k,k1,k6,rfl,H⟩:=hrel
  by_cases h6:k=6
  ·subst h6
   replace H:pQ w (zf 4) wr:=by rw[if_pos (by omega)]at H;exact H
   clear hv
   obtain⟨hcx,hfx⟩:=ah H.kx
   by_cases h5:l.length<5
   ·have g6:(l.length:Int)<5:=by omega
    have oC:Hid (Pl.aX l=Option.none):=Lib.hid (by rw[HV.out,if_pos h5])
    have lx:=ak H.kx underlying141 rfl aA
    obtain⟨W9,lN,fA,fB⟩:=aG wr w.heap.size 141 141 (zf 0) (zf 4) H.kr aA rfl (by simp[Value.oneCell'])
    have l9:=ak fA underlying141 rfl aA
    have fC:Below w.heap.size w W9:=H.all.grown fB H.all.size (fun j e=>by cases e;exact Nat.le_refl _)
    go_wp2
    refine bodyPost_ret (v:=.tuple #[.agg (zf 4),.bool false]) (by simp[results,results103,go_sem,l9]) rfl ?_
    rw[oC.out]
    exact⟨(zf 4),rfl,rfl,by simp[Value.oneCell'],(fun x hx=>by cases hx),fC⟩
   have g6: ¬(l.length:Int)<5:=by omega
   have oC:Hid (Pl.aX l=if ((l.take 5).drop 1).all Pl.isName=false then Option.none else TL):=Lib.hid (by rw[HV.out,if_neg h5])
   clear HV
   go_wp2
   go_loop [9] (fun i=> ∃(j:Nat),1<=j∧j<=5∧i=.int .i64 j∧Hid (∀m (h:m<l.length),1<=m->m<j->Pl.isName l[m]=true)) (fun i=>5-(intOf i).toNat)
   case atStart=>exact⟨1,by omega,by omega,rfl,Lib.hid fun m _ h1 h2=>by omega⟩
   case round=>
    obtain⟨j,j1,jR,rfl,hno⟩:=hrel
    by_cases hlt:j<5
    ·have f1:(j:Int)<5:=by omega
     have hjl:j<l.length:=by omega
     obtain⟨b2,off2,hA,_,uj⟩:=d9.gY (hl.up H.all) hjl
     obtain⟨rfl,rfl⟩:b=b2∧off=off2:=by simpa using hA
     have hsz:=Pl.gQ (List.getElem_mem hjl)
     have f2:(0:Int)<=(j:Int):=by omega
     have f3:(j:Int)<(l.length:Int):=by omega
     cases hnm:Pl.isName l[j]with
     | false=>
      have PV:Hid (Pl.aX l=Option.none):=Lib.hid (by
       rw[oC.out,if_pos]
       rw[List.all_eq_false]
       refine⟨l[j],?_,by rw[hnm];decide⟩
       rw[List.mem_iff_getElem]
       exact⟨j-1,by simp;omega,by simp only[List.getElem_drop,List.getElem_take];congr 1;omega⟩)
      obtain⟨y,hy⟩: ∃y,l[j]=y:=⟨_,rfl⟩
      rw[hy]at uj hsz hnm
      have HN:=Lib.hid hnm
      clear hy hnm hA oC
      have lx:=ak H.kx underlying141 rfl aA
      obtain⟨W9,lN,fA,fB⟩:=aG wr w.heap.size 141 141 (zf 0) (zf 4) H.kr aA rfl (by simp[Value.oneCell'])
      have l9:=ak fA underlying141 rfl aA
      have fC:Below w.heap.size w W9:=H.all.grown fB H.all.size (fun j e=>by cases e;exact Nat.le_refl _)
      go_wp2_with (go_at_call 114;refine(gJ _ _ (by omega)).mono ?_;rintro e w' ⟨rfl,rfl⟩;rw[HN.out])
      refine bodyPost_ret (v:=.tuple #[.agg (zf 4),.bool false]) (by simp[results,results103,go_sem,l9]) rfl ?_
      rw[PV.out]
      exact⟨(zf 4),rfl,rfl,by simp[Value.oneCell'],(fun x hx=>by cases hx),fC⟩
     | true=>
      have hnext:Hid (∀m (h:m<l.length),1<=m->m<j+1->Pl.isName l[m]=true):=Lib.hid fun m h h1 h2=>by
       by_cases e:m=j
       ·subst e;exact hnm
       ·exact hno.out m h h1 (by omega)
      obtain⟨y,hy⟩: ∃y,l[j]=y:=⟨_,rfl⟩
      rw[hy]at uj hsz hnm
      have HN:=Lib.hid hnm
      clear hy hnm hA
      go_wp2_with (go_at_call 114;refine(gJ _ _ (by omega)).mono ?_;rintro e w' ⟨rfl,rfl⟩;rw[HN.out])
      go_round
      case rel=>exact⟨j+1,by omega,by omega,by go_num,hnext⟩
      case measure=>first|(simp[intOf];done)|(simp[intOf];omega)
    ·obtain rfl:j=5:=by omega
     have HT:Hid (Pl.aX l=TL):=Lib.hid (by
      rw[oC.out,if_neg]
      rw[Bool.not_eq_false,List.all_eq_true]
      intro x hx
      obtain⟨m,hm,rfl⟩:=List.mem_iff_getElem.1 hx
      simp at hm ⊢
      exact hno.out (m+1) (by omega) (by omega) (by omega))
     clear oC hno
     have H2:=(H.set 13 (.slice (some ⟨b,off+1,none⟩) 2 (c0-1))).set 14 (.slice (some ⟨b,off+(1+2),none⟩) 2 (c0-(1+2)))
     simp only[q1,q2,q3]at H2
     have m1:(1:Int)<=(c0:Int):=by omega
     have m2:(3:Int)<=(c0:Int):=by omega
     have m3:(5:Int)<=(c0:Int):=by omega
     obtain⟨WX,uD⟩: ∃X,(wr.setCell ⟨w.heap.size+1,13,none⟩ (.slice (some ⟨b,off+1,none⟩) 2 (c0-1))).setCell ⟨w.heap.size+1,14,none⟩ (.slice (some ⟨b,off+(1+2),none⟩) 2 (c0-(1+2)))=X:=⟨_,rfl⟩
     rw[uD]at H2
     have H1:=H
     replace H:=H2
     clear H2
     obtain⟨hcy,Uk⟩:=ah H.kx
     by_cases Wt:l.length=5
     ·have g7:((l.length:Int)==5)=true:=by rw[Wt];rfl
      have HZ:Hid (Pl.aX l=some ⟨4,Pl.wd l 1,Pl.wd l 2,Pl.wd l 3,Pl.wd l 4,0,0,Pl.bF.zero⟩):=Lib.hid (by rw[HT.out,hTL,if_pos Wt])
      have lx:=ak H.kx underlying141 rfl aA
      obtain⟨W9,lN,fA,fB⟩:=aG WX w.heap.size 141 141 (zf 0) #[.int .u8 4,.int .i64 0,.int .i64 0,.int .i64 0,.int .i64 0,.int .i64 0,.int .i64 0,.int .i64 0,.int .i64 0,.int .i64 0,.int .i64 0,.int .i64 0,.int .i64 0,.slice (some ⟨b,off+1,none⟩) 2 (c0-1),.slice (some ⟨b,off+(1+2),none⟩) 2 (c0-(1+2))] H.kr aA rfl (by simp[Value.oneCell'])
      have l9:=ak fA underlying141 rfl aA
      have fC:Below w.heap.size w W9:=H.all.grown fB H.all.size (fun j e=>by cases e;exact Nat.le_refl _)
      go_wp2
      refine bodyPost_ret (v:=.tuple #[.agg #[.int .u8 4,.int .i64 0,.int .i64 0,.int .i64 0,.int .i64 0,.int .i64 0,.int .i64 0,.int .i64 0,.int .i64 0,.int .i64 0,.int .i64 0,.int .i64 0,.int .i64 0,.slice (some ⟨b,off+1,none⟩) 2 (c0-1),.slice (some ⟨b,off+(1+2),none⟩) 2 (c0-(1+2))],.bool true]) (by simp[results,results103,go_sem,l9]) rfl ?_
      rw[HZ.out]
      exact⟨#[.int .u8 4,.int .i64 0,.int .i64 0,.int .i64 0,.int .i64 0,.int .i64 0,.int .i64 0,.int .i64 0,.int .i64 0,.int .i64 0,.int .i64 0,.int .i64 0,.int .i64 0,.slice (some ⟨b,off+1,none⟩) 2 (c0-1),.slice (some ⟨b,off+(1+2),none⟩) 2 (c0-(1+2))],rfl,rfl,by simp[Value.oneCell'],(fun x hx=>by cases hx;rfl),fC⟩
     ·have g7:((l.length:Int)==5)=false:=by simpa using (show ¬(l.length:Int)=5 by omega)
      have HZ:Hid (Pl.aX l=Option.none):=Lib.hid (by rw[HT.out,hTL,if_neg Wt])
      have lx:=ak H.kx underlying141 rfl aA
      obtain⟨W9,lN,fA,fB⟩:=aG WX w.heap.size 141 141 (zf 0) #[.int .u8 4,.int .i64 0,.int .i64 0,.int .i64 0,.int .i64 0,.int .i64 0,.int .i64 0,.int .i64 0,.int .i64 0,.int .i64 0,.int .i64 0,.int .i64 0,.int .i64 0,.slice (some ⟨b,off+1,none⟩) 2 (c0-1),.slice (some ⟨b,off+(1+2),none⟩) 2 (c0-(1+2))] H.kr aA rfl (by simp[Value.oneCell'])
      have l9:=ak fA underlying141 rfl aA
      have fC:Below w.heap.size w W9:=H.all.grown fB H.all.size (fun j e=>by cases e;exact Nat.le_refl _)
      go_wp2
      refine bodyPost_ret (v:=.tuple #[.agg #[.int .u8 4,.int .i64 0,.int .i64 0,.int .i64 0,.int .i64 0,.int .i64 0,.int .i64 0,.int .i64 0,.int .i64 0,.int .i64 0,.int .i64 0,.int .i64 0,.int .i64 0,.slice (some ⟨b,off+1,none⟩) 2 (c0-1),.slice (some ⟨b,off+(1+2),none⟩) 2 (c0-(1+2))],.bool false]) (by simp[results,results103,go_sem,l9]) rfl ?_
      rw[HZ.out]
      exact⟨#[.int .u8 4,.int .i64 0,.int .i64 0,.int .i64 0,.int .i64 0,.int .i64 0,.int .i64 0,.int .i64 0,.int .i64 0,.int .i64 0,.int .i64 0,.int .i64 0,.int .i64 0,.slice (some ⟨b,off+1,none⟩) 2 (c0-1),.slice (some ⟨b,off+(1+2),none⟩) 2 (c0-(1+2))],rfl,rfl,by simp[Value.oneCell'],(fun x hx=>by cases hx),fC⟩
  ·have k5:(k:Int)<=5:=by omega
   have k7:(k:Int)<6:=by omega
   have e8:IntKind.u8.wrap ((k:Int)+1)=(k:Int)+1:=by rcases(show k=1∨k=2∨k=3∨k=4∨k=5 by omega)with rfl|rfl|rfl|rfl|rfl<;>rfl
   by_cases hK:k=4
   ·subst hK
    replace H:pQ w (zf 0) wr:=by rw[if_neg (by omega)]at H;exact H
    have H0:=H
    replace H:=H.drew
    clear hv k5 e8
    obtain⟨hcx,hfx⟩:=ah H.kx
    have uc:=u0 _ H.all
    go_wp2
    go_region_held3 (fun W=>W.cell? ⟨b,off,none⟩=some (.string n0)) (exact uc) (first|(go_at_call 92;refine(G8 _).mono ?_;rintro e w' ⟨rfl,rfl⟩))
    all_goals go_wp2
    all_goals (
     go_roundw
     case rel=>exact⟨4+1,by omega,by omega,by go_num,by rw[if_pos (by omega)];have:=(H0.set 0 (.int .u8 4)).drew;simpa using this⟩
     case measure=>first|(simp[intOf];done)|(simp[intOf];omega))
   ·have hvk:((vw k).toList==n0.toList)=false:=hv.out k k1 (by omega) hK
    have pv:=fun W=>ni k W k1 (by omega)
    obtain⟨y,hy⟩: ∃y,vw k=y:=⟨_,rfl⟩
    rw[hy]at hvk pv
    replace H:pQ w (if 4<k+1 then (zf 4)else (zf 0)) wr:=by
     by_cases c:4<k
     ·rw[if_pos c]at H;rw[if_pos (by omega)];exact H
     ·rw[if_neg c]at H;rw[if_neg (by omega)];exact H
    clear hy hv
    obtain⟨xa,hxa⟩: ∃xa:Array Value,(if 4<k+1 then ((zf 4):Array Value)else (zf 0))=xa:=⟨_,rfl⟩
    rw[hxa]at H
    replace H:=H.drew
    have uc:=u0 _ H.all
    go_wp2
    go_region_held3 (fun W=>W.cell? ⟨b,off,none⟩=some (.string n0)) (exact uc) (first|(go_at_call 92;refine(pv _).mono ?_;rintro e w' ⟨rfl,rfl⟩))
    all_goals go_wp2
    all_goals (
     go_roundw
     case rel=>exact⟨k+1,by omega,by omega,by go_num,by rw[hxa];exact H⟩
     case measure=>first|(simp[intOf];done)|(simp[intOf];omega))
end Go.Proofs
namespace Go.Proofs
open Tryz RowKit
attribute [-go_sem] run_equalIn_agg loadVar storeVar
attribute [local go_sem] bZ bH dU aT dD nK jO jP Au qx
theorem E5 (b off c0:Nat) (l:List ByteArray) (w:World) (hl:d9 w w.heap.size (some ⟨b,off,none⟩) l) (hcap:l.length<=c0) (ht:Pl.tot l<=100000) (h4:4<=l.length) (n0:ByteArray) (u0: ∀W,Below w.heap.size w W->W.cell? ⟨b,off,none⟩=some (.string n0)) (vK:(([108,101,118,101,108]:List UInt8)==n0.toList)=true) (hv:Hid (∀k,1<=k->k<=5->k≠5->((vw k).toList==n0.toList)=false)) (TL:Option Pl.kZ) (hTL:TL=if l.length≠6 then Option.none else (Pl.fK (Pl.wd l 4)).bind fun s=>(Pl.bV (Pl.wd l 5)).map fun e=>⟨5,Pl.wd l 1,⟨#[]⟩,Pl.wd l 2,Pl.wd l 3,s,e,Pl.bF.zero⟩) (HV:Hid (Pl.aX l=if ((l.take 4).drop 1).all Pl.isName=false then Option.none else TL)):
  Calls prog 103 #[.slice (some ⟨b,off,none⟩) l.length c0] w (vg (Pl.aX l) b off c0 w):=by
 have g4: ¬(l.length:Int)<4:=by omega
 have g5:(0:Int)<(l.length:Int):=by omega
 have g7:0<l.length:=by omega
 obtain⟨W0,W1,hW0,st1,H⟩:=G_ w
 go_enter func103,ntmps103
 go_wp2
 go_loopw [7] (fun i wr=> ∃(k:Nat),1<=k∧k<=6∧i=.int .u8 k∧pQ w (if 5<k then (zf 5)else (zf 0)) wr) (fun i _=>6-(intOf i).toNat)
 case atStart=>exact⟨1,by omega,by omega,rfl,by rw[if_neg (by omega)];exact H⟩
 case round=>
  clear H st1 hW0
  obtain⟨k,k1,k6,rfl,H⟩:=hrel
  by_cases h6:k=6
  ·subst h6
   replace H:pQ w (zf 5) wr:=by rw[if_pos (by omega)]at H;exact H
   clear hv
   obtain⟨hcx,hfx⟩:=ah H.kx
   have g6: ¬(l.length:Int)<4:=by omega
   have oC:Hid (Pl.aX l=if ((l.take 4).drop 1).all Pl.isName=false then Option.none else TL):=HV
   clear HV
   go_wp2
   go_loop [9] (fun i=> ∃(j:Nat),1<=j∧j<=4∧i=.int .i64 j∧Hid (∀m (h:m<l.length),1<=m->m<j->Pl.isName l[m]=true)) (fun i=>4-(intOf i).toNat)
   case atStart=>exact⟨1,by omega,by omega,rfl,Lib.hid fun m _ h1 h2=>by omega⟩
   case round=>
    obtain⟨j,j1,jR,rfl,hno⟩:=hrel
    by_cases hlt:j<4
    ·have f1:(j:Int)<4:=by omega
     have hjl:j<l.length:=by omega
     obtain⟨b2,off2,hA,_,uj⟩:=d9.gY (hl.up H.all) hjl
     obtain⟨rfl,rfl⟩:b=b2∧off=off2:=by simpa using hA
     have hsz:=Pl.gQ (List.getElem_mem hjl)
     have f2:(0:Int)<=(j:Int):=by omega
     have f3:(j:Int)<(l.length:Int):=by omega
     cases hnm:Pl.isName l[j]with
     | false=>
      have PV:Hid (Pl.aX l=Option.none):=Lib.hid (by
       rw[oC.out,if_pos]
       rw[List.all_eq_false]
       refine⟨l[j],?_,by rw[hnm];decide⟩
       rw[List.mem_iff_getElem]
       exact⟨j-1,by simp;omega,by simp only[List.getElem_drop,List.getElem_take];congr 1;omega⟩)
      obtain⟨y,hy⟩: ∃y,l[j]=y:=⟨_,rfl⟩
      rw[hy]at uj hsz hnm
      have HN:=Lib.hid hnm
      clear hy hnm hA oC
      have lx:=ak H.kx underlying141 rfl aA
      obtain⟨W9,lN,fA,fB⟩:=aG wr w.heap.size 141 141 (zf 0) (zf 5) H.kr aA rfl (by simp[Value.oneCell'])
      have l9:=ak fA underlying141 rfl aA
      have fC:Below w.heap.size w W9:=H.all.grown fB H.all.size (fun j e=>by cases e;exact Nat.le_refl _)
      go_wp2_with (go_at_call 114;refine(gJ _ _ (by omega)).mono ?_;rintro e w' ⟨rfl,rfl⟩;rw[HN.out])
      refine bodyPost_ret (v:=.tuple #[.agg (zf 5),.bool false]) (by simp[results,results103,go_sem,l9]) rfl ?_
      rw[PV.out]
      exact⟨(zf 5),rfl,rfl,by simp[Value.oneCell'],(fun x hx=>by cases hx),fC⟩
     | true=>
      have hnext:Hid (∀m (h:m<l.length),1<=m->m<j+1->Pl.isName l[m]=true):=Lib.hid fun m h h1 h2=>by
       by_cases e:m=j
       ·subst e;exact hnm
       ·exact hno.out m h h1 (by omega)
      obtain⟨y,hy⟩: ∃y,l[j]=y:=⟨_,rfl⟩
      rw[hy]at uj hsz hnm
      have HN:=Lib.hid hnm
      clear hy hnm hA
      go_wp2_with (go_at_call 114;refine(gJ _ _ (by omega)).mono ?_;rintro e w' ⟨rfl,rfl⟩;rw[HN.out])
      go_round
      case rel=>exact⟨j+1,by omega,by omega,by go_num,hnext⟩
      case measure=>first|(simp[intOf];done)|(simp[intOf];omega)
    ·obtain rfl:j=4:=by omega
     have HT:Hid (Pl.aX l=TL):=Lib.hid (by
      rw[oC.out,if_neg]
      rw[Bool.not_eq_false,List.all_eq_true]
      intro x hx
      obtain⟨m,hm,rfl⟩:=List.mem_iff_getElem.1 hx
      simp at hm ⊢
      exact hno.out (m+1) (by omega) (by omega) (by omega))
     clear oC hno
     have H2:=(H.set 13 (.slice (some ⟨b,off+1,none⟩) 1 (c0-1))).set 14 (.slice (some ⟨b,off+(1+1),none⟩) 2 (c0-(1+1)))
     simp only[q1,q2,q3]at H2
     have m1:(1:Int)<=(c0:Int):=by omega
     have m2:(2:Int)<=(c0:Int):=by omega
     have m3:(4:Int)<=(c0:Int):=by omega
     obtain⟨WX,uD⟩: ∃X,(wr.setCell ⟨w.heap.size+1,13,none⟩ (.slice (some ⟨b,off+1,none⟩) 1 (c0-1))).setCell ⟨w.heap.size+1,14,none⟩ (.slice (some ⟨b,off+(1+1),none⟩) 2 (c0-(1+1)))=X:=⟨_,rfl⟩
     rw[uD]at H2
     have H1:=H
     replace H:=H2
     clear H2
     obtain⟨hcy,Uk⟩:=ah H.kx
     by_cases h7:l.length=6
     ·have g7:((l.length:Int) !=6)=false:=by rw[h7];rfl
      have hRl:4<l.length:=by omega
      have Ni:5<l.length:=by omega
      obtain⟨b3,Nj,hA3,_,u3⟩:=d9.gY (hl.up H.all) hRl
      obtain⟨rfl,rfl⟩:b=b3∧off=Nj:=by simpa using hA3
      obtain⟨b4,Nk,Nl,_,u4⟩:=d9.gY (hl.up H.all) Ni
      obtain⟨rfl,rfl⟩:b=b4∧off=Nk:=by simpa using Nl
      have hs3:=Pl.gQ (List.getElem_mem hRl)
      have hs4:=Pl.gQ (List.getElem_mem Ni)
      have w3:Pl.wd l 4=l[4]:=by unfold Pl.wd;rw[List.getElem?_eq_getElem hRl];rfl
      have w4:Pl.wd l 5=l[5]:=by unfold Pl.wd;rw[List.getElem?_eq_getElem Ni];rfl
      obtain⟨y3,hy3⟩: ∃y,l[4]=y:=⟨_,rfl⟩
      obtain⟨y4,hy4⟩: ∃y,l[5]=y:=⟨_,rfl⟩
      rw[hy3]at u3 hs3 w3
      rw[hy4]at u4 hs4 w4
      obtain⟨oa,hoa⟩: ∃x,Pl.fK y3=x:=⟨_,rfl⟩
      obtain⟨ob,BN⟩: ∃x,Pl.bV y4=x:=⟨_,rfl⟩
      have HZ:Hid (Pl.aX l=oa.bind fun s=>ob.map fun e=>⟨5,Pl.wd l 1,⟨#[]⟩,Pl.wd l 2,Pl.wd l 3,s,e,Pl.bF.zero⟩):=Lib.hid (by rw[HT.out,hTL,if_neg (by omega),w3,w4,hoa,BN])
      obtain⟨va,hva⟩: ∃x,oa.getD 0=x:=⟨_,rfl⟩
      obtain⟨vb,hvb⟩: ∃x,ob.getD 0=x:=⟨_,rfl⟩
      obtain⟨ba,hba⟩: ∃x,oa.isSome=x:=⟨_,rfl⟩
      obtain⟨bb,hbb⟩: ∃x,ob.isSome=x:=⟨_,rfl⟩
      have pa:Calls prog 148 #[.string y3] WX fun e w'=>e=.returned (.tuple #[.int .i64 va,.bool ba])∧WX=w':=by rw[<-hva,<-hba];exact Ap y3 oa WX (Lib.hid hoa) (by omega)
      have pb:Calls prog 147 #[.string y4] WX fun e w'=>e=.returned (.tuple #[.int .i64 vb,.bool bb])∧WX=w':=by rw[<-hvb,<-hbb];exact jd y4 ob WX (Lib.hid BN) (by omega)
      have pz:=jd y3 (Pl.bV y3) WX (Lib.hid rfl) (by omega)
      clear hA3 Nl hs3 hs4 w3 w4 hy3 hy4 hoa BN
      go_wp2_with fail
      refine pz.mono ?_
      clear pz
      rintro e w' ⟨rfl,rfl⟩
      go_wp2_with fail
      refine pa.mono ?_
      clear pa
      rintro e w' ⟨rfl,rfl⟩
      go_wp2_with fail
      refine pb.mono ?_
      clear pb
      rintro e w' ⟨rfl,rfl⟩
      have H3:=(H.set 5 (.int .i64 va)).set 6 (.int .i64 vb)
      simp only[q1,q2,q3]at H3
      obtain⟨WY,R8⟩: ∃X,(WX.setCell ⟨w.heap.size+1,5,none⟩ (.int .i64 va)).setCell ⟨w.heap.size+1,6,none⟩ (.int .i64 vb)=X:=⟨_,rfl⟩
      rw[R8]at H3
      replace H:=H3
      clear H3
      cases ba with
      | false=>
       have lx:=ak H.kx underlying141 rfl aA
       obtain⟨W9,lN,fA,fB⟩:=aG WY w.heap.size 141 141 (zf 0) #[.int .u8 5,.int .i64 0,.int .i64 0,.int .i64 0,.int .i64 0,.int .i64 va,.int .i64 vb,.int .i64 0,.int .i64 0,.int .i64 0,.int .i64 0,.int .i64 0,.int .i64 0,.slice (some ⟨b,off+1,none⟩) 1 (c0-1),.slice (some ⟨b,off+(1+1),none⟩) 2 (c0-(1+1))] H.kr aA rfl (by simp[Value.oneCell'])
       have l9:=ak fA underlying141 rfl aA
       have fC:Below w.heap.size w W9:=H.all.grown fB H.all.size (fun j e=>by cases e;exact Nat.le_refl _)
       go_wp2
       refine bodyPost_ret (v:=.tuple #[.agg #[.int .u8 5,.int .i64 0,.int .i64 0,.int .i64 0,.int .i64 0,.int .i64 va,.int .i64 vb,.int .i64 0,.int .i64 0,.int .i64 0,.int .i64 0,.int .i64 0,.int .i64 0,.slice (some ⟨b,off+1,none⟩) 1 (c0-1),.slice (some ⟨b,off+(1+1),none⟩) 2 (c0-(1+1))],.bool false]) (by simp[results,results103,go_sem,l9]) rfl ?_
       rw[HZ.out]
       exact⟨#[.int .u8 5,.int .i64 0,.int .i64 0,.int .i64 0,.int .i64 0,.int .i64 va,.int .i64 vb,.int .i64 0,.int .i64 0,.int .i64 0,.int .i64 0,.int .i64 0,.int .i64 0,.slice (some ⟨b,off+1,none⟩) 1 (c0-1),.slice (some ⟨b,off+(1+1),none⟩) 2 (c0-(1+1))],by cases oa<;>cases ob<;>first|rfl|(cases hba;done)|(cases hbb;done),rfl,by simp[Value.oneCell'],(fun x hx=>by
        cases oa with
        |none=>cases hx
        | some v1=>
         cases ob with
         |none=>cases hx
         |some v2=>
          obtain rfl:=Option.some.inj hx
          subst hva hvb
          rfl),fC⟩
      | true=>
       have lx:=ak H.kx underlying141 rfl aA
       obtain⟨W9,lN,fA,fB⟩:=aG WY w.heap.size 141 141 (zf 0) #[.int .u8 5,.int .i64 0,.int .i64 0,.int .i64 0,.int .i64 0,.int .i64 va,.int .i64 vb,.int .i64 0,.int .i64 0,.int .i64 0,.int .i64 0,.int .i64 0,.int .i64 0,.slice (some ⟨b,off+1,none⟩) 1 (c0-1),.slice (some ⟨b,off+(1+1),none⟩) 2 (c0-(1+1))] H.kr aA rfl (by simp[Value.oneCell'])
       have l9:=ak fA underlying141 rfl aA
       have fC:Below w.heap.size w W9:=H.all.grown fB H.all.size (fun j e=>by cases e;exact Nat.le_refl _)
       go_wp2
       refine bodyPost_ret (v:=.tuple #[.agg #[.int .u8 5,.int .i64 0,.int .i64 0,.int .i64 0,.int .i64 0,.int .i64 va,.int .i64 vb,.int .i64 0,.int .i64 0,.int .i64 0,.int .i64 0,.int .i64 0,.int .i64 0,.slice (some ⟨b,off+1,none⟩) 1 (c0-1),.slice (some ⟨b,off+(1+1),none⟩) 2 (c0-(1+1))],.bool bb]) (by simp[results,results103,go_sem,l9]) rfl ?_
       rw[HZ.out]
       exact⟨#[.int .u8 5,.int .i64 0,.int .i64 0,.int .i64 0,.int .i64 0,.int .i64 va,.int .i64 vb,.int .i64 0,.int .i64 0,.int .i64 0,.int .i64 0,.int .i64 0,.int .i64 0,.slice (some ⟨b,off+1,none⟩) 1 (c0-1),.slice (some ⟨b,off+(1+1),none⟩) 2 (c0-(1+1))],by rw[<-hbb];cases oa<;>cases ob<;>first|rfl|(cases hba;done),rfl,by simp[Value.oneCell'],(fun x hx=>by
        cases oa with
        |none=>cases hx
        | some v1=>
         cases ob with
         |none=>cases hx
         |some v2=>
          obtain rfl:=Option.some.inj hx
          subst hva hvb
          rfl),fC⟩
     ·have g7:((l.length:Int) !=6)=true:=by simpa using (show ¬(l.length:Int)=6 by omega)
      have HZ:Hid (Pl.aX l=Option.none):=Lib.hid (by rw[HT.out,hTL,if_pos h7])
      have lx:=ak H.kx underlying141 rfl aA
      obtain⟨W9,lN,fA,fB⟩:=aG WX w.heap.size 141 141 (zf 0) #[.int .u8 5,.int .i64 0,.int .i64 0,.int .i64 0,.int .i64 0,.int .i64 0,.int .i64 0,.int .i64 0,.int .i64 0,.int .i64 0,.int .i64 0,.int .i64 0,.int .i64 0,.slice (some ⟨b,off+1,none⟩) 1 (c0-1),.slice (some ⟨b,off+(1+1),none⟩) 2 (c0-(1+1))] H.kr aA rfl (by simp[Value.oneCell'])
      have l9:=ak fA underlying141 rfl aA
      have fC:Below w.heap.size w W9:=H.all.grown fB H.all.size (fun j e=>by cases e;exact Nat.le_refl _)
      go_wp2
      refine bodyPost_ret (v:=.tuple #[.agg #[.int .u8 5,.int .i64 0,.int .i64 0,.int .i64 0,.int .i64 0,.int .i64 0,.int .i64 0,.int .i64 0,.int .i64 0,.int .i64 0,.int .i64 0,.int .i64 0,.int .i64 0,.slice (some ⟨b,off+1,none⟩) 1 (c0-1),.slice (some ⟨b,off+(1+1),none⟩) 2 (c0-(1+1))],.bool false]) (by simp[results,results103,go_sem,l9]) rfl ?_
      rw[HZ.out]
      exact⟨#[.int .u8 5,.int .i64 0,.int .i64 0,.int .i64 0,.int .i64 0,.int .i64 0,.int .i64 0,.int .i64 0,.int .i64 0,.int .i64 0,.int .i64 0,.int .i64 0,.int .i64 0,.slice (some ⟨b,off+1,none⟩) 1 (c0-1),.slice (some ⟨b,off+(1+1),none⟩) 2 (c0-(1+1))],rfl,rfl,by simp[Value.oneCell'],(fun x hx=>by cases hx),fC⟩
  ·have k5:(k:Int)<=5:=by omega
   have k7:(k:Int)<6:=by omega
   have e8:IntKind.u8.wrap ((k:Int)+1)=(k:Int)+1:=by rcases(show k=1∨k=2∨k=3∨k=4∨k=5 by omega)with rfl|rfl|rfl|rfl|rfl<;>rfl
   by_cases hK:k=5
   ·subst hK
    replace H:pQ w (zf 0) wr:=by rw[if_neg (by omega)]at H;exact H
    have H0:=H
    replace H:=H.drew
    clear hv k5 e8
    obtain⟨hcx,hfx⟩:=ah H.kx
    have uc:=u0 _ H.all
    go_wp2
    go_region_held3 (fun W=>W.cell? ⟨b,off,none⟩=some (.string n0)) (exact uc) (first|(go_at_call 92;refine(G9 _).mono ?_;rintro e w' ⟨rfl,rfl⟩))
    all_goals go_wp2
    all_goals (
     go_roundw
     case rel=>exact⟨5+1,by omega,by omega,by go_num,by rw[if_pos (by omega)];have:=(H0.set 0 (.int .u8 5)).drew;simpa using this⟩
     case measure=>first|(simp[intOf];done)|(simp[intOf];omega))
   ·have hvk:((vw k).toList==n0.toList)=false:=hv.out k k1 (by omega) hK
    have pv:=fun W=>ni k W k1 (by omega)
    obtain⟨y,hy⟩: ∃y,vw k=y:=⟨_,rfl⟩
    rw[hy]at hvk pv
    replace H:pQ w (if 5<k+1 then (zf 5)else (zf 0)) wr:=by
     by_cases c:5<k
     ·rw[if_pos c]at H;rw[if_pos (by omega)];exact H
     ·rw[if_neg c]at H;rw[if_neg (by omega)];exact H
    clear hy hv
    obtain⟨xa,hxa⟩: ∃xa:Array Value,(if 5<k+1 then ((zf 5):Array Value)else (zf 0))=xa:=⟨_,rfl⟩
    rw[hxa]at H
    replace H:=H.drew
    have uc:=u0 _ H.all
    go_wp2
    go_region_held3 (fun W=>W.cell? ⟨b,off,none⟩=some (.string n0)) (exact uc) (first|(go_at_call 92;refine(pv _).mono ?_;rintro e w' ⟨rfl,rfl⟩))
    all_goals go_wp2
    all_goals (
     go_roundw
     case rel=>exact⟨k+1,by omega,by omega,by go_num,by rw[hxa];exact H⟩
     case measure=>first|(simp[intOf];done)|(simp[intOf];omega))
end Go.Proofs
namespace Go.Proofs
open Tryz RowKit
theorem E8 (K:Nat)(x:ByteArray)(hx:x=vw K)(hK:1<=K∧K<=5): ∀k,1<=k->k<=5->k≠K->((vw k).toList==x.toList)=false:=by
 subst hx
 intro k h1 h5 hk
 rw[dF]
 refine decide_eq_false ?_
 rcases(show k=1∨k=2∨k=3∨k=4∨k=5 by omega)with rfl|rfl|rfl|rfl|rfl<;>
  rcases(show K=1∨K=2∨K=3∨K=4∨K=5 by omega)with rfl|rfl|rfl|rfl|rfl<;>
  first|(exfalso;exact hk rfl)|decide
theorem PW (x:ByteArray)(h:Pl.eH x=0): ∀k,1<=k->k<=5->((vw k).toList==x.toList)=false:=by
 intro k h1 h5
 rw[dF]
 refine decide_eq_false fun e=> ?_
 subst e
 rcases(show k=1∨k=2∨k=3∨k=4∨k=5 by omega)with rfl|rfl|rfl|rfl|rfl
 all_goals exact absurd h (by decide)
theorem Nn (A:Option Addr)(c0:Nat)(l:List ByteArray)(w:World)(hl:d9 w w.heap.size A l)(hcap:l.length<=c0)(ht:Pl.tot l<=100000):
  ∃b off,(4<=l.length->A=some ⟨b,off,none⟩)∧Calls prog 103 #[.slice A l.length c0] w (vg (Pl.aX l) b off c0 w):=by
 by_cases h4:l.length<4
 ·exact⟨0,0,fun h=>absurd h4 (by omega),EW 0 0 c0 l A w h4⟩
 obtain⟨b,off,rfl,_,_⟩:=d9.gY hl (k:=0) (by omega)
 refine⟨b,off,fun _=>rfl,?_⟩
 have h0:0<l.length:=by omega
 have u0: ∀W,Below w.heap.size w W->W.cell? ⟨b,off,none⟩=some (.string l[0]):=fun W hW=>by
  obtain⟨b',off',hA,_,hu⟩:=d9.gY (hl.up hW) h0
  obtain⟨rfl,rfl⟩:b=b'∧off=off':=by simpa using hA
  exact hu
 have w0:Pl.wd l 0=l[0]:=by unfold Pl.wd;rw[List.getElem?_eq_getElem h0];rfl
 obtain⟨q1,q2,q3,q4,q5,q6⟩:=Pl.yI (k:=l[0])
 rcases(show Pl.eH l[0]=0∨Pl.eH l[0]=1∨Pl.eH l[0]=2∨Pl.eH l[0]=3∨Pl.eH l[0]=4∨Pl.eH l[0]=5 by omega)with hk|hk|hk|hk|hk|hk
 ·exact He b off c0 l w hl (by omega) l[0] u0 (Lib.hid (PW _ hk)) (Lib.hid (by unfold Pl.aX;rw[if_neg (by omega),w0,if_pos hk]))
 ·have e0:=q1 hk
  have HV:Pl.aX l=if ((l.take 3).drop 1).all Pl.isName=false then Option.none else (if l.length≠5 then Option.none else (Pl.bV (Pl.wd l 3)).bind fun s=>(Pl.bV (Pl.wd l 4)).map fun e=>⟨1,Pl.wd l 1,⟨#[]⟩,Pl.wd l 2,⟨#[]⟩,s,e,Pl.bF.zero⟩):=by
   unfold Pl.aX
   rw[if_neg (by omega),w0,hk,if_neg (by decide)]
   rw[if_neg (show ¬l.length<Pl.gD 1 from by show ¬l.length<3;omega)]
   rfl
  exact EX b off c0 l w hl hcap ht (by omega) l[0] u0 (by rw[e0];unfold Pl.bq;rw[ByteArray.toList_eq];rfl) (Lib.hid (E8 1 _ (by rw[e0];rfl) (by omega))) _ rfl (Lib.hid HV)
 ·have e0:=q2 hk
  have HV:Pl.aX l=if ((l.take 4).drop 1).all Pl.isName=false then Option.none else (if l.length≠6 then Option.none else (Pl.bV (Pl.wd l 4)).bind fun s=>(Pl.bV (Pl.wd l 5)).map fun e=>⟨2,Pl.wd l 1,Pl.wd l 2,Pl.wd l 3,⟨#[]⟩,s,e,Pl.bF.zero⟩):=by
   unfold Pl.aX
   rw[if_neg (by omega),w0,hk,if_neg (by decide)]
   rw[if_neg (show ¬l.length<Pl.gD 2 from by show ¬l.length<4;omega)]
   rfl
  exact EY b off c0 l w hl hcap ht (by omega) l[0] u0 (by rw[e0];unfold Pl.bA;rw[ByteArray.toList_eq];rfl) (Lib.hid (E8 2 _ (by rw[e0];rfl) (by omega))) _ rfl (Lib.hid HV)
 ·have e0:=q3 hk
  have HV:Pl.aX l=if ((l.take 4).drop 1).all Pl.isName=false then Option.none else ((Pl.qC (l.drop 4)).map fun c=>⟨3,Pl.wd l 1,⟨#[]⟩,Pl.wd l 2,Pl.wd l 3,0,0,c⟩):=by
   unfold Pl.aX
   rw[if_neg (by omega),w0,hk,if_neg (by decide)]
   rw[if_neg (show ¬l.length<Pl.gD 3 from by show ¬l.length<4;omega)]
   rfl
  exact Cr b off c0 l w hl hcap ht (by omega) l[0] u0 (by rw[e0];unfold Pl.aV;rw[ByteArray.toList_eq];rfl) (Lib.hid (E8 3 _ (by rw[e0];rfl) (by omega))) _ rfl (Lib.hid HV)
 ·have e0:=q4 hk
  have HV:Pl.aX l=if l.length<5 then Option.none else if ((l.take 5).drop 1).all Pl.isName=false then Option.none else (if l.length=5 then some ⟨4,Pl.wd l 1,Pl.wd l 2,Pl.wd l 3,Pl.wd l 4,0,0,Pl.bF.zero⟩else Option.none):=by
   unfold Pl.aX
   rw[if_neg (by omega),w0,hk,if_neg (by decide)]
   rfl
  exact EZ b off c0 l w hl hcap ht (by omega) l[0] u0 (by rw[e0];unfold Pl.bC;rw[ByteArray.toList_eq];rfl) (Lib.hid (E8 4 _ (by rw[e0];rfl) (by omega))) _ rfl (Lib.hid HV)
 ·have e0:=q5 hk
  have HV:Pl.aX l=if ((l.take 4).drop 1).all Pl.isName=false then Option.none else (if l.length≠6 then Option.none else (Pl.fK (Pl.wd l 4)).bind fun s=>(Pl.bV (Pl.wd l 5)).map fun e=>⟨5,Pl.wd l 1,⟨#[]⟩,Pl.wd l 2,Pl.wd l 3,s,e,Pl.bF.zero⟩):=by
   unfold Pl.aX
   rw[if_neg (by omega),w0,hk,if_neg (by decide)]
   rw[if_neg (show ¬l.length<Pl.gD 5 from by show ¬l.length<4;omega)]
   rfl
  exact E5 b off c0 l w hl hcap ht (by omega) l[0] u0 (by rw[e0];unfold Pl.bg;rw[ByteArray.toList_eq];rfl) (Lib.hid (E8 5 _ (by rw[e0];rfl) (by omega))) _ rfl (Lib.hid HV)
