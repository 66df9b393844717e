/- Proved: parts of the walk. -/
import Derived.Test.YtgbpekeoegfjpaaGreatDoorVTB
import Derived.Test.YtgbpekeoegfjpaaGreatDoorVTI
set_option maxRecDepth 100000
set_option maxHeartbeats 16000000
namespace Go.Proofs
open Tryz RowKit
attribute [-go_sem] run_equalIn_agg loadVar storeVar
attribute [local go_sem] bZ bH dU aT dD nK jO jP Au qx
theorem EX (b off c0:Nat) (l:List ByteArray) (w:World) (hl:d9 w w.heap.size (some ⟨b,off,none⟩) l) (hcap:l.length<=c0) (ht:Pl.tot l<=100000) (h4:4<=l.length) (n0:ByteArray) (u0: ∀W,Below w.heap.size w W->W.cell? ⟨b,off,none⟩=some (.string n0)) (vK:(([115,116,111,110,101]:List UInt8)==n0.toList)=true) (hv:Hid (∀k,1<=k->k<=5->k≠1->((vw k).toList==n0.toList)=false)) (TL:Option Pl.kZ) (hTL:TL=if l.length≠5 then Option.none else (Pl.bV (Pl.wd l 3)).bind fun s=>(Pl.bV (Pl.wd l 4)).map fun e=>⟨1,Pl.wd l 1,⟨#[]⟩,Pl.wd l 2,⟨#[]⟩,s,e,Pl.bF.zero⟩) (HV:Hid (Pl.aX l=if ((l.take 3).drop 1).all Pl.isName=false then Option.none else TL)):
  Calls prog 103 #[.slice (some ⟨b,off,none⟩) l.length c0] w (vg (Pl.aX l) b off c0 w):=by
 have g4: ¬(l.length:Int)<4:=by omega
 have g5:(0:Int)<(l.length:Int):=by omega
 have g7:0<l.length:=by omega
 obtain⟨W0,W1,hW0,st1,H⟩:=G_ w
 go_enter func103,ntmps103
 go_wp2
 go_loopw [7] (fun i wr=> ∃(k:Nat),1<=k∧k<=6∧i=.int .u8 k∧pQ w (if 1<k then (zf 1)else (zf 0)) wr) (fun i _=>6-(intOf i).toNat)
 case atStart=>exact⟨1,by omega,by omega,rfl,by rw[if_neg (by omega)];exact H⟩
 case round=>
  clear H st1 hW0
  obtain⟨k,k1,k6,rfl,H⟩:=hrel
  by_cases h6:k=6
  ·subst h6
   replace H:pQ w (zf 1) wr:=by rw[if_pos (by omega)]at H;exact H
   clear hv
   obtain⟨hcx,hfx⟩:=ah H.kx
   have g6: ¬(l.length:Int)<3:=by omega
   have oC:Hid (Pl.aX l=if ((l.take 3).drop 1).all Pl.isName=false then Option.none else TL):=HV
   clear HV
   go_wp2
   go_loop [9] (fun i=> ∃(j:Nat),1<=j∧j<=3∧i=.int .i64 j∧Hid (∀m (h:m<l.length),1<=m->m<j->Pl.isName l[m]=true)) (fun i=>3-(intOf i).toNat)
   case atStart=>exact⟨1,by omega,by omega,rfl,Lib.hid fun m _ h1 h2=>by omega⟩
   case round=>
    obtain⟨j,j1,jR,rfl,hno⟩:=hrel
    by_cases hlt:j<3
    ·have f1:(j:Int)<3:=by omega
     have hjl:j<l.length:=by omega
     obtain⟨b2,off2,hA,_,uj⟩:=d9.gY (hl.up H.all) hjl
     obtain⟨rfl,rfl⟩:b=b2∧off=off2:=by simpa using hA
     have hsz:=Pl.gQ (List.getElem_mem hjl)
     have f2:(0:Int)<=(j:Int):=by omega
     have f3:(j:Int)<(l.length:Int):=by omega
     cases hnm:Pl.isName l[j]with
     | false=>
      have PV:Hid (Pl.aX l=Option.none):=Lib.hid (by
       rw[oC.out,if_pos]
       rw[List.all_eq_false]
       refine⟨l[j],?_,by rw[hnm];decide⟩
       rw[List.mem_iff_getElem]
       exact⟨j-1,by simp;omega,by simp only[List.getElem_drop,List.getElem_take];congr 1;omega⟩)
      obtain⟨y,hy⟩: ∃y,l[j]=y:=⟨_,rfl⟩
      rw[hy]at uj hsz hnm
      have HN:=Lib.hid hnm
      clear hy hnm hA oC
      have lx:=ak H.kx underlying141 rfl aA
      obtain⟨W9,lN,fA,fB⟩:=aG wr w.heap.size 141 141 (zf 0) (zf 1) H.kr aA rfl (by simp[Value.oneCell'])
      have l9:=ak fA underlying141 rfl aA
      have fC:Below w.heap.size w W9:=H.all.grown fB H.all.size (fun j e=>by cases e;exact Nat.le_refl _)
      go_wp2_with (go_at_call 114;refine(gJ _ _ (by omega)).mono ?_;rintro e w' ⟨rfl,rfl⟩;rw[HN.out])
      refine bodyPost_ret (v:=.tuple #[.agg (zf 1),.bool false]) (by simp[results,results103,go_sem,l9]) rfl ?_
      rw[PV.out]
      exact⟨(zf 1),rfl,rfl,by simp[Value.oneCell'],(fun x hx=>by cases hx),fC⟩
     | true=>
      have hnext:Hid (∀m (h:m<l.length),1<=m->m<j+1->Pl.isName l[m]=true):=Lib.hid fun m h h1 h2=>by
       by_cases e:m=j
       ·subst e;exact hnm
       ·exact hno.out m h h1 (by omega)
      obtain⟨y,hy⟩: ∃y,l[j]=y:=⟨_,rfl⟩
      rw[hy]at uj hsz hnm
      have HN:=Lib.hid hnm
      clear hy hnm hA
      go_wp2_with (go_at_call 114;refine(gJ _ _ (by omega)).mono ?_;rintro e w' ⟨rfl,rfl⟩;rw[HN.out])
      go_round
      case rel=>exact⟨j+1,by omega,by omega,by go_num,hnext⟩
      case measure=>first|(simp[intOf];done)|(simp[intOf];omega)
    ·obtain rfl:j=3:=by omega
     have HT:Hid (Pl.aX l=TL):=Lib.hid (by
      rw[oC.out,if_neg]
      rw[Bool.not_eq_false,List.all_eq_true]
      intro x hx
      obtain⟨m,hm,rfl⟩:=List.mem_iff_getElem.1 hx
      simp at hm ⊢
      exact hno.out (m+1) (by omega) (by omega) (by omega))
     clear oC hno
     have H2:=(H.set 13 (.slice (some ⟨b,off+1,none⟩) 1 (c0-1))).set 14 (.slice (some ⟨b,off+(1+1),none⟩) 1 (c0-(1+1)))
     simp only[q1,q2,q3]at H2
     have m1:(1:Int)<=(c0:Int):=by omega
     have m2:(2:Int)<=(c0:Int):=by omega
     have m3:(3:Int)<=(c0:Int):=by omega
     obtain⟨WX,uD⟩: ∃X,(wr.setCell ⟨w.heap.size+1,13,none⟩ (.slice (some ⟨b,off+1,none⟩) 1 (c0-1))).setCell ⟨w.heap.size+1,14,none⟩ (.slice (some ⟨b,off+(1+1),none⟩) 1 (c0-(1+1)))=X:=⟨_,rfl⟩
     rw[uD]at H2
     have H1:=H
     replace H:=H2
     clear H2
     obtain⟨hcy,Uk⟩:=ah H.kx
     by_cases h7:l.length=5
     ·have g7:((l.length:Int) !=5)=false:=by rw[h7];rfl
      have hRl:3<l.length:=by omega
      have Ni:4<l.length:=by omega
      obtain⟨b3,Nj,hA3,_,u3⟩:=d9.gY (hl.up H.all) hRl
      obtain⟨rfl,rfl⟩:b=b3∧off=Nj:=by simpa using hA3
      obtain⟨b4,Nk,Nl,_,u4⟩:=d9.gY (hl.up H.all) Ni
      obtain⟨rfl,rfl⟩:b=b4∧off=Nk:=by simpa using Nl
      have hs3:=Pl.gQ (List.getElem_mem hRl)
      have hs4:=Pl.gQ (List.getElem_mem Ni)
      have w3:Pl.wd l 3=l[3]:=by unfold Pl.wd;rw[List.getElem?_eq_getElem hRl];rfl
      have w4:Pl.wd l 4=l[4]:=by unfold Pl.wd;rw[List.getElem?_eq_getElem Ni];rfl
      obtain⟨y3,hy3⟩: ∃y,l[3]=y:=⟨_,rfl⟩
      obtain⟨y4,hy4⟩: ∃y,l[4]=y:=⟨_,rfl⟩
      rw[hy3]at u3 hs3 w3
      rw[hy4]at u4 hs4 w4
      obtain⟨oa,hoa⟩: ∃x,Pl.bV y3=x:=⟨_,rfl⟩
      obtain⟨ob,BN⟩: ∃x,Pl.bV y4=x:=⟨_,rfl⟩
      have HZ:Hid (Pl.aX l=oa.bind fun s=>ob.map fun e=>⟨1,Pl.wd l 1,⟨#[]⟩,Pl.wd l 2,⟨#[]⟩,s,e,Pl.bF.zero⟩):=Lib.hid (by rw[HT.out,hTL,if_neg (by omega),w3,w4,hoa,BN])
      obtain⟨va,hva⟩: ∃x,oa.getD 0=x:=⟨_,rfl⟩
      obtain⟨vb,hvb⟩: ∃x,ob.getD 0=x:=⟨_,rfl⟩
      obtain⟨ba,hba⟩: ∃x,oa.isSome=x:=⟨_,rfl⟩
      obtain⟨bb,hbb⟩: ∃x,ob.isSome=x:=⟨_,rfl⟩
      have pa:Calls prog 147 #[.string y3] WX fun e w'=>e=.returned (.tuple #[.int .i64 va,.bool ba])∧WX=w':=by rw[<-hva,<-hba];exact jd y3 oa WX (Lib.hid hoa) (by omega)
      have pb:Calls prog 147 #[.string y4] WX fun e w'=>e=.returned (.tuple #[.int .i64 vb,.bool bb])∧WX=w':=by rw[<-hvb,<-hbb];exact jd y4 ob WX (Lib.hid BN) (by omega)
      clear hA3 Nl hs3 hs4 w3 w4 hy3 hy4 hoa BN
      go_wp2_with fail
      refine pa.mono ?_
      clear pa
      rintro e w' ⟨rfl,rfl⟩
      go_wp2_with fail
      refine pb.mono ?_
      clear pb
      rintro e w' ⟨rfl,rfl⟩
      have H3:=(H.set 5 (.int .i64 va)).set 6 (.int .i64 vb)
      simp only[q1,q2,q3]at H3
      obtain⟨WY,R8⟩: ∃X,(WX.setCell ⟨w.heap.size+1,5,none⟩ (.int .i64 va)).setCell ⟨w.heap.size+1,6,none⟩ (.int .i64 vb)=X:=⟨_,rfl⟩
      rw[R8]at H3
      replace H:=H3
      clear H3
      cases ba with
      | false=>
       have lx:=ak H.kx underlying141 rfl aA
       obtain⟨W9,lN,fA,fB⟩:=aG WY w.heap.size 141 141 (zf 0) #[.int .u8 1,.int .i64 0,.int .i64 0,.int .i64 0,.int .i64 0,.int .i64 va,.int .i64 vb,.int .i64 0,.int .i64 0,.int .i64 0,.int .i64 0,.int .i64 0,.int .i64 0,.slice (some ⟨b,off+1,none⟩) 1 (c0-1),.slice (some ⟨b,off+(1+1),none⟩) 1 (c0-(1+1))] H.kr aA rfl (by simp[Value.oneCell'])
       have l9:=ak fA underlying141 rfl aA
       have fC:Below w.heap.size w W9:=H.all.grown fB H.all.size (fun j e=>by cases e;exact Nat.le_refl _)
       go_wp2
       refine bodyPost_ret (v:=.tuple #[.agg #[.int .u8 1,.int .i64 0,.int .i64 0,.int .i64 0,.int .i64 0,.int .i64 va,.int .i64 vb,.int .i64 0,.int .i64 0,.int .i64 0,.int .i64 0,.int .i64 0,.int .i64 0,.slice (some ⟨b,off+1,none⟩) 1 (c0-1),.slice (some ⟨b,off+(1+1),none⟩) 1 (c0-(1+1))],.bool false]) (by simp[results,results103,go_sem,l9]) rfl ?_
       rw[HZ.out]
       exact⟨#[.int .u8 1,.int .i64 0,.int .i64 0,.int .i64 0,.int .i64 0,.int .i64 va,.int .i64 vb,.int .i64 0,.int .i64 0,.int .i64 0,.int .i64 0,.int .i64 0,.int .i64 0,.slice (some ⟨b,off+1,none⟩) 1 (c0-1),.slice (some ⟨b,off+(1+1),none⟩) 1 (c0-(1+1))],by cases oa<;>cases ob<;>first|rfl|(cases hba;done)|(cases hbb;done),rfl,by simp[Value.oneCell'],(fun x hx=>by
        cases oa with
        |none=>cases hx
        | some v1=>
         cases ob with
         |none=>cases hx
         |some v2=>
          obtain rfl:=Option.some.inj hx
          subst hva hvb
          rfl),fC⟩
      | true=>
       have lx:=ak H.kx underlying141 rfl aA
       obtain⟨W9,lN,fA,fB⟩:=aG WY w.heap.size 141 141 (zf 0) #[.int .u8 1,.int .i64 0,.int .i64 0,.int .i64 0,.int .i64 0,.int .i64 va,.int .i64 vb,.int .i64 0,.int .i64 0,.int .i64 0,.int .i64 0,.int .i64 0,.int .i64 0,.slice (some ⟨b,off+1,none⟩) 1 (c0-1),.slice (some ⟨b,off+(1+1),none⟩) 1 (c0-(1+1))] H.kr aA rfl (by simp[Value.oneCell'])
       have l9:=ak fA underlying141 rfl aA
       have fC:Below w.heap.size w W9:=H.all.grown fB H.all.size (fun j e=>by cases e;exact Nat.le_refl _)
       go_wp2
       refine bodyPost_ret (v:=.tuple #[.agg #[.int .u8 1,.int .i64 0,.int .i64 0,.int .i64 0,.int .i64 0,.int .i64 va,.int .i64 vb,.int .i64 0,.int .i64 0,.int .i64 0,.int .i64 0,.int .i64 0,.int .i64 0,.slice (some ⟨b,off+1,none⟩) 1 (c0-1),.slice (some ⟨b,off+(1+1),none⟩) 1 (c0-(1+1))],.bool bb]) (by simp[results,results103,go_sem,l9]) rfl ?_
       rw[HZ.out]
       exact⟨#[.int .u8 1,.int .i64 0,.int .i64 0,.int .i64 0,.int .i64 0,.int .i64 va,.int .i64 vb,.int .i64 0,.int .i64 0,.int .i64 0,.int .i64 0,.int .i64 0,.int .i64 0,.slice (some ⟨b,off+1,none⟩) 1 (c0-1),.slice (some ⟨b,off+(1+1),none⟩) 1 (c0-(1+1))],by rw[<-hbb];cases oa<;>cases ob<;>first|rfl|(cases hba;done),rfl,by simp[Value.oneCell'],(fun x hx=>by
        cases oa with
        |none=>cases hx
        | some v1=>
         cases ob with
         |none=>cases hx
         |some v2=>
          obtain rfl:=Option.some.inj hx
          subst hva hvb
          rfl),fC⟩
     ·have g7:((l.length:Int) !=5)=true:=by simpa using (show ¬(l.length:Int)=5 by omega)
      have HZ:Hid (Pl.aX l=Option.none):=Lib.hid (by rw[HT.out,hTL,if_pos h7])
      have lx:=ak H.kx underlying141 rfl aA
      obtain⟨W9,lN,fA,fB⟩:=aG WX w.heap.size 141 141 (zf 0) #[.int .u8 1,.int .i64 0,.int .i64 0,.int .i64 0,.int .i64 0,.int .i64 0,.int .i64 0,.int .i64 0,.int .i64 0,.int .i64 0,.int .i64 0,.int .i64 0,.int .i64 0,.slice (some ⟨b,off+1,none⟩) 1 (c0-1),.slice (some ⟨b,off+(1+1),none⟩) 1 (c0-(1+1))] H.kr aA rfl (by simp[Value.oneCell'])
      have l9:=ak fA underlying141 rfl aA
      have fC:Below w.heap.size w W9:=H.all.grown fB H.all.size (fun j e=>by cases e;exact Nat.le_refl _)
      go_wp2
      refine bodyPost_ret (v:=.tuple #[.agg #[.int .u8 1,.int .i64 0,.int .i64 0,.int .i64 0,.int .i64 0,.int .i64 0,.int .i64 0,.int .i64 0,.int .i64 0,.int .i64 0,.int .i64 0,.int .i64 0,.int .i64 0,.slice (some ⟨b,off+1,none⟩) 1 (c0-1),.slice (some ⟨b,off+(1+1),none⟩) 1 (c0-(1+1))],.bool false]) (by simp[results,results103,go_sem,l9]) rfl ?_
      rw[HZ.out]
      exact⟨#[.int .u8 1,.int .i64 0,.int .i64 0,.int .i64 0,.int .i64 0,.int .i64 0,.int .i64 0,.int .i64 0,.int .i64 0,.int .i64 0,.int .i64 0,.int .i64 0,.int .i64 0,.slice (some ⟨b,off+1,none⟩) 1 (c0-1),.slice (some ⟨b,off+(1+1),none⟩) 1 (c0-(1+1))],rfl,rfl,by simp[Value.oneCell'],(fun x hx=>by cases hx),fC⟩
  ·have k5:(k:Int)<=5:=by omega
   have k7:(k:Int)<6:=by omega
   have e8:IntKind.u8.wrap ((k:Int)+1)=(k:Int)+1:=by rcases(show k=1∨k=2∨k=3∨k=4∨k=5 by omega)with rfl|rfl|rfl|rfl|rfl<;>rfl
   by_cases hK:k=1
   ·subst hK
    replace H:pQ w (zf 0) wr:=by rw[if_neg (by omega)]at H;exact H
    have H0:=H
    replace H:=H.drew
    clear hv k5 e8
    obtain⟨hcx,hfx⟩:=ah H.kx
    have uc:=u0 _ H.all
    go_wp2
    go_region_held3 (fun W=>W.cell? ⟨b,off,none⟩=some (.string n0)) (exact uc) (first|(go_at_call 92;refine(G5 _).mono ?_;rintro e w' ⟨rfl,rfl⟩))
    all_goals go_wp2
    all_goals (
     go_roundw
     case rel=>exact⟨1+1,by omega,by omega,by go_num,by rw[if_pos (by omega)];have:=(H0.set 0 (.int .u8 1)).drew;simpa using this⟩
     case measure=>first|(simp[intOf];done)|(simp[intOf];omega))
   ·have hvk:((vw k).toList==n0.toList)=false:=hv.out k k1 (by omega) hK
    have pv:=fun W=>ni k W k1 (by omega)
    obtain⟨y,hy⟩: ∃y,vw k=y:=⟨_,rfl⟩
    rw[hy]at hvk pv
    replace H:pQ w (if 1<k+1 then (zf 1)else (zf 0)) wr:=by
     by_cases c:1<k
     ·rw[if_pos c]at H;rw[if_pos (by omega)];exact H
     ·rw[if_neg c]at H;rw[if_neg (by omega)];exact H
    clear hy hv
    obtain⟨xa,hxa⟩: ∃xa:Array Value,(if 1<k+1 then ((zf 1):Array Value)else (zf 0))=xa:=⟨_,rfl⟩
    rw[hxa]at H
    replace H:=H.drew
    have uc:=u0 _ H.all
    go_wp2
    go_region_held3 (fun W=>W.cell? ⟨b,off,none⟩=some (.string n0)) (exact uc) (first|(go_at_call 92;refine(pv _).mono ?_;rintro e w' ⟨rfl,rfl⟩))
    all_goals go_wp2
    all_goals (
     go_roundw
     case rel=>exact⟨k+1,by omega,by omega,by go_num,by rw[hxa];exact H⟩
     case measure=>first|(simp[intOf];done)|(simp[intOf];omega))
end Go.Proofs
namespace Go.Proofs
open Tryz RowKit
attribute [-go_sem] run_equalIn_agg loadVar storeVar
attribute [local go_sem] bZ bH dU aT dD nK jO jP Au qx
theorem EY (b off c0:Nat) (l:List ByteArray) (w:World) (hl:d9 w w.heap.size (some ⟨b,off,none⟩) l) (hcap:l.length<=c0) (ht:Pl.tot l<=100000) (h4:4<=l.length) (n0:ByteArray) (u0: ∀W,Below w.heap.size w W->W.cell? ⟨b,off,none⟩=some (.string n0)) (vK:(([119,105,100,116,104]:List UInt8)==n0.toList)=true) (hv:Hid (∀k,1<=k->k<=5->k≠2->((vw k).toList==n0.toList)=false)) (TL:Option Pl.kZ) (hTL:TL=if l.length≠6 then Option.none else (Pl.bV (Pl.wd l 4)).bind fun s=>(Pl.bV (Pl.wd l 5)).map fun e=>⟨2,Pl.wd l 1,Pl.wd l 2,Pl.wd l 3,⟨#[]⟩,s,e,Pl.bF.zero⟩) (HV:Hid (Pl.aX l=if ((l.take 4).drop 1).all Pl.isName=false then Option.none else TL)):
  Calls prog 103 #[.slice (some ⟨b,off,none⟩) l.length c0] w (vg (Pl.aX l) b off c0 w):=by
 have g4: ¬(l.length:Int)<4:=by omega
 have g5:(0:Int)<(l.length:Int):=by omega
 have g7:0<l.length:=by omega
 obtain⟨W0,W1,hW0,st1,H⟩:=G_ w
 go_enter func103,ntmps103
 go_wp2
 go_loopw [7] (fun i wr=> ∃(k:Nat),1<=k∧k<=6∧i=.int .u8 k∧pQ w (if 2<k then (zf 2)else (zf 0)) wr) (fun i _=>6-(intOf i).toNat)
 case atStart=>exact⟨1,by omega,by omega,rfl,by rw[if_neg (by omega)];exact H⟩
 case round=>
  clear H st1 hW0
  obtain⟨k,k1,k6,rfl,H⟩:=hrel
  by_cases h6:k=6
  ·subst h6
   replace H:pQ w (zf 2) wr:=by rw[if_pos (by omega)]at H;exact H
   clear hv
   obtain⟨hcx,hfx⟩:=ah H.kx
   have g6: ¬(l.length:Int)<4:=by omega
   have oC:Hid (Pl.aX l=if ((l.take 4).drop 1).all Pl.isName=false then Option.none else TL):=HV
   clear HV
   go_wp2
   go_loop [9] (fun i=> ∃(j:Nat),1<=j∧j<=4∧i=.int .i64 j∧Hid (∀m (h:m<l.length),1<=m->m<j->Pl.isName l[m]=true)) (fun i=>4-(intOf i).toNat)
   case atStart=>exact⟨1,by omega,by omega,rfl,Lib.hid fun m _ h1 h2=>by omega⟩
   case round=>
    obtain⟨j,j1,jR,rfl,hno⟩:=hrel
    by_cases hlt:j<4
    ·have f1:(j:Int)<4:=by omega
     have hjl:j<l.length:=by omega
     obtain⟨b2,off2,hA,_,uj⟩:=d9.gY (hl.up H.all) hjl
     obtain⟨rfl,rfl⟩:b=b2∧off=off2:=by simpa using hA
     have hsz:=Pl.gQ (List.getElem_mem hjl)
     have f2:(0:Int)<=(j:Int):=by omega
     have f3:(j:Int)<(l.length:Int):=by omega
     cases hnm:Pl.isName l[j]with
     | false=>
      have PV:Hid (Pl.aX l=Option.none):=Lib.hid (by
       rw[oC.out,if_pos]
       rw[List.all_eq_false]
       refine⟨l[j],?_,by rw[hnm];decide⟩
       rw[List.mem_iff_getElem]
       exact⟨j-1,by simp;omega,by simp only[List.getElem_drop,List.getElem_take];congr 1;omega⟩)
      obtain⟨y,hy⟩: ∃y,l[j]=y:=⟨_,rfl⟩
      rw[hy]at uj hsz hnm
      have HN:=Lib.hid hnm
      clear hy hnm hA oC
      have lx:=ak H.kx underlying141 rfl aA
      obtain⟨W9,lN,fA,fB⟩:=aG wr w.heap.size 141 141 (zf 0) (zf 2) H.kr aA rfl (by simp[Value.oneCell'])
      have l9:=ak fA underlying141 rfl aA
      have fC:Below w.heap.size w W9:=H.all.grown fB H.all.size (fun j e=>by cases e;exact Nat.le_refl _)
      go_wp2_with (go_at_call 114;refine(gJ _ _ (by omega)).mono ?_;rintro e w' ⟨rfl,rfl⟩;rw[HN.out])
      refine bodyPost_ret (v:=.tuple #[.agg (zf 2),.bool false]) (by simp[results,results103,go_sem,l9]) rfl ?_
      rw[PV.out]
      exact⟨(zf 2),rfl,rfl,by simp[Value.oneCell'],(fun x hx=>by cases hx),fC⟩
     | true=>
      have hnext:Hid (∀m (h:m<l.length),1<=m->m<j+1->Pl.isName l[m]=true):=Lib.hid fun m h h1 h2=>by
       by_cases e:m=j
       ·subst e;exact hnm
       ·exact hno.out m h h1 (by omega)
      obtain⟨y,hy⟩: ∃y,l[j]=y:=⟨_,rfl⟩
      rw[hy]at uj hsz hnm
      have HN:=Lib.hid hnm
      clear hy hnm hA
      go_wp2_with (go_at_call 114;refine(gJ _ _ (by omega)).mono ?_;rintro e w' ⟨rfl,rfl⟩;rw[HN.out])
      go_round
      case rel=>exact⟨j+1,by omega,by omega,by go_num,hnext⟩
      case measure=>first|(simp[intOf];done)|(simp[intOf];omega)
    ·obtain rfl:j=4:=by omega
     have HT:Hid (Pl.aX l=TL):=Lib.hid (by
      rw[oC.out,if_neg]
      rw[Bool.not_eq_false,List.all_eq_true]
      intro x hx
      obtain⟨m,hm,rfl⟩:=List.mem_iff_getElem.1 hx
      simp at hm ⊢
      exact hno.out (m+1) (by omega) (by omega) (by omega))
     clear oC hno
     have H2:=(H.set 13 (.slice (some ⟨b,off+1,none⟩) 2 (c0-1))).set 14 (.slice (some ⟨b,off+(1+2),none⟩) 1 (c0-(1+2)))
     simp only[q1,q2,q3]at H2
     have m1:(1:Int)<=(c0:Int):=by omega
     have m2:(3:Int)<=(c0:Int):=by omega
     have m3:(4:Int)<=(c0:Int):=by omega
     obtain⟨WX,uD⟩: ∃X,(wr.setCell ⟨w.heap.size+1,13,none⟩ (.slice (some ⟨b,off+1,none⟩) 2 (c0-1))).setCell ⟨w.heap.size+1,14,none⟩ (.slice (some ⟨b,off+(1+2),none⟩) 1 (c0-(1+2)))=X:=⟨_,rfl⟩
     rw[uD]at H2
     have H1:=H
     replace H:=H2
     clear H2
     obtain⟨hcy,Uk⟩:=ah H.kx
     by_cases h7:l.length=6
     ·have g7:((l.length:Int) !=6)=false:=by rw[h7];rfl
      have hRl:4<l.length:=by omega
      have Ni:5<l.length:=by omega
      obtain⟨b3,Nj,hA3,_,u3⟩:=d9.gY (hl.up H.all) hRl
      obtain⟨rfl,rfl⟩:b=b3∧off=Nj:=by simpa using hA3
      obtain⟨b4,Nk,Nl,_,u4⟩:=d9.gY (hl.up H.all) Ni
      obtain⟨rfl,rfl⟩:b=b4∧off=Nk:=by simpa using Nl
      have hs3:=Pl.gQ (List.getElem_mem hRl)
      have hs4:=Pl.gQ (List.getElem_mem Ni)
      have w3:Pl.wd l 4=l[4]:=by unfold Pl.wd;rw[List.getElem?_eq_getElem hRl];rfl
      have w4:Pl.wd l 5=l[5]:=by unfold Pl.wd;rw[List.getElem?_eq_getElem Ni];rfl
      obtain⟨y3,hy3⟩: ∃y,l[4]=y:=⟨_,rfl⟩
      obtain⟨y4,hy4⟩: ∃y,l[5]=y:=⟨_,rfl⟩
      rw[hy3]at u3 hs3 w3
      rw[hy4]at u4 hs4 w4
      obtain⟨oa,hoa⟩: ∃x,Pl.bV y3=x:=⟨_,rfl⟩
      obtain⟨ob,BN⟩: ∃x,Pl.bV y4=x:=⟨_,rfl⟩
      have HZ:Hid (Pl.aX l=oa.bind fun s=>ob.map fun e=>⟨2,Pl.wd l 1,Pl.wd l 2,Pl.wd l 3,⟨#[]⟩,s,e,Pl.bF.zero⟩):=Lib.hid (by rw[HT.out,hTL,if_neg (by omega),w3,w4,hoa,BN])
      obtain⟨va,hva⟩: ∃x,oa.getD 0=x:=⟨_,rfl⟩
      obtain⟨vb,hvb⟩: ∃x,ob.getD 0=x:=⟨_,rfl⟩
      obtain⟨ba,hba⟩: ∃x,oa.isSome=x:=⟨_,rfl⟩
      obtain⟨bb,hbb⟩: ∃x,ob.isSome=x:=⟨_,rfl⟩
      have pa:Calls prog 147 #[.string y3] WX fun e w'=>e=.returned (.tuple #[.int .i64 va,.bool ba])∧WX=w':=by rw[<-hva,<-hba];exact jd y3 oa WX (Lib.hid hoa) (by omega)
      have pb:Calls prog 147 #[.string y4] WX fun e w'=>e=.returned (.tuple #[.int .i64 vb,.bool bb])∧WX=w':=by rw[<-hvb,<-hbb];exact jd y4 ob WX (Lib.hid BN) (by omega)
      clear hA3 Nl hs3 hs4 w3 w4 hy3 hy4 hoa BN
      go_wp2_with fail
      refine pa.mono ?_
      clear pa
      rintro e w' ⟨rfl,rfl⟩
      go_wp2_with fail
      refine pb.mono ?_
      clear pb
      rintro e w' ⟨rfl,rfl⟩
      have H3:=(H.set 5 (.int .i64 va)).set 6 (.int .i64 vb)
      simp only[q1,q2,q3]at H3
      obtain⟨WY,R8⟩: ∃X,(WX.setCell ⟨w.heap.size+1,5,none⟩ (.int .i64 va)).setCell ⟨w.heap.size+1,6,none⟩ (.int .i64 vb)=X:=⟨_,rfl⟩
      rw[R8]at H3
      replace H:=H3
      clear H3
      cases ba with
      | false=>
       have lx:=ak H.kx underlying141 rfl aA
       obtain⟨W9,lN,fA,fB⟩:=aG WY w.heap.size 141 141 (zf 0) #[.int .u8 2,.int .i64 0,.int .i64 0,.int .i64 0,.int .i64 0,.int .i64 va,.int .i64 vb,.int .i64 0,.int .i64 0,.int .i64 0,.int .i64 0,.int .i64 0,.int .i64 0,.slice (some ⟨b,off+1,none⟩) 2 (c0-1),.slice (some ⟨b,off+(1+2),none⟩) 1 (c0-(1+2))] H.kr aA rfl (by simp[Value.oneCell'])
       have l9:=ak fA underlying141 rfl aA
       have fC:Below w.heap.size w W9:=H.all.grown fB H.all.size (fun j e=>by cases e;exact Nat.le_refl _)
       go_wp2
       refine bodyPost_ret (v:=.tuple #[.agg #[.int .u8 2,.int .i64 0,.int .i64 0,.int .i64 0,.int .i64 0,.int .i64 va,.int .i64 vb,.int .i64 0,.int .i64 0,.int .i64 0,.int .i64 0,.int .i64 0,.int .i64 0,.slice (some ⟨b,off+1,none⟩) 2 (c0-1),.slice (some ⟨b,off+(1+2),none⟩) 1 (c0-(1+2))],.bool false]) (by simp[results,results103,go_sem,l9]) rfl ?_
       rw[HZ.out]
       exact⟨#[.int .u8 2,.int .i64 0,.int .i64 0,.int .i64 0,.int .i64 0,.int .i64 va,.int .i64 vb,.int .i64 0,.int .i64 0,.int .i64 0,.int .i64 0,.int .i64 0,.int .i64 0,.slice (some ⟨b,off+1,none⟩) 2 (c0-1),.slice (some ⟨b,off+(1+2),none⟩) 1 (c0-(1+2))],by cases oa<;>cases ob<;>first|rfl|(cases hba;done)|(cases hbb;done),rfl,by simp[Value.oneCell'],(fun x hx=>by
        cases oa with
        |none=>cases hx
        | some v1=>
         cases ob with
         |none=>cases hx
         |some v2=>
          obtain rfl:=Option.some.inj hx
          subst hva hvb
          rfl),fC⟩
      | true=>
       have lx:=ak H.kx underlying141 rfl aA
       obtain⟨W9,lN,fA,fB⟩:=aG WY w.heap.size 141 141 (zf 0) #[.int .u8 2,.int .i64 0,.int .i64 0,.int .i64 0,.int .i64 0,.int .i64 va,.int .i64 vb,.int .i64 0,.int .i64 0,.int .i64 0,.int .i64 0,.int .i64 0,.int .i64 0,.slice (some ⟨b,off+1,none⟩) 2 (c0-1),.slice (some ⟨b,off+(1+2),none⟩) 1 (c0-(1+2))] H.kr aA rfl (by simp[Value.oneCell'])
       have l9:=ak fA underlying141 rfl aA
       have fC:Below w.heap.size w W9:=H.all.grown fB H.all.size (fun j e=>by cases e;exact Nat.le_refl _)
       go_wp2
       refine bodyPost_ret (v:=.tuple #[.agg #[.int .u8 2,.int .i64 0,.int .i64 0,.int .i64 0,.int .i64 0,.int .i64 va,.int .i64 vb,.int .i64 0,.int .i64 0,.int .i64 0,.int .i64 0,.int .i64 0,.int .i64 0,.slice (some ⟨b,off+1,none⟩) 2 (c0-1),.slice (some ⟨b,off+(1+2),none⟩) 1 (c0-(1+2))],.bool bb]) (by simp[results,results103,go_sem,l9]) rfl ?_
       rw[HZ.out]
       exact⟨#[.int .u8 2,.int .i64 0,.int .i64 0,.int .i64 0,.int .i64 0,.int .i64 va,.int .i64 vb,.int .i64 0,.int .i64 0,.int .i64 0,.int .i64 0,.int .i64 0,.int .i64 0,.slice (some ⟨b,off+1,none⟩) 2 (c0-1),.slice (some ⟨b,off+(1+2),none⟩) 1 (c0-(1+2))],by rw[<-hbb];cases oa<;>cases ob<;>first|rfl|(cases hba;done),rfl,by simp[Value.oneCell'],(fun x hx=>by
        cases oa with
        |none=>cases hx
        | some v1=>
         cases ob with
         |none=>cases hx
         |some v2=>
          obtain rfl:=Option.some.inj hx
          subst hva hvb
          rfl),fC⟩
     ·have g7:((l.length:Int) !=6)=true:=by simpa using (show ¬(l.length:Int)=6 by omega)
      have HZ:Hid (Pl.aX l=Option.none):=Lib.hid (by rw[HT.out,hTL,if_pos h7])
      have lx:=ak H.kx underlying141 rfl aA
      obtain⟨W9,lN,fA,fB⟩:=aG WX w.heap.size 141 141 (zf 0) #[.int .u8 2,.int .i64 0,.int .i64 0,.int .i64 0,.int .i64 0,.int .i64 0,.int .i64 0,.int .i64 0,.int .i64 0,.int .i64 0,.int .i64 0,.int .i64 0,.int .i64 0,.slice (some ⟨b,off+1,none⟩) 2 (c0-1),.slice (some ⟨b,off+(1+2),none⟩) 1 (c0-(1+2))] H.kr aA rfl (by simp[Value.oneCell'])
      have l9:=ak fA underlying141 rfl aA
      have fC:Below w.heap.size w W9:=H.all.grown fB H.all.size (fun j e=>by cases e;exact Nat.le_refl _)
      go_wp2
      refine bodyPost_ret (v:=.tuple #[.agg #[.int .u8 2,.int .i64 0,.int .i64 0,.int .i64 0,.int .i64 0,.int .i64 0,.int .i64 0,.int .i64 0,.int .i64 0,.int .i64 0,.int .i64 0,.int .i64 0,.int .i64 0,.slice (some ⟨b,off+1,none⟩) 2 (c0-1),.slice (some ⟨b,off+(1+2),none⟩) 1 (c0-(1+2))],.bool false]) (by simp[results,results103,go_sem,l9]) rfl ?_
      rw[HZ.out]
      exact⟨#[.int .u8 2,.int .i64 0,.int .i64 0,.int .i64 0,.int .i64 0,.int .i64 0,.int .i64 0,.int .i64 0,.int .i64 0,.int .i64 0,.int .i64 0,.int .i64 0,.int .i64 0,.slice (some ⟨b,off+1,none⟩) 2 (c0-1),.slice (some ⟨b,off+(1+2),none⟩) 1 (c0-(1+2))],rfl,rfl,by simp[Value.oneCell'],(fun x hx=>by cases hx),fC⟩
  ·have k5:(k:Int)<=5:=by omega
   have k7:(k:Int)<6:=by omega
   have e8:IntKind.u8.wrap ((k:Int)+1)=(k:Int)+1:=by rcases(show k=1∨k=2∨k=3∨k=4∨k=5 by omega)with rfl|rfl|rfl|rfl|rfl<;>rfl
   by_cases hK:k=2
   ·subst hK
    replace H:pQ w (zf 0) wr:=by rw[if_neg (by omega)]at H;exact H
    have H0:=H
    replace H:=H.drew
    clear hv k5 e8
    obtain⟨hcx,hfx⟩:=ah H.kx
    have uc:=u0 _ H.all
    go_wp2
    go_region_held3 (fun W=>W.cell? ⟨b,off,none⟩=some (.string n0)) (exact uc) (first|(go_at_call 92;refine(G6 _).mono ?_;rintro e w' ⟨rfl,rfl⟩))
    all_goals go_wp2
    all_goals (
     go_roundw
     case rel=>exact⟨2+1,by omega,by omega,by go_num,by rw[if_pos (by omega)];have:=(H0.set 0 (.int .u8 2)).drew;simpa using this⟩
     case measure=>first|(simp[intOf];done)|(simp[intOf];omega))
   ·have hvk:((vw k).toList==n0.toList)=false:=hv.out k k1 (by omega) hK
    have pv:=fun W=>ni k W k1 (by omega)
    obtain⟨y,hy⟩: ∃y,vw k=y:=⟨_,rfl⟩
    rw[hy]at hvk pv
    replace H:pQ w (if 2<k+1 then (zf 2)else (zf 0)) wr:=by
     by_cases c:2<k
     ·rw[if_pos c]at H;rw[if_pos (by omega)];exact H
     ·rw[if_neg c]at H;rw[if_neg (by omega)];exact H
    clear hy hv
    obtain⟨xa,hxa⟩: ∃xa:Array Value,(if 2<k+1 then ((zf 2):Array Value)else (zf 0))=xa:=⟨_,rfl⟩
    rw[hxa]at H
    replace H:=H.drew
    have uc:=u0 _ H.all
    go_wp2
    go_region_held3 (fun W=>W.cell? ⟨b,off,none⟩=some (.string n0)) (exact uc) (first|(go_at_call 92;refine(pv _).mono ?_;rintro e w' ⟨rfl,rfl⟩))
    all_goals go_wp2
    all_goals (
     go_roundw
     case rel=>exact⟨k+1,by omega,by omega,by go_num,by rw[hxa];exact H⟩
     case measure=>first|(simp[intOf];done)|(simp[intOf];omega))
end Go.Proofs
namespace Go.Proofs
open Tryz RowKit
attribute [-go_sem] run_equalIn_agg loadVar storeVar
attribute [local go_sem] bZ bH dU aT dD nK jO jP Au qx
theorem Cr (b off c0:Nat) (l:List ByteArray) (w:World) (hl:d9 w w.heap.size (some ⟨b,off,none⟩) l) (hcap:l.length<=c0) (ht:Pl.tot l<=100000) (h4:4<=l.length) (n0:ByteArray) (u0: ∀W,Below w.heap.size w W->W.cell? ⟨b,off,none⟩=some (.string n0)) (vK:(([99,111,117,114,115,101]:List UInt8)==n0.toList)=true) (hv:Hid (∀k,1<=k->k<=5->k≠3->((vw k).toList==n0.toList)=false)) (TL:Option Pl.kZ) (hTL:TL=(Pl.qC (l.drop 4)).map fun c=>⟨3,Pl.wd l 1,⟨#[]⟩,Pl.wd l 2,Pl.wd l 3,0,0,c⟩) (HV:Hid (Pl.aX l=if ((l.take 4).drop 1).all Pl.isName=false then Option.none else TL)):
  Calls prog 103 #[.slice (some ⟨b,off,none⟩) l.length c0] w (vg (Pl.aX l) b off c0 w):=by
 have g4: ¬(l.length:Int)<4:=by omega
 have g5:(0:Int)<(l.length:Int):=by omega
 have g7:0<l.length:=by omega
 obtain⟨W0,W1,hW0,st1,H⟩:=G_ w
 go_enter func103,ntmps103
 go_wp2
 go_loopw [7] (fun i wr=> ∃(k:Nat),1<=k∧k<=6∧i=.int .u8 k∧pQ w (if 3<k then (zf 3)else (zf 0)) wr) (fun i _=>6-(intOf i).toNat)
 case atStart=>exact⟨1,by omega,by omega,rfl,by rw[if_neg (by omega)];exact H⟩
 case round=>
  clear H st1 hW0
  obtain⟨k,k1,k6,rfl,H⟩:=hrel
  by_cases h6:k=6
  ·subst h6
   replace H:pQ w (zf 3) wr:=by rw[if_pos (by omega)]at H;exact H
   clear hv
   obtain⟨hcx,hfx⟩:=ah H.kx
   have g6: ¬(l.length:Int)<4:=by omega
   have oC:Hid (Pl.aX l=if ((l.take 4).drop 1).all Pl.isName=false then Option.none else TL):=HV
   clear HV
   go_wp2
   go_loop [9] (fun i=> ∃(j:Nat),1<=j∧j<=4∧i=.int .i64 j∧Hid (∀m (h:m<l.length),1<=m->m<j->Pl.isName l[m]=true)) (fun i=>4-(intOf i).toNat)
   case atStart=>exact⟨1,by omega,by omega,rfl,Lib.hid fun m _ h1 h2=>by omega⟩
   case round=>
    obtain⟨j,j1,jR,rfl,hno⟩:=hrel
    by_cases hlt:j<4
    ·have f1:(j:Int)<4:=by omega
     have hjl:j<l.length:=by omega
     obtain⟨b2,off2,hA,_,uj⟩:=d9.gY (hl.up H.all) hjl
     obtain⟨rfl,rfl⟩:b=b2∧off=off2:=by simpa using hA
     have hsz:=Pl.gQ (List.getElem_mem hjl)
     have f2:(0:Int)<=(j:Int):=by omega
     have f3:(j:Int)<(l.length:Int):=by omega
     cases hnm:Pl.isName l[j]with
     | false=>
      have PV:Hid (Pl.aX l=Option.none):=Lib.hid (by
       rw[oC.out,if_pos]
       rw[List.all_eq_false]
       refine⟨l[j],?_,by rw[hnm];decide⟩
       rw[List.mem_iff_getElem]
       exact⟨j-1,by simp;omega,by simp only[List.getElem_drop,List.getElem_take];congr 1;omega⟩)
      obtain⟨y,hy⟩: ∃y,l[j]=y:=⟨_,rfl⟩
      rw[hy]at uj hsz hnm
      have HN:=Lib.hid hnm
      clear hy hnm hA oC
      have lx:=ak H.kx underlying141 rfl aA
      obtain⟨W9,lN,fA,fB⟩:=aG wr w.heap.size 141 141 (zf 0) (zf 3) H.kr aA rfl (by simp[Value.oneCell'])
      have l9:=ak fA underlying141 rfl aA
      have fC:Below w.heap.size w W9:=H.all.grown fB H.all.size (fun j e=>by cases e;exact Nat.le_refl _)
      go_wp2_with (go_at_call 114;refine(gJ _ _ (by omega)).mono ?_;rintro e w' ⟨rfl,rfl⟩;rw[HN.out])
      refine bodyPost_ret (v:=.tuple #[.agg (zf 3),.bool false]) (by simp[results,results103,go_sem,l9]) rfl ?_
      rw[PV.out]
      exact⟨(zf 3),rfl,rfl,by simp[Value.oneCell'],(fun x hx=>by cases hx),fC⟩
     | true=>
      have hnext:Hid (∀m (h:m<l.length),1<=m->m<j+1->Pl.isName l[m]=true):=Lib.hid fun m h h1 h2=>by
       by_cases e:m=j
       ·subst e;exact hnm
       ·exact hno.out m h h1 (by omega)
      obtain⟨y,hy⟩: ∃y,l[j]=y:=⟨_,rfl⟩
      rw[hy]at uj hsz hnm
      have HN:=Lib.hid hnm
      clear hy hnm hA
      go_wp2_with (go_at_call 114;refine(gJ _ _ (by omega)).mono ?_;rintro e w' ⟨rfl,rfl⟩;rw[HN.out])
      go_round
      case rel=>exact⟨j+1,by omega,by omega,by go_num,hnext⟩
      case measure=>first|(simp[intOf];done)|(simp[intOf];omega)
    ·obtain rfl:j=4:=by omega
     have HT:Hid (Pl.aX l=TL):=Lib.hid (by
      rw[oC.out,if_neg]
      rw[Bool.not_eq_false,List.all_eq_true]
      intro x hx
      obtain⟨m,hm,rfl⟩:=List.mem_iff_getElem.1 hx
      simp at hm ⊢
      exact hno.out (m+1) (by omega) (by omega) (by omega))
     clear oC hno
     have H2:=(H.set 13 (.slice (some ⟨b,off+1,none⟩) 1 (c0-1))).set 14 (.slice (some ⟨b,off+(1+1),none⟩) 2 (c0-(1+1)))
     simp only[q1,q2,q3]at H2
     have m1:(1:Int)<=(c0:Int):=by omega
     have m2:(2:Int)<=(c0:Int):=by omega
     have m3:(4:Int)<=(c0:Int):=by omega
     obtain⟨WX,uD⟩: ∃X,(wr.setCell ⟨w.heap.size+1,13,none⟩ (.slice (some ⟨b,off+1,none⟩) 1 (c0-1))).setCell ⟨w.heap.size+1,14,none⟩ (.slice (some ⟨b,off+(1+1),none⟩) 2 (c0-(1+1)))=X:=⟨_,rfl⟩
     rw[uD]at H2
     have H1:=H
     replace H:=H2
     clear H2
     obtain⟨hcy,Uk⟩:=ah H.kx
     have HZ:Hid (Pl.aX l=(Pl.qC (l.drop 4)).map fun c=>⟨3,Pl.wd l 1,⟨#[]⟩,Pl.wd l 2,Pl.wd l 3,0,0,c⟩):=Lib.hid (by rw[HT.out,hTL])
     obtain⟨oc,hoc⟩: ∃x,Pl.qC (l.drop 4)=x:=⟨_,rfl⟩
     rw[hoc]at HZ
     obtain⟨bc,hbc⟩: ∃x,oc.isSome=x:=⟨_,rfl⟩
     have n4:(4:Int)<=(l.length:Int):=by omega
     have P0:Hid (c0=4->Calls prog 171 #[.slice (some ⟨b,off,none⟩) (l.length-4) 0] WX (yX oc WX)):=Lib.hid fun hc4=>by
      have hd:l.drop 4=[]:=List.drop_eq_nil_of_le (by omega)
      have:=Aq (some ⟨b,off,none⟩) 0 (l.drop 4) WX (by rw[hd];exact .inl rfl) (by rw[List.length_drop];omega) (Nat.le_trans (Pl.yT l 4) ht)
      rw[List.length_drop,hoc]at this
      exact this
     have P1:Hid (Calls prog 171 #[.slice (some ⟨b,off+4,none⟩) (l.length-4) (c0-4)] WX (yX oc WX)):=Lib.hid (by
      have:=Aq (some ⟨b,off+4,none⟩) (c0-4) (l.drop 4) WX (xg (hl.up H.all) 4) (by rw[List.length_drop];omega) (Nat.le_trans (Pl.yT l 4) ht)
      rw[List.length_drop,hoc]at this
      exact this)
     clear hoc
     go_wp2_with fail
     all_goals first
      |(rename c0=4=>hq;refine(P0.out hq).mono ?_;clear hq)
      |(refine P1.out.mono ?_)
     all_goals clear P0 P1
     all_goals (
      rintro e w5 ⟨C,rfl,hC,hx⟩
      rw[hbc]
      replace H:=H.IU hx
      clear hx hcy Uk hcx hfx
      have kn:=heap_alloc_new w5 (.cells z6 46)
      have H3:pQ w #[.int .u8 3,.int .i64 0,.int .i64 0,.int .i64 0,.int .i64 0,.int .i64 0,.int .i64 0,.int .i64 0,.int .i64 0,.int .i64 0,.int .i64 0,.int .i64 0,.int .i64 0,.slice (some ⟨b,off+1,none⟩) 1 (c0-1),.slice (some ⟨b,off+(1+1),none⟩) 2 (c0-(1+1))] (w5.alloc (.cells z6 46)):=H.IU ((Below.refl _ w5).alloc (Nat.le_refl _) _)
      obtain⟨W6,Yt,Vu,Ws⟩:=aG (w5.alloc (.cells z6 46)) w5.heap.size 46 46 z6 (cq C) kn sJ rfl (by simp[Value.oneCell'])
      have l6:=ak Vu underlying46 rfl sJ
      have z5:=lO H.kx
      have z6:w5.heap.size≠w.heap.size:=by omega
      have z7:w5.heap.size≠w.heap.size+1:=by omega
      have H4:pQ w #[.int .u8 3,.int .i64 0,.int .i64 0,.int .i64 0,.int .i64 0,.int .i64 0,.int .i64 0,.int .i64 0,.int .i64 0,.int .i64 0,.int .i64 0,.int .i64 0,.int .i64 0,.slice (some ⟨b,off+1,none⟩) 1 (c0-1),.slice (some ⟨b,off+(1+1),none⟩) 2 (c0-(1+1))] W6:=⟨(Ws.block _ (lO H3.kr) (by simp;omega)).trans H3.kr,(Ws.block _ (lO H3.kx) (by simp;omega)).trans H3.kx,H3.all.grown Ws H3.all.size (fun j e=>by cases e;omega)⟩
      have H5:=(((((H4.set 7 (.int .i64 C.b)).set 8 (.int .i64 C.n)).set 9 (.int .i64 C.l)).set 10 (.int .i64 C.y)).set 11 (.int .i64 C.x)).set 12 (.int .i64 C.s)
      simp only[q1,q2,q3]at H5
      obtain⟨PZ,Sq⟩:=ah H4.kx
      obtain⟨WY,R8⟩: ∃X,(((((W6.setCell ⟨w.heap.size+1,7,none⟩ (.int .i64 C.b)).setCell ⟨w.heap.size+1,8,none⟩ (.int .i64 C.n)).setCell ⟨w.heap.size+1,9,none⟩ (.int .i64 C.l)).setCell ⟨w.heap.size+1,10,none⟩ (.int .i64 C.y)).setCell ⟨w.heap.size+1,11,none⟩ (.int .i64 C.x)).setCell ⟨w.heap.size+1,12,none⟩ (.int .i64 C.s)=X:=⟨_,rfl⟩
      rw[R8]at H5
      replace H:=H5
      clear H5 H4 H3
      have lx:=ak H.kx underlying141 rfl aA
      obtain⟨W9,lN,fA,fB⟩:=aG WY w.heap.size 141 141 (zf 0) #[.int .u8 3,.int .i64 0,.int .i64 0,.int .i64 0,.int .i64 0,.int .i64 0,.int .i64 0,.int .i64 C.b,.int .i64 C.n,.int .i64 C.l,.int .i64 C.y,.int .i64 C.x,.int .i64 C.s,.slice (some ⟨b,off+1,none⟩) 1 (c0-1),.slice (some ⟨b,off+(1+1),none⟩) 2 (c0-(1+1))] H.kr aA rfl (by simp[Value.oneCell'])
      have l9:=ak fA underlying141 rfl aA
      have fC:Below w.heap.size w W9:=H.all.grown fB H.all.size (fun j e=>by cases e;exact Nat.le_refl _)
      go_wp2
      refine bodyPost_ret (v:=.tuple #[.agg #[.int .u8 3,.int .i64 0,.int .i64 0,.int .i64 0,.int .i64 0,.int .i64 0,.int .i64 0,.int .i64 C.b,.int .i64 C.n,.int .i64 C.l,.int .i64 C.y,.int .i64 C.x,.int .i64 C.s,.slice (some ⟨b,off+1,none⟩) 1 (c0-1),.slice (some ⟨b,off+(1+1),none⟩) 2 (c0-(1+1))],.bool bc]) (by simp[results,results103,go_sem,l9]) rfl ?_
      rw[HZ.out]
      exact⟨#[.int .u8 3,.int .i64 0,.int .i64 0,.int .i64 0,.int .i64 0,.int .i64 0,.int .i64 0,.int .i64 C.b,.int .i64 C.n,.int .i64 C.l,.int .i64 C.y,.int .i64 C.x,.int .i64 C.s,.slice (some ⟨b,off+1,none⟩) 1 (c0-1),.slice (some ⟨b,off+(1+1),none⟩) 2 (c0-(1+1))],by rw[<-hbc,Option.isSome_map],rfl,by simp[Value.oneCell'],(fun x hx=>by
        cases oc with
        |none=>cases hx
        |some c=>
         obtain rfl:=Option.some.inj hx
         obtain rfl:=hC c rfl
         rfl),fC⟩)
  ·have k5:(k:Int)<=5:=by omega
   have k7:(k:Int)<6:=by omega
   have e8:IntKind.u8.wrap ((k:Int)+1)=(k:Int)+1:=by rcases(show k=1∨k=2∨k=3∨k=4∨k=5 by omega)with rfl|rfl|rfl|rfl|rfl<;>rfl
   by_cases hK:k=3
   ·subst hK
    replace H:pQ w (zf 0) wr:=by rw[if_neg (by omega)]at H;exact H
    have H0:=H
    replace H:=H.drew
    clear hv k5 e8
    obtain⟨hcx,hfx⟩:=ah H.kx
    have uc:=u0 _ H.all
    go_wp2
    go_region_held3 (fun W=>W.cell? ⟨b,off,none⟩=some (.string n0)) (exact uc) (first|(go_at_call 92;refine(G7 _).mono ?_;rintro e w' ⟨rfl,rfl⟩))
    all_goals go_wp2
    all_goals (
     go_roundw
     case rel=>exact⟨3+1,by omega,by omega,by go_num,by rw[if_pos (by omega)];have:=(H0.set 0 (.int .u8 3)).drew;simpa using this⟩
     case measure=>first|(simp[intOf];done)|(simp[intOf];omega))
   ·have hvk:((vw k).toList==n0.toList)=false:=hv.out k k1 (by omega) hK
    have pv:=fun W=>ni k W k1 (by omega)
    obtain⟨y,hy⟩: ∃y,vw k=y:=⟨_,rfl⟩
    rw[hy]at hvk pv
    replace H:pQ w (if 3<k+1 then (zf 3)else (zf 0)) wr:=by
     by_cases c:3<k
     ·rw[if_pos c]at H;rw[if_pos (by omega)];exact H
     ·rw[if_neg c]at H;rw[if_neg (by omega)];exact H
    clear hy hv
    obtain⟨xa,hxa⟩: ∃xa:Array Value,(if 3<k+1 then ((zf 3):Array Value)else (zf 0))=xa:=⟨_,rfl⟩
    rw[hxa]at H
    replace H:=H.drew
    have uc:=u0 _ H.all
    go_wp2
    go_region_held3 (fun W=>W.cell? ⟨b,off,none⟩=some (.string n0)) (exact uc) (first|(go_at_call 92;refine(pv _).mono ?_;rintro e w' ⟨rfl,rfl⟩))
    all_goals go_wp2
    all_goals (
     go_roundw
     case rel=>exact⟨k+1,by omega,by omega,by go_num,by rw[hxa];exact H⟩
     case measure=>first|(simp[intOf];done)|(simp[intOf];omega))
