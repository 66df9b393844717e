/- Proved: parts of the walk. -/
import Derived.Test.YtgbpekeoegfjpaaGreatDoorVP3x
import Derived.Test.YtgbpekeoegfjpaaGreatDoorVUC
set_option maxRecDepth 100000
set_option maxHeartbeats 4000000
namespace Go.Proofs
open Tryz RowKit
theorem yK (n:Nat)(w:World)(h:n<10):Calls prog 165 #[.int .i64 n] w fun e w'=>e=.returned (.string ⟨(Lib.decDigits n).toArray⟩)∧Below w.heap.size w w':=by
 have e:=Lib.decDigits_one h
 have H:=Lib.hid e;clear e
 have T9:=run_convert_bytes_arg (P:=prog) (w.alloc (.cells #[.int .u8 (48+(n:Int))] 5)) 152 5 underlying152 underlying5 w.heap.size 0 1 1 [48+(n:Int)] rfl (by
  intro i hi
  obtain rfl:i=0:=by omega
  rw[(ah (heap_alloc_new _ _)).1];rfl) 9 underlying9
 go_enter func165,ntmps165
 go_wp2
 go_ret
 refine⟨?_,by go_grown⟩
 rw[H.out]
 have e1:(48+(n:Int)).toNat=48+n:=by omega
 simp[strOfNums,e1]
theorem EC (n:Nat)(w:World)(h:n<1000000000000000000):Calls prog 165 #[.int .i64 n] w fun e w'=>e=.returned (.string ⟨(Lib.decDigits n).toArray⟩)∧Below w.heap.size w w':=by
 induction n using Nat.strongRecOn generalizing w with
 | _ n ih=>
  by_cases h10:n<10
  ·exact yK n w h10
  ·have e:Lib.decDigits n=Lib.decDigits (n/10)++Lib.decDigits (n%10):=by
    rw[Lib.decDigits_one (show n%10<10 by omega)]
    conv=>lhs;unfold Lib.decDigits
    rw[dif_neg h10]
   have H:=Lib.hid e;clear e
   have l1:(Lib.decDigits (n/10)).length<=20:=by rw[Lib.decDigits_length];exact Lib.nDigits_le20 _ (by omega)
   have l2:(Lib.decDigits (n%10)).length<=20:=by rw[Lib.decDigits_length];exact Lib.nDigits_le20 _ (by omega)
   have i1:=Lib.hid fun W=>ih (n/10) (by omega) W (by omega)
   have i2:=Lib.hid fun W=>yK (n%10) W (by omega)
   clear ih
   go_enter func165,ntmps165
   go_wp2_with fail
   refine(i1.out _).mono ?_
   rintro e w1 ⟨rfl,hx⟩
   have hb1:=bT (w:=w) hx
   have hsz1:=hb1.size
   clear hx
   go_wp2_with fail
   refine(i2.out _).mono ?_
   rintro e w2 ⟨rfl,hx⟩
   have hb2:=bT (w:=w) hx
   clear hx
   go_wp2
   go_ret
   exact⟨by rw[H.out];simp[dh],hb2⟩
def eIx (x:Int):List Value:=[.int .i64 x]
def eSx (x:ByteArray):List Value:=[.string x]
abbrev u7 := @Seg Int eIx 1
abbrev iZ := @Seg ByteArray eSx 1
theorem u7.gY {w:World}{B:Nat}{A:Option Addr}{l:List Int}(h:u7 w B A l){k:Nat}(hk:k<l.length): ∃b off,A=some ⟨b,off,none⟩∧b<B∧w.cell? ⟨b,off+k,none⟩=some (.int .i64 l[k]):=by
 obtain⟨b,off,hA,hb,hc⟩:=Seg.at_ h hk
 exact⟨b,off,hA,hb,by simpa [eIx]using hc 0 _ rfl⟩
theorem iZ.gY {w:World}{B:Nat}{A:Option Addr}{l:List ByteArray}(h:iZ w B A l){k:Nat}(hk:k<l.length): ∃b off,A=some ⟨b,off,none⟩∧b<B∧w.cell? ⟨b,off+k,none⟩=some (.string l[k]):=by
 obtain⟨b,off,hA,hb,hc⟩:=Seg.at_ h hk
 exact⟨b,off,hA,hb,by simpa [eSx]using hc 0 _ rfl⟩
theorem pG {out:List UInt8}{c:Int}{us:List Pl.Unit}{k:Nat}(hk:k<us.length):Pl.iU out c (us.drop k)=
  Pl.iU (if c/us[k].1=0 then out else (if out=[]then []else out++[32])++(Pl.spelt (c/us[k].1)).data.toList++[32]++(Pl.word (c/us[k].1) us[k]).data.toList) (c%us[k].1) (us.drop (k+1)):=by
 rw[List.drop_eq_getElem_cons hk];rfl
def gap (out:List UInt8):List UInt8:=if out=[]then []else out++[32]
theorem MQ {out:List UInt8}{c s:Int}{us:List Pl.Unit}{k:Nat}{one:ByteArray}(hk:k<us.length)(hs:us[k].1=s)(ho:us[k].2.1=one)(hq:c/s=1):
  Pl.iU out c (us.drop k)=Pl.iU (gap out++([49,32]++one.data.toList)) (c%s) (us.drop (k+1)):=by
 have e1:(Pl.spelt 1).data.toList=[49]:=by decide+kernel
 rw[pG hk,hs,hq,if_neg (by decide),e1]
 unfold Pl.word gap
 rw[if_pos rfl,ho]
 simp
theorem J8 {out:List UInt8}{c s q:Int}{us:List Pl.Unit}{k:Nat}{many:ByteArray}(hk:k<us.length)(hs:us[k].1=s)(ho:us[k].2.2=many)(hq:c/s=q)(h0:0<=q)(hq0:q≠0)(hq1:q≠1):
  Pl.iU out c (us.drop k)=Pl.iU (gap out++(Lib.decDigits q.toNat++([32]++many.data.toList))) (c%s) (us.drop (k+1)):=by
 have e1:(Pl.spelt q).data.toList=Lib.decDigits q.toNat:=by unfold Pl.spelt;simp[Pl.iI h0]
 rw[pG hk,hs,hq,if_neg hq0,e1]
 unfold Pl.word gap
 rw[if_neg hq1,ho]
 simp
theorem eO (s:ByteArray):s.data.toList.length=s.size:=by rw[Array.length_toList];rfl
theorem ED (n:Nat)(D:ByteArray)(w:World)(h:n<1000000000000000000)(hD:Hid ((⟨(Lib.decDigits n).toArray⟩:ByteArray)=D)):Calls prog 165 #[.int .i64 n] w fun e w'=>e=.returned (.string D)∧Below w.heap.size w w':=by
 have:=EC n w h
 rw[hD.out]at this
 exact this
theorem J9 (n:Int)(us:List Pl.Unit)(As Am Ao:Option Addr)(cs cm co:Nat)(w:World)(h0:0<=n)(h1:n<=1000000000000)(hlen:us.length<=40)(hpos: ∀u∈us,1<=u.1∧u.1<=1000000000000)(hsz: ∀u∈us,u.2.1.size<=100∧u.2.2.size<=100)
  (hs:u7 w w.heap.size As (us.map (·.1))) (hm:iZ w w.heap.size Am (us.map (·.2.2))) (ho:iZ w w.heap.size Ao (us.map (·.2.1))):
  Calls prog 163 #[.int .i64 n,.slice As us.length cs,.slice Am us.length cm,.slice Ao us.length co] w fun e w'=>e=.returned (.string ⟨(Pl.yE n us).toArray⟩)∧Below w.heap.size w w':=by
 go_enter func163,ntmps163
 go_wp2
 go_loopw [9,10,11] (fun o r i wr=> ∃(k:Nat) (out:List UInt8) (c:Int),k<=us.length∧i=.int .i64 k∧o=.string ⟨out.toArray⟩∧r=.int .i64 c∧0<=c∧c<=1000000000000∧out.length<=250*k∧Hid (Pl.iU out c (us.drop k)=Pl.iU [] n us)∧Below w.heap.size w wr) (fun _ _ i _=>us.length-(intOf i).toNat)
 case atStart=>exact⟨0,[],n,by omega,rfl,rfl,rfl,h0,h1,by simp,rfl,by go_grown⟩
 case round=>
  obtain⟨k,out,c,hk,rfl,rfl,rfl,c0,c1,hol,hg,hb⟩:=hrel
  have VW:=hb.size
  by_cases hlt:k<us.length
  ·obtain⟨bs,Xm,rfl,hbs,q0⟩:=u7.gY (hs.below hb) (k:=k) (by simpa using hlt)
   obtain⟨bm,Sk,rfl,Xn,q1⟩:=iZ.gY (hm.below hb) (k:=k) (by simpa using hlt)
   obtain⟨bo,Xo,rfl,Xp,q2⟩:=iZ.gY (ho.below hb) (k:=k) (by simpa using hlt)
   simp only[List.getElem_map]at q0 q1 q2
   obtain⟨u1,u2⟩:=hpos us[k] (List.getElem_mem hlt)
   obtain⟨z1,z2⟩:=hsz us[k] (List.getElem_mem hlt)
   have hstep:=Lib.hid (pG (out:=out) (c:=c) hlt)
   obtain⟨s,hse⟩: ∃s,us[k].1=s:=⟨_,rfl⟩
   obtain⟨one,hone⟩: ∃one,us[k].2.1=one:=⟨_,rfl⟩
   obtain⟨many,qK⟩: ∃many,us[k].2.2=many:=⟨_,rfl⟩
   rw[hse]at q0 u1 u2
   rw[hone]at q2 z1
   rw[qK]at q1 z2
   have HS:=Lib.hid hse;have HO:=Lib.hid hone;have HM:=Lib.hid qK
   clear hse hone qK
   have d0:0<=c/s:=Int.ediv_nonneg c0 (by omega)
   have d1:c/s<=c:=Int.ediv_le_self _ c0
   have m0:0<=c%s:=Int.emod_nonneg _ (by omega)
   have m1:c%s<s:=Int.emod_lt_of_pos _ (by omega)
   obtain⟨q,hq⟩: ∃q,c/s=q:=⟨_,rfl⟩
   have HQ:=Lib.hid hq
   rw[hq]at d0 d1
   by_cases hq0:q=0
   ·subst hq0
    go_wp2
    go_roundw
    case rel=>exact⟨k+1,out,c%s,by omega,by go_num,rfl,rfl,m0,by omega,by omega,by unfold Hid;rw[<-hg.out,hstep.out,HS.out,HQ.out,if_pos rfl],by go_grown⟩
    case measure=>first|(simp[intOf];done)|(simp[intOf];omega)
   ·have Zd:(q==0)=false:=by simpa using hq0
    clear hstep
    by_cases hq1:q=1
    ·subst hq1
     have hst:=Lib.hid (MQ (out:=out) hlt HS.out HO.out HQ.out)
     by_cases hout:out=[]
     ·subst hout
      go_wp2
      go_roundw
      case rel=>exact⟨k+1,gap []++([49,32]++one.data.toList),c%s,by omega,by go_num,congrArg Value.string (by apply ByteArray.ext;simp[gap]),rfl,m0,by omega,by simp[gap];omega,by unfold Hid;rw[<-hg.out,hst.out],by go_grown⟩
      case measure=>first|(simp[intOf];done)|(simp[intOf];omega)
     ·have hne:(!out.isEmpty)=true:=by cases out<;>simp_all
      go_wp2
      go_roundw
      case rel=>exact⟨k+1,gap out++([49,32]++one.data.toList),c%s,by omega,by go_num,congrArg Value.string (by apply ByteArray.ext;simp[gap,hout]),rfl,m0,by omega,by simp[gap,hout];omega,by unfold Hid;rw[<-hg.out,hst.out],by go_grown⟩
      case measure=>first|(simp[intOf];done)|(simp[intOf];omega)
    ·have Ze:(q==1)=false:=by simpa using hq1
     have hst:=Lib.hid (J8 (out:=out) hlt HS.out HM.out HQ.out d0 hq0 hq1)
     obtain⟨D,hD⟩: ∃D:ByteArray,(⟨(Lib.decDigits q.toNat).toArray⟩:ByteArray)=D:=⟨_,rfl⟩
     have hDs:D.size<=20:=by rw[<-hD];show(Lib.decDigits q.toNat).toArray.size<=20;rw[List.size_toArray,Lib.decDigits_length];exact Lib.nDigits_le20 _ (by omega)
     have hDl:Lib.decDigits q.toNat=D.data.toList:=by rw[<-hD]
     obtain⟨qn,Xq⟩: ∃qn:Nat,q=qn:=⟨q.toNat,by omega⟩
     have HD:Hid ((⟨(Lib.decDigits qn).toArray⟩:ByteArray)=D):=by unfold Hid;rw[<-hD,Xq];rfl
     have Xr:=Lib.hid hDl
     clear hD hDl
     subst Xq
     have T_:bm<wr.heap.size:=by omega
     by_cases hout:out=[]
     ·subst hout
      have a1: ∀W,(Op.stringOp .add ⟨#[]⟩ D).run prog W=.ok (.string D) W:=fun W=>by rw[run_string_add W ⟨#[]⟩ D (by decide) (by omega),show(⟨#[]⟩:ByteArray)++D=D by apply ByteArray.ext;simp]
      have a2: ∀W,(Op.stringOp .add D ⟨#[32]⟩).run prog W=.ok (.string (D++⟨#[32]⟩)) W:=fun W=>run_string_add W D ⟨#[32]⟩ (by omega) (by decide)
      have a3: ∀W,(Op.stringOp .add (D++⟨#[32]⟩) many).run prog W=.ok (.string (D++⟨#[32]⟩++many)) W:=fun W=>run_string_add W _ many (by rw[ByteArray.size_append];show((D.size+1:Nat):Int)<=_;omega) (by omega)
      go_wp2
      go_region_held3 (fun W=>W.cell? ⟨bm,Sk+k,none⟩=some (.string many)) (assumption)
       (first|(go_at_call 165;refine(ED qn D _ (by omega) HD).mono ?_;rintro e w7 ⟨rfl,hx⟩;have oK:=bT (w:=w) hx;have jJ:=oK.size;have p1:=(hx.cell (p:=⟨bm,Sk+k,none⟩) T_).trans q1;clear hx))
      all_goals go_wp2
      go_roundw
      case rel=>exact⟨k+1,gap []++(D.data.toList++([32]++many.data.toList)),c%s,by omega,by go_num,congrArg Value.string (by apply ByteArray.ext;simp[gap]),rfl,m0,by omega,by simp[gap];omega,by unfold Hid;rw[<-hg.out,hst.out,Xr.out],by go_grown⟩
      case measure=>first|(simp[intOf];done)|(simp[intOf];omega)
     ·have hne:(!out.isEmpty)=true:=by cases out<;>simp_all
      go_wp2
      obtain⟨X,hX⟩: ∃X,((⟨out.toArray⟩:ByteArray)++⟨#[32]⟩)=X:=⟨_,rfl⟩
      have QL:X.size<=10100:=by rw[<-hX,ByteArray.size_append];show out.toArray.size+1<=10100;rw[List.size_toArray];omega
      rw[hX]
      have HX:=Lib.hid hX;clear hX
      have a1: ∀W,(Op.stringOp .add X D).run prog W=.ok (.string (X++D)) W:=fun W=>run_string_add W X D (by omega) (by omega)
      have a2: ∀W,(Op.stringOp .add (X++D) ⟨#[32]⟩).run prog W=.ok (.string (X++D++⟨#[32]⟩)) W:=fun W=>run_string_add W _ ⟨#[32]⟩ (by rw[ByteArray.size_append];omega) (by decide)
      have a3: ∀W,(Op.stringOp .add (X++D++⟨#[32]⟩) many).run prog W=.ok (.string (X++D++⟨#[32]⟩++many)) W:=fun W=>run_string_add W _ many (by rw[ByteArray.size_append,ByteArray.size_append];show((X.size+D.size+1:Nat):Int)<=_;omega) (by omega)
      go_region_held3 (fun W=>W.cell? ⟨bm,Sk+k,none⟩=some (.string many)) (assumption)
       (first|(go_at_call 165;refine(ED qn D _ (by omega) HD).mono ?_;rintro e w7 ⟨rfl,hx⟩;have oK:=bT (w:=w) hx;have jJ:=oK.size;have p1:=(hx.cell (p:=⟨bm,Sk+k,none⟩) T_).trans q1;clear hx))
      all_goals go_wp2
      go_roundw
      case rel=>exact⟨k+1,gap out++(D.data.toList++([32]++many.data.toList)),c%s,by omega,by go_num,congrArg Value.string (by apply ByteArray.ext;rw[<-HX.out];simp[gap,hout]),rfl,m0,by omega,by simp[gap,hout];omega,by unfold Hid;rw[<-hg.out,hst.out,Xr.out],by go_grown⟩
      case measure=>first|(simp[intOf];done)|(simp[intOf];omega)
  ·obtain rfl:k=us.length:=by omega
   have hfin:Pl.iU [] n us=out:=by rw[<-hg.out,List.drop_length];rfl
   have Ua:=Lib.hid hfin;clear hfin hg
   by_cases hout:out=[]
   ·subst hout
    go_wp2
    go_ret
    exact⟨by unfold Pl.yE;rw[Ua.out];rfl,by go_grown⟩
   ·have hne:out.isEmpty=false:=by cases out<;>simp_all
    go_wp2
    go_ret
    exact⟨by unfold Pl.yE;rw[Ua.out,if_neg hout];try rfl,by go_grown⟩
theorem MR {α:Type}{enc:α->List Value}(h1: ∀x,(enc x).length=1){l:List α}{w:World}{b B:Nat}{t:TypeId}(hb:b<B)(h:w.heap[b]?=some (.cells (l.flatMap enc).toArray t (0,0))):Seg enc 1 w B (some ⟨b,0,none⟩) l:=by
 refine .inr ⟨b,0,rfl,hb,fun k x hx j v hv=> ?_⟩
 rw[(ah h).1,Nat.zero_add,<-Array.getElem?_toList]
 exact A9 enc 1 h1 hx hv
theorem three (w:World)(o1 o2 o3:Obj):(((w.alloc o1).alloc o2).alloc o3).heap[w.heap.size]?=some o1∧(((w.alloc o1).alloc o2).alloc o3).heap[w.heap.size+1]?=some o2∧(((w.alloc o1).alloc o2).alloc o3).heap[w.heap.size+2]?=some o3:=by
 refine⟨(Below.heap_alloc _ _ _ (by simp;omega)).trans ((Below.heap_alloc _ _ _ (by simp)).trans (World.alloc_heap_new _ _)),(Below.heap_alloc _ _ _ (by simp)).trans ?_,?_⟩
 ·have:=World.alloc_heap_new (w.alloc o1) o2;rwa[World.size_alloc]at this
 ·have:=World.alloc_heap_new ((w.alloc o1).alloc o2) o3;rwa[World.size_alloc,World.size_alloc]at this
def og (us:List Pl.Unit)(w:World):World:=
 ((w.alloc (.cells ((us.map (·.1)).flatMap eIx).toArray 3)).alloc (.cells ((us.map (·.2.2)).flatMap eSx).toArray 9)).alloc (.cells ((us.map (·.2.1)).flatMap eSx).toArray 9)
theorem qZ (us:List Pl.Unit)(w:World):(og us w).heap.size=w.heap.size+3:=by unfold og;simp
theorem u_ (us:List Pl.Unit)(w:World):Below w.heap.size w (og us w):=by
 unfold og;exact(((Below.refl _ w).alloc (Nat.le_refl _) _).alloc (by simp) _).alloc (by simp;omega) _
theorem yL (us:List Pl.Unit)(w:World):u7 (og us w) (og us w).heap.size (some ⟨w.heap.size,0,none⟩) (us.map (·.1))∧iZ (og us w) (og us w).heap.size (some ⟨w.heap.size+1,0,none⟩) (us.map (·.2.2))∧iZ (og us w) (og us w).heap.size (some ⟨w.heap.size+2,0,none⟩) (us.map (·.2.1)):=by
 have hz:=qZ us w
 obtain⟨k1,k2,k3⟩:=three w (.cells ((us.map (·.1)).flatMap eIx).toArray 3) (.cells ((us.map (·.2.2)).flatMap eSx).toArray 9) (.cells ((us.map (·.2.1)).flatMap eSx).toArray 9)
 exact⟨MR (fun _=>rfl) (by omega) k1,MR (fun _=>rfl) (by omega) k2,MR (fun _=>rfl) (by omega) k3⟩
theorem Ub (n:Int)(us:List Pl.Unit)(w:World)(h0:0<=n)(h1:n<=1000000000000)(hlen:us.length<=40)(hpos: ∀u∈us,1<=u.1∧u.1<=1000000000000)(hsz: ∀u∈us,u.2.1.size<=100∧u.2.2.size<=100):
  Calls prog 163 #[.int .i64 n,.slice (some ⟨w.heap.size,0,none⟩) us.length us.length,.slice (some ⟨w.heap.size+1,0,none⟩) us.length us.length,.slice (some ⟨w.heap.size+2,0,none⟩) us.length us.length] (og us w) fun e w'=>e=.returned (.string ⟨(Pl.yE n us).toArray⟩)∧Below w.heap.size w w':=by
 obtain⟨k1,k2,k3⟩:=yL us w
 refine(J9 n us _ _ _ _ _ _ _ h0 h1 hlen hpos hsz k1 k2 k3).mono ?_
 rintro e w' ⟨he,hb⟩
 exact⟨he,(u_ us w).trans (hb.mono (by rw[qZ];omega))⟩
theorem yM (n:Int)(w:World):Calls prog 93 #[.int .i64 n] w fun e w'=>e=.returned (.string (Pl.aY n))∧Below w.heap.size w w':=by
 by_cases hn:0<=n∧n<=1000000
 ·obtain⟨h0,h1⟩:=hn
  have hv:(⟨(Pl.yE n Pl.cO).toArray⟩:ByteArray)=Pl.aY n:=by
   rw[Pl.lI h0 h1];exact Pl.ML h0 (fun u hu=>(Pl.jS u hu).1) (by rfl)
  have HV:=Lib.hid hv;clear hv
  have hm:=Lib.hid (Ub n Pl.cO w h0 (by omega) (by decide) (by decide) (by decide))
  go_enter func93,ntmps93
  go_wp2_with fail
  refine(Calls.mono (show Calls _ _ _ _ _ from hm.out) ?_)
  rintro e w' ⟨rfl,hb⟩
  rw[HV.out]
  go_wp2
  go_ret
  exact⟨rfl,hb⟩
 ·have hv:Pl.aY n=⟨#[]⟩:=by unfold Pl.aY;rw[if_neg hn]
  have HV:=Lib.hid hv;clear hv
  have hn':n<0∨1000000<n:=by omega
  clear hn
  go_enter func93,ntmps93
  go_wp2
  all_goals first
   |(exfalso;omega)
   |(go_ret;exact⟨by rw[HV.out];try rfl,by go_grown⟩)
theorem PG (m:Int)(w:World)(h0:0<=m)(h1:m<1000):Calls prog 165 #[.int .i64 m] w fun e w'=>e=.returned (.string ⟨(Lib.decDigits m.toNat).toArray⟩)∧Below w.heap.size w w':=by
 obtain⟨n,rfl⟩:=Int.eq_ofNat_of_zero_le h0
 exact EC n w (by omega)
theorem MS (d:Int)(w:World):Calls prog 94 #[.int .i64 d] w fun e w'=>e=.returned (.string ⟨(Pl.gu d).toArray⟩)∧Below w.heap.size w w':=by
 have hm:0<=d%360∧d%360<360:=by omega
 generalize hD:d%360=m at hm
 obtain⟨m0,m1⟩:=hm
 have H:=Lib.hid hD;clear hD
 by_cases h0:m=0
 ·subst h0
  go_enter func94,ntmps94
  go_wp2_with (go_at_call 164;refine(iE _ _).mono ?_;rintro e w' ⟨rfl,rfl⟩;rw[H.out])
  go_ret
  exact⟨by unfold Pl.gu;rw[H.out];rfl,by go_grown⟩
 by_cases QN:m=90
 ·subst QN
  go_enter func94,ntmps94
  go_wp2_with (go_at_call 164;refine(iE _ _).mono ?_;rintro e w' ⟨rfl,rfl⟩;rw[H.out])
  go_ret
  exact⟨by unfold Pl.gu;rw[H.out];rfl,by go_grown⟩
 by_cases QO:m=180
 ·subst QO
  go_enter func94,ntmps94
  go_wp2_with (go_at_call 164;refine(iE _ _).mono ?_;rintro e w' ⟨rfl,rfl⟩;rw[H.out])
  go_ret
  exact⟨by unfold Pl.gu;rw[H.out];rfl,by go_grown⟩
 by_cases QS:m=270
 ·subst QS
  go_enter func94,ntmps94
  go_wp2_with (go_at_call 164;refine(iE _ _).mono ?_;rintro e w' ⟨rfl,rfl⟩;rw[H.out])
  go_ret
  exact⟨by unfold Pl.gu;rw[H.out];rfl,by go_grown⟩
 by_cases q0:m<90
 ·have hl:=Pl.lU (n:=(m).toNat) (by omega)
  go_enter func94,ntmps94
  go_wp2_with (first|(go_at_call 164;refine(iE _ _).mono ?_;rintro e w' ⟨rfl,rfl⟩;rw[H.out])|(go_at_call 165;refine(PG _ _ (by omega) (by omega)).mono ?_;rintro e w1 ⟨rfl,hx1⟩;have hb1:=bT (w:=w) hx1;clear hx1;have hsz1:w.heap.size<=w1.heap.size:=hb1.size))
  go_ret
  exact⟨by unfold Pl.gu Pl.nX;rw[H.out];simp (disch:=omega) only[if_pos,if_neg];simp[Pl.wB,Pl.east,dh],by go_grown⟩
 by_cases q1:m<180
 ·have hl:=Pl.lU (n:=(180-m).toNat) (by omega)
  go_enter func94,ntmps94
  go_wp2_with (first|(go_at_call 164;refine(iE _ _).mono ?_;rintro e w' ⟨rfl,rfl⟩;rw[H.out])|(go_at_call 165;refine(PG _ _ (by omega) (by omega)).mono ?_;rintro e w1 ⟨rfl,hx1⟩;have hb1:=bT (w:=w) hx1;clear hx1;have hsz1:w.heap.size<=w1.heap.size:=hb1.size))
  go_ret
  exact⟨by unfold Pl.gu Pl.nX;rw[H.out];simp (disch:=omega) only[if_pos,if_neg];simp[Pl.east,Pl.dH,dh],by go_grown⟩
 by_cases q2:m<270
 ·have hl:=Pl.lU (n:=(m-180).toNat) (by omega)
  go_enter func94,ntmps94
  go_wp2_with (first|(go_at_call 164;refine(iE _ _).mono ?_;rintro e w' ⟨rfl,rfl⟩;rw[H.out])|(go_at_call 165;refine(PG _ _ (by omega) (by omega)).mono ?_;rintro e w1 ⟨rfl,hx1⟩;have hb1:=bT (w:=w) hx1;clear hx1;have hsz1:w.heap.size<=w1.heap.size:=hb1.size))
  go_ret
  exact⟨by unfold Pl.gu Pl.nX;rw[H.out];simp (disch:=omega) only[if_pos,if_neg];simp[Pl.dH,Pl.west,dh],by go_grown⟩
 ·have hl:=Pl.lU (n:=(360-m).toNat) (by omega)
  go_enter func94,ntmps94
  go_wp2_with (first|(go_at_call 164;refine(iE _ _).mono ?_;rintro e w' ⟨rfl,rfl⟩;rw[H.out])|(go_at_call 165;refine(PG _ _ (by omega) (by omega)).mono ?_;rintro e w1 ⟨rfl,hx1⟩;have hb1:=bT (w:=w) hx1;clear hx1;have hsz1:w.heap.size<=w1.heap.size:=hb1.size))
  go_ret
  exact⟨by unfold Pl.gu Pl.nX;rw[H.out];simp (disch:=omega) only[if_neg];simp[Pl.wB,Pl.west,dh],by go_grown⟩
