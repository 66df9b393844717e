/- Proved: parts of the walk. -/
import Derived.Test.YtgbpekeoegfjpaaGreatDoorVZ20
set_option maxRecDepth 100000
set_option maxHeartbeats 4000000
namespace Go.Proofs
open Tryz RowKit Shelf
variable (A1 A2 A3 A4 : Option Addr) (c1 c2 c3 c4 : Nat) (f : Pl.aL)
attribute [local go_sem] Oper.semAt_some
attribute [-go_sem] storeVar
theorem JJ :(prog.info? 38).map (·.size)=some 1:=by kernel_rfl
theorem Rw (w:World)(g:Nat)(t ty:TypeId)(old v:Value)(hg:w.heap[g]?=some (.cells #[old] t (0,0)))(hi:(prog.info? ty).map (·.size)=some 1)(h1:v.oneCell'=true):
  ∃w',(storeVar ty ⟨g,0,none⟩ v).run prog w=.ok () w'∧w'.heap[g]?=some (.cells #[v] t (0,0))∧w.grownBy w' (some g):=
 ⟨_,run_storeVar_one w g t ty old v hg hi h1,setRow_heap w g #[old] #[v] t (0,0) hg,zR w g #[v]⟩
def YA (A1 A2 A3 A4:Option Addr)(c1 c2 c3 c4:Nat)(f:Pl.aL)(w:World)(N:Nat)(src:ByteArray)(x:LX)(a':Act)(_W:World):Prop:=
 a'= {tmps:= #[.agg (fq A1 A2 A3 A4 c1 c2 c3 c4 f),.string src,.pointer (some ⟨w.heap.size,0,none⟩),undef,.pointer (some ⟨w.heap.size+1,0,none⟩),.pointer (some ⟨w.heap.size+2,0,none⟩),.int .i64 0,.pointer (some ⟨N,0,none⟩),.int .i64 (x.1:Int),.slice (some ⟨x.2.1,0,none⟩) x.2.2.2.length x.2.2.1,undef,.agg (fq A1 A2 A3 A4 c1 c2 c3 c4 f),.int .i64 0,.int .i64 0,.bool false,undef,undef,.string src,.int .i64 src.size,.bool (decide (20000<(src.size:Int))),undef,.string src,.func (.func 144) #[] #[.pointer (some ⟨N+1,0,none⟩)],.int .i64 (x.1:Int),.slice (some ⟨x.2.1,0,none⟩) x.2.2.2.length x.2.2.1,undef,undef,undef,undef,undef,undef,undef,undef,undef,undef],defers:=[]}
end Go.Proofs
namespace Go.Proofs
open Tryz
variable (A1 A2 A3 A4 : Option Addr) (c1 c2 c3 c4 : Nat) (f : Pl.aL)
namespace Pl
variable (A1 A2 A3 A4 : Option Addr) (c1 c2 c3 c4 : Nat) (f : Pl.aL)
def atR (f:aL)(s o:Int)(y:List Int):Int×Int:=
 if aR f≠0 then (0,aR f)
 else if (bQ s 0 ((f.st.length:Int)-1)&&(bQ o 0 100000&&gW f.st.length f.li.length y))=false then (0,1)
 else match idx (hasB f.st.length y s o) f.pa with|some i=>((i:Int),0)|none=>(0,5)
theorem BJ {f:aL}{s o:Int}{y:List Int}(h:aR f=0)(hb:(bQ s 0 ((f.st.length:Int)-1)&&(bQ o 0 100000&&gW f.st.length f.li.length y))=false):atR f s o y=(0,1):=by
 unfold atR;rw[if_neg (fun h'=>h' h),if_pos hb]
theorem L_ {f:aL}{s o:Int}{y:List Int}{i:Nat}(h:aR f=0)(hb:(bQ s 0 ((f.st.length:Int)-1)&&(bQ o 0 100000&&gW f.st.length f.li.length y))=true)(hi:idx (hasB f.st.length y s o) f.pa=some i):atR f s o y=((i:Int),0):=by
 unfold atR;rw[if_neg (fun h'=>h' h),if_neg (by rw[hb];decide),hi]
theorem Ma {f:aL}{s o:Int}{y:List Int}(h:aR f=0)(hb:(bQ s 0 ((f.st.length:Int)-1)&&(bQ o 0 100000&&gW f.st.length f.li.length y))=true)(hi:idx (hasB f.st.length y s o) f.pa=none):atR f s o y=(0,5):=by
 unfold atR;rw[if_neg (fun h'=>h' h),if_neg (by rw[hb];decide),hi]
structure Tt (S L:Nat)(p:oz):Prop where
 s0:0<=p.dH
 s1:p.dH<=(L:Int)-2
 f0:0<=p.fr
 f1:p.fr<=(S:Int)-1
 t0:0<=p.till
 t1:p.till<=(S:Int)-1
theorem xY {S L:Nat}{p:oz}(h:gG S L p=true):Tt S L p:=by
 unfold gG at h
 simp at h
 exact⟨h.1.1.1,h.1.1.2,h.1.2.1,h.1.2.2,h.2.1,h.2.2⟩
theorem Gl {S L:Nat}{y:List Int}(h:gW S L y=true):y.length=1+L*S:=by
 unfold gW at h
 simp only[Bool.and_eq_true,decide_eq_true_eq]at h
 exact h.1
theorem Mc {S:Nat}{y:List Int}{s sn P0 P1:Nat}{o a b:Int}{p:oz}(hp:p.dH=(sn:Int))(h0:eP S sn s=P0)(h1:eP S (sn+1) s=P1)(ha:zG y P0=a)(hb:zG y P1=b):
  hasB S y s o p=(decide (p.fr<=(s:Int))&&(decide ((s:Int)<p.till)&&(decide (a<=o)&&decide (o<b)))):=by
 unfold hasB
 rw[hp,Int.toNat_natCast,Int.toNat_natCast,h0,h1,ha,hb]
end Pl
end Go.Proofs
namespace Go.Proofs
open Tryz
namespace Pl
def Pf :ByteArray:=⟨#[115,116,97,116,105,111,110,32,97,115,104,32,48,10,115,116,97,116,105,111,110,32,111,97,107,32,56,54,54,10,108,105,109,105,116,32,119,97,108,108,10,108,105,109,105,116,32,104,101,100,103,101,10,112,97,114,99,101,108,32,104,111,109,101,32,119,97,108,108,32,97,115,104,32,111,97,107,10,118,97,114,105,97,116,105,111,110,32,49,55,48,48,32,49,48,10]⟩
def Iz :ByteArray:=⟨#[99,111,117,114,115,101,32,119,97,108,108,32,97,115,104,32,111,97,107,32,49,48,32,99,104,97,105,110,115,32,98,121,32,110,111,114,116,104,32,53,48,32,101,97,115,116,32,103,105,118,101,32,50,32,119,101,97,114,32,48,32,115,108,97,99,107,32,49,48,48]⟩
def f0 :aL:=⟨[(⟨#[97,115,104]⟩,0),(⟨#[111,97,107]⟩,866)],[⟨#[119,97,108,108]⟩,⟨#[104,101,100,103,101]⟩],[⟨⟨#[104,111,109,101]⟩,0,0,1⟩],[(1700,10)]⟩
theorem Rx :gU Pf=(f0,0,0):=by kernel_rfl
def IB :ByteArray:=⟨#[115,116,111,110,101,32,119,97,108,108,32,111,97,107,32,50,53,48,32,50]⟩
def Ry :ByteArray:=⟨#[115,116,111,110,101,32,119,97,108,108,32,97,115,104,32,49,32,48]⟩
def c1 :aZ:=⟨3,0,0,0,1,0,0,⟨50,2,1000,1750,0,100⟩⟩
def c2 :aZ:=⟨1,0,0,1,0,250,2,bF.zero⟩
theorem oZ :aR f0=0:=by kernel_rfl
theorem Tv :(form (aW Iz)).bind (fun x=>looked f0 x 1750)=some c1:=by kernel_rfl
theorem Tw :(form (aW IB)).bind (fun x=>looked f0 x 1750)=some c2:=by kernel_rfl
theorem Qg :vars f0.va=0:=by kernel_rfl
theorem Rz :fP f0 c1=0:=by rw[<-tY Qg];kernel_rfl
theorem Tx :fP f0 c2=0:=by rw[<-tY Qg];kernel_rfl
theorem IC {s:ByteArray}{c:aZ}(h1:(form (aW s)).bind (fun x=>looked f0 x 1750)=some c)(h2:fP f0 c=0)(h3: ¬(10:UInt8)∈s.data.toList):bJ f0 s 1750=.ok c:=by
 unfold bJ
 rw[if_neg (fun h=>h oZ),if_neg (by omega),if_neg h3]
 cases hf:form (aW s)with
 |none=>rw[hf]at h1;cases h1
 |some x=>
  rw[hf]at h1
  show jF f0 x 1750=.ok c
  have h1:looked f0 x 1750=some c:=h1
  unfold jF
  rw[h1]
  show(if fP f0 c=0 then Except.ok c else .error (fP f0 c))=.ok c
  rw[if_pos h2]
theorem Tz :bJ f0 Iz 1750=.ok c1:=IC Tv Rz (by decide+kernel)
theorem TA :bJ f0 IB 1750=.ok c2:=IC Tw Tx (by decide+kernel)
theorem Pg :kL f0 c1 7=[⟨1,2,519,7⟩,⟨2,1,-480,7⟩]:=by kernel_rfl
theorem Ph :kL f0 c2 7=[⟨0,2,252,7⟩,⟨2,0,-248,7⟩]:=by kernel_rfl
theorem BK :(nature f0.st.length f0.li.length).length=10∧(nature f0.st.length f0.li.length)[9]?=some ⟨4,2,0,0⟩:=by constructor<;>kernel_rfl
theorem Vz :atR f0 0 120 [0,100,100,150,150]=(0,0):=by kernel_rfl
theorem TB :c1.back=⟨3,0,0,1,0,0,0,⟨230,2,1000,1750,0,100⟩⟩:=by kernel_rfl
end Pl
open RowKit
variable (A1 A2 A3 A4 : Option Addr) (c1 c2 c3 c4 : Nat) (f : Pl.aL)
theorem TD (s o:Int)(A:Option Addr)(c:Nat)(y:List Int)(w:World)(hf:bB w w.heap.size A1 A2 A3 A4 f)(hm:Small f)(hc:dY c1 c2 c3 c4 f)(hE:Pl.aR f=0)(hy:Ints w w.heap.size A y)(hym:y.length<=100000):
  Calls prog 54 #[.agg (fq A1 A2 A3 A4 c1 c2 c3 c4 f),.int .i64 s,.int .i64 o,.slice A y.length c] w fun e w'=>e=.returned (.tuple #[.int .i64 (Pl.atR f s o y).1,.int .i64 (Pl.atR f s o y).2])∧Below w.heap.size w w':=by
 have hok:=Pl.iV hE
 have hS:=hok.I9
 have hL1:=hok.Wx
 have hL:=hok.KD
 have hpk:=Lib.hid hok.par
 have HE:=Lib.hid hE
 clear hE hok
 have kb:=heap_alloc_new w (.cells (fq A1 A2 A3 A4 c1 c2 c3 c4 f) 28)
 cases b1:Pl.bQ s 0 ((f.st.length:Int)-1)with
 | false=>
  have HQ:Hid (Pl.atR f s o y=(0,1)):=Lib.hid (Pl.BJ HE.out (by rw[b1];rfl))
  go_enter func54,ntmps54
  go_wp2_with (first
   |(go_at_call 22;refine(bX A1 A2 A3 A4 c1 c2 c3 c4 f 0 _ HE (hf.up (by go_grown)) hm hc).mono ?_;rintro e w1 ⟨rfl,hx⟩;have kb:=(hx.block (w.heap.size) (by first|exact(lO kb)|omega|(simp;done)|(simp;omega))).trans (by first|exact kb|exact(Below.heap_alloc _ _ _ (lO kb)).trans kb);obtain⟨aQ,aS⟩:=ah kb;have aC:=(lO kb);have hall:=bT (w:=w) hx;have hsz:w.heap.size<=w1.heap.size:=hall.size;clear hx)
   |(go_at_call 84;refine(dP _ _ _ _).mono ?_;rintro e w' ⟨rfl,rfl⟩))
  go_ret2
  exact⟨by rw[HQ.out];try rfl,by go_grown⟩
 |true=>
 cases b2:Pl.bQ o 0 100000 with
 | false=>
  have HQ:Hid (Pl.atR f s o y=(0,1)):=Lib.hid (Pl.BJ HE.out (by rw[b1,b2];rfl))
  go_enter func54,ntmps54
  go_wp2_with (first
   |(go_at_call 22;refine(bX A1 A2 A3 A4 c1 c2 c3 c4 f 0 _ HE (hf.up (by go_grown)) hm hc).mono ?_;rintro e w1 ⟨rfl,hx⟩;have kb:=(hx.block (w.heap.size) (by first|exact(lO kb)|omega|(simp;done)|(simp;omega))).trans (by first|exact kb|exact(Below.heap_alloc _ _ _ (lO kb)).trans kb);obtain⟨aQ,aS⟩:=ah kb;have aC:=(lO kb);have hall:=bT (w:=w) hx;have hsz:w.heap.size<=w1.heap.size:=hall.size;clear hx)
   |(go_at_call 84;refine(dP _ _ _ _).mono ?_;rintro e w' ⟨rfl,rfl⟩))
  go_ret2
  exact⟨by rw[HQ.out];try rfl,by go_grown⟩
 |true=>
 have hdr:=fun W (hW:Below w.heap.size w W)=>NU A1 A2 A3 A4 c1 c2 c3 c4 f A c y W hS hL1 hL (hy.up hW) hym
 cases b3:Pl.gW f.st.length f.li.length y with
 | false=>
  have HQ:Hid (Pl.atR f s o y=(0,1)):=Lib.hid (Pl.BJ HE.out (by rw[b1,b2,b3];rfl))
  rw[b3]at hdr
  go_enter func54,ntmps54
  go_wp2_with (first
   |(go_at_call 22;refine(bX A1 A2 A3 A4 c1 c2 c3 c4 f 0 _ HE (hf.up (by go_grown)) hm hc).mono ?_;rintro e w1 ⟨rfl,hx⟩;have kb:=(hx.block (w.heap.size) (by first|exact(lO kb)|omega|(simp;done)|(simp;omega))).trans (by first|exact kb|exact(Below.heap_alloc _ _ _ (lO kb)).trans kb);obtain⟨aQ,aS⟩:=ah kb;have aC:=(lO kb);have hall:=bT (w:=w) hx;have hsz:w.heap.size<=w1.heap.size:=hall.size;clear hx)
   |(go_at_call 84;refine(dP _ _ _ _).mono ?_;rintro e w' ⟨rfl,rfl⟩)
   |(go_at_call 105;refine(hdr _ (by go_grown)).mono ?_;rintro e w2 ⟨rfl,hx2⟩;have hb2:=bT (w:=w) hx2;clear hx2;have hsz2:w.heap.size<=w2.heap.size:=hb2.size))
  go_ret2
  exact⟨by rw[HQ.out];try rfl,by go_grown⟩
 |true=>
 rw[b3]at hdr
 have hlen:=Lib.hid (Pl.Gl b3)
 have HQ:=Lib.hid (show(Pl.bQ s 0 ((f.st.length:Int)-1)&&(Pl.bQ o 0 100000&&Pl.gW f.st.length f.li.length y))=true by rw[b1,b2,b3];rfl)
 have hs:0<=s∧s<=(f.st.length:Int)-1:=by simpa [Pl.bQ]using b1
 obtain⟨hs0,hs1⟩:=hs
 obtain⟨s,rfl⟩:=Int.eq_ofNat_of_zero_le hs0
 clear b3
 go_enter func54,ntmps54
 go_wp2_with (first
  |(go_at_call 22;refine(bX A1 A2 A3 A4 c1 c2 c3 c4 f 0 _ HE (hf.up (by go_grown)) hm hc).mono ?_;rintro e w1 ⟨rfl,hx⟩;have kb:=(hx.block (w.heap.size) (by first|exact(lO kb)|omega|(simp;done)|(simp;omega))).trans (by first|exact kb|exact(Below.heap_alloc _ _ _ (lO kb)).trans kb);obtain⟨aQ,aS⟩:=ah kb;have aC:=(lO kb);have hall:=bT (w:=w) hx;have hsz:w.heap.size<=w1.heap.size:=hall.size;clear hx)
  |(go_at_call 84;refine(dP _ _ _ _).mono ?_;rintro e w' ⟨rfl,rfl⟩)
  |(go_at_call 105;refine(hdr _ (by go_grown)).mono ?_;rintro e w2 ⟨rfl,hx⟩;have kb:=(hx.block (w.heap.size) (by first|exact(lO kb)|omega|(simp;done)|(simp;omega))).trans (by first|exact kb|exact(Below.heap_alloc _ _ _ (lO kb)).trans kb);obtain⟨aQ,aS⟩:=ah kb;have aC:=(lO kb);have hall:=bT (w:=w) hx;have hsz:w.heap.size<=w2.heap.size:=hall.size;clear hx))
 clear b1 b2 hdr
 go_loopw [39] (fun i wr=> ∃(k:Nat),k<=f.pa.length∧i=.int .i64 k∧Hid (∀j (h:j<f.pa.length),j<k->Pl.hasB f.st.length y s o f.pa[j]=false)∧wr.heap[w.heap.size]?=some (.cells (fq A1 A2 A3 A4 c1 c2 c3 c4 f) 28 (0,0))∧Below w.heap.size w wr) (fun i _=>f.pa.length-(intOf i).toNat)
 case atStart=>exact⟨0,by omega,rfl,Lib.hid fun j _ h=>by omega,kb,hall⟩
 case round=>
  obtain⟨k,hk,rfl,hg,kb,hall⟩:=hrel
  obtain⟨aQ,aS⟩:=ah kb
  have aC:=(lO kb)
  have hsz:=hall.size
  by_cases hlt:k<f.pa.length
  ·have po:=Pl.xY (hpk.out _ (List.getElem_mem hlt))
   obtain⟨sn,hsn⟩:=Int.eq_ofNat_of_zero_le po.s0
   have YB:=po.s1
   have hpm:=hm.pa
   rw[hsn]at YB
   have VA:sn+1<f.li.length:=by omega
   have Xd:s<f.st.length:=by omega
   have hm0:=Pl.rF (l:=sn) (L:=f.li.length) (S:=f.st.length) (by omega) Xd
   have hm1:=Pl.rF (l:=sn+1) (L:=f.li.length) (S:=f.st.length) VA Xd
   rw[<-hlen.out]at hm0 hm1
   obtain⟨P0,UE⟩: ∃P,Pl.eP f.st.length sn s=P:=⟨_,rfl⟩
   obtain⟨P1,hP1⟩: ∃P,Pl.eP f.st.length (sn+1) s=P:=⟨_,rfl⟩
   have e0:1+(sn:Int)*(f.st.length:Int)+(s:Int)=(P0:Int):=by rw[<-UE];unfold Pl.eP;simp
   have e1:1+((sn:Int)+1)*(f.st.length:Int)+(s:Int)=(P1:Int):=by rw[<-hP1];unfold Pl.eP;simp
   rw[UE]at hm0
   rw[hP1]at hm1
   have hv:=Pl.Mc (y:=y) (o:=o) hsn UE hP1 (Pl.qh hm0) (Pl.qh hm1)
   obtain⟨b,off,hA,mQ,q0,q1,q2,q3⟩:=om.at4 (hf.pa.below hall) hlt
   obtain⟨g,off2,hA2,hg2,r0⟩:=Ints.gY (hy.below hall) hm0
   obtain⟨g',TF,xZ,_,r1⟩:=Ints.gY (hy.below hall) hm1
   rw[hA2]at xZ
   obtain⟨rfl,rfl⟩:g=g'∧off2=TF:=by simpa using xZ
   clear xZ UE hP1
   rw[hsn]at q1
   have HS:=Lib.hid hsn
   clear hsn
   have HV:=Lib.hid hv
   clear hv
   obtain⟨x0,hx0⟩: ∃x,y[P0]=x:=⟨_,rfl⟩
   obtain⟨x1,hx1⟩: ∃x,y[P1]=x:=⟨_,rfl⟩
   rw[hx0]at r0 HV
   rw[hx1]at r1 HV
   clear hx0 hx1
   subst hA hA2
   have hgr:g<wr.heap.size:=by omega
   have u0:=r0
   have u1:=r1
   have kp:=heap_alloc_new wr (.cells #[.string f.pa[k].name,.int .i64 (sn:Int),.int .i64 f.pa[k].fr,.int .i64 f.pa[k].till] 112)
   have e2:IntKind.i64.wrap ((sn:Int)+1)=(sn:Int)+1:=IntWalk.i64_in _ (by omega)
   have e3:(0:Int)<=(P0:Int):=by omega
   have e4:(P0:Int)<(y.length:Int):=by omega
   have e5:(0:Int)<=(P1:Int):=by omega
   have e6:(P1:Int)<(y.length:Int):=by omega
   have hno:Hid (Pl.hasB f.st.length y s o f.pa[k]=false-> ∀j (h:j<f.pa.length),j<k+1->Pl.hasB f.st.length y s o f.pa[j]=false):=Lib.hid fun h0 j h hj=>by
    by_cases e:j=k
    ·subst e;exact h0
    ·exact hg.out j h (by omega)
   by_cases g1:f.pa[k].fr<=(s:Int)
   ·by_cases g2:(s:Int)<f.pa[k].till
    ·by_cases g3:x0<=o
     ·by_cases g4:o<x1
      ·have hidx:=Lib.hid (Pl.iN (p:=Pl.hasB f.st.length y s o) hlt (fun j hj=>hg.out j (by omega) hj) (by rw[HV.out];simp[g1,g2,g3,g4]))
       go_wp2_with (go_at_call 110;refine(rT A1 A2 (some ⟨b,off,none⟩) A4 c1 c2 c3 c4 f _ _ _ (by omega) (by omega) (by omega) (by omega) (by omega)).mono ?_;rintro e w3 ⟨rfl,hx⟩;have kb:=(hx.block (w.heap.size) (by first|exact(lO kb)|omega|(simp;done)|(simp;omega))).trans (by first|exact kb|exact(Below.heap_alloc _ _ _ (lO kb)).trans kb);obtain⟨aQ,aS⟩:=ah kb;have aC:=(lO kb);have kp:=(hx.block (wr.heap.size) (by first|exact(lO kp)|omega|(simp;done)|(simp;omega))).trans (by first|exact kp|exact(Below.heap_alloc _ _ _ (lO kp)).trans kp);obtain⟨TG,TH⟩:=ah kp;have Qh:=(lO kp);have hall:=bT (w:=w) hx;have hsz:w.heap.size<=w3.heap.size:=hall.size;have Md:Below wr.heap.size wr w3:=bT hx;have TI:=Md.size;have r0:=(Md.cell (p:=⟨g,off2+P0,none⟩) hgr).trans u0;have r1:=(Md.cell (p:=⟨g,off2+P1,none⟩) hgr).trans u1;clear hx)
       go_ret2
       exact⟨by rw[Pl.L_ HE.out HQ.out hidx.out];try rfl,by go_grown⟩
      ·have hno:=Lib.hid (hno.out (by rw[HV.out];simp[g4]))
       go_wp2_with (go_at_call 110;refine(rT A1 A2 (some ⟨b,off,none⟩) A4 c1 c2 c3 c4 f _ _ _ (by omega) (by omega) (by omega) (by omega) (by omega)).mono ?_;rintro e w3 ⟨rfl,hx⟩;have kb:=(hx.block (w.heap.size) (by first|exact(lO kb)|omega|(simp;done)|(simp;omega))).trans (by first|exact kb|exact(Below.heap_alloc _ _ _ (lO kb)).trans kb);obtain⟨aQ,aS⟩:=ah kb;have aC:=(lO kb);have kp:=(hx.block (wr.heap.size) (by first|exact(lO kp)|omega|(simp;done)|(simp;omega))).trans (by first|exact kp|exact(Below.heap_alloc _ _ _ (lO kp)).trans kp);obtain⟨TG,TH⟩:=ah kp;have Qh:=(lO kp);have hall:=bT (w:=w) hx;have hsz:w.heap.size<=w3.heap.size:=hall.size;have Md:Below wr.heap.size wr w3:=bT hx;have TI:=Md.size;have r0:=(Md.cell (p:=⟨g,off2+P0,none⟩) hgr).trans u0;have r1:=(Md.cell (p:=⟨g,off2+P1,none⟩) hgr).trans u1;clear hx)
       go_roundw
       case rel=>exact⟨k+1,by omega,by go_num,hno,by first|exact kb|exact(Below.heap_alloc _ _ _ aC).trans kb,by go_grown⟩
       case measure=>first|(simp[intOf];done)|(simp[intOf];omega)
     ·have hno:=Lib.hid (hno.out (by rw[HV.out];simp[g3]))
      go_wp2_with (go_at_call 110;refine(rT A1 A2 (some ⟨b,off,none⟩) A4 c1 c2 c3 c4 f _ _ _ (by omega) (by omega) (by omega) (by omega) (by omega)).mono ?_;rintro e w3 ⟨rfl,hx⟩;have kb:=(hx.block (w.heap.size) (by first|exact(lO kb)|omega|(simp;done)|(simp;omega))).trans (by first|exact kb|exact(Below.heap_alloc _ _ _ (lO kb)).trans kb);obtain⟨aQ,aS⟩:=ah kb;have aC:=(lO kb);have kp:=(hx.block (wr.heap.size) (by first|exact(lO kp)|omega|(simp;done)|(simp;omega))).trans (by first|exact kp|exact(Below.heap_alloc _ _ _ (lO kp)).trans kp);obtain⟨TG,TH⟩:=ah kp;have Qh:=(lO kp);have hall:=bT (w:=w) hx;have hsz:w.heap.size<=w3.heap.size:=hall.size;have Md:Below wr.heap.size wr w3:=bT hx;have TI:=Md.size;have r0:=(Md.cell (p:=⟨g,off2+P0,none⟩) hgr).trans u0;have r1:=(Md.cell (p:=⟨g,off2+P1,none⟩) hgr).trans u1;clear hx)
      go_roundw
      case rel=>exact⟨k+1,by omega,by go_num,hno,by first|exact kb|exact(Below.heap_alloc _ _ _ aC).trans kb,by go_grown⟩
      case measure=>first|(simp[intOf];done)|(simp[intOf];omega)
    ·have hno:=Lib.hid (hno.out (by rw[HV.out];simp[g2]))
     go_wp2
     go_roundw
     case rel=>exact⟨k+1,by omega,by go_num,hno,by first|exact kb|exact(Below.heap_alloc _ _ _ aC).trans kb,by go_grown⟩
     case measure=>first|(simp[intOf];done)|(simp[intOf];omega)
   ·have hno:=Lib.hid (hno.out (by rw[HV.out];simp[g1]))
    go_wp2
    go_roundw
    case rel=>exact⟨k+1,by omega,by go_num,hno,by first|exact kb|exact(Below.heap_alloc _ _ _ aC).trans kb,by go_grown⟩
    case measure=>first|(simp[intOf];done)|(simp[intOf];omega)
  ·have hidx:Hid (Pl.idx (Pl.hasB f.st.length y s o) f.pa=none):=Lib.hid (Pl.jX fun j hj=>hg.out j hj (by omega))
   go_wp2
   go_ret2
   exact⟨by rw[Pl.Ma HE.out HQ.out hidx.out];try rfl,by go_grown⟩
