/- Proved: parts of the walk. -/
import Derived.Test.YtgbpekeoegfjpaaGreatDoorYRR
import Derived.Test.YtgbpekeoegfjpaaGreatDoorYTV
set_option maxRecDepth 100000
set_option maxHeartbeats 16000000
namespace Go.Proofs
open Tryz RowKit
variable (A1 A2 A3 A4 : Option Addr) (c1 c2 c3 c4 : Nat) (f : Pl.aL)
attribute [-go_sem] run_equalIn_agg loadVar storeVar
attribute [local go_sem] bZ bH dU aT
theorem Nq {f:Pl.aL}{c:Pl.aZ}{ws:List ByteArray}(h:Pl.fV f c=ws):(⟨(Lib.join (ws.map (fun x:ByteArray=>x.data.toList)) [32]).toArray⟩:ByteArray)=Pl.n_ f c:=by
 unfold Pl.n_ Pl.eZ Pl.q9
 rw[h]
theorem tF {f:Pl.aL}{c:Pl.aZ}{ws:List ByteArray}{F:FuncId}{A:Array Value}{w:World}(h:Pl.fV f c=ws)(hc:Calls prog F A w fun e w'=>e=.returned (.tuple #[.string ⟨(Lib.join (ws.map (fun x:ByteArray=>x.data.toList)) [32]).toArray⟩,.int .i64 0])∧Below w.heap.size w w'):
  Calls prog F A w fun e w'=>e=.returned (.tuple #[.string (Pl.n_ f c),.int .i64 0])∧Below w.heap.size w w':=by
 rw[Nq h]at hc
 exact hc
theorem Kj (c:Pl.aZ)(w:World)(hf:bB w w.heap.size A1 A2 A3 A4 f)(hF:Pl.aR f=0)(hC:Pl.fP f c=0)
  (pk: ∀W,Below w.heap.size w W->Calls prog 68 #[.agg (fq A1 A2 A3 A4 c1 c2 c3 c4 f),.agg (kq c)] W fun e w'=>e=.returned (.int .i64 0)∧Below W.heap.size W w'):
  Calls prog 30 #[.agg (fq A1 A2 A3 A4 c1 c2 c3 c4 f),.agg (kq c)] w fun e w'=>e=.returned (.tuple #[.string (Pl.n_ f c),.int .i64 0])∧Below w.heap.size w w':=by
 have hok:=Pl.iV hF
 have ht:=Pl.Ad hC
 have hcr:c.kind=3->c.aB.ok=true:=fun hk=>(Pl.uT hC hk).1
 have hsz:=Pl.yD hok ht hcr
 obtain⟨dA,hlim⟩: ∃n:Nat,c.lim=n:=⟨c.lim.toNat,by have:=ht.1;unfold Pl.mO at this;omega⟩
 have jD:dA<f.li.length:=by have:=ht.1;unfold Pl.mO at this;omega
 obtain⟨iP,hfr⟩: ∃n:Nat,c.fr=n:=⟨c.fr.toNat,by have:=ht.2.1;unfold Pl.mO at this;omega⟩
 have tL:iP<f.st.length:=by have:=ht.2.1;unfold Pl.mO at this;omega
 have a1:=uE hlim jD
 have a2:=pO hfr tL
 have ez:(-1000000<=c.size∧c.size<=1000000)∧ -1000000<=c.er∧c.er<=1000000:=by have s:=ht.2.2;omega
 have far:c.kind=3∨c.kind=4∨c.kind=5-> ∃n:Nat,c.till=n∧n<f.st.length:=fun hk=>by
  have:=Pl.sV ht hk
  unfold Pl.mO at this
  exact⟨c.till.toNat,by omega,by omega⟩
 have bL:c.kind=2∨c.kind=4-> ∃n:Nat,c.bL=n∧n<f.li.length:=fun hk=>by
  have:=Pl.vZ ht hk
  unfold Pl.mO at this
  exact⟨c.bL.toNat,by omega,by omega⟩
 obtain⟨L1,x1,y1⟩:=iM f.li[dA]
 obtain⟨S1,x2,y2⟩:=iM f.st[iP].1
 rcases Pl.yB ht with hk|hk|hk|hk|hk
 ·have e:Pl.fV f c=[Pl.bq,f.li[dA],f.st[iP].1,Pl.spelt c.size,Pl.spelt c.er]:=by unfold Pl.fV;rw[if_pos hk,a1,a2]
  have v1:=hsz f.li[dA] (by rw[e];simp)
  have v2:=hsz f.st[iP].1 (by rw[e];simp)
  have h:=M7 A1 A2 A3 A4 c1 c2 c3 c4 f dA iP c.bL c.till c.size c.er c.aB L1 S1 w hf jD tL x1 x2 (by omega) (by omega) ez.1 ez.2 (T:=Lib.join ([Pl.bq,f.li[dA],f.st[iP].1,Pl.spelt c.size,Pl.spelt c.er].map (fun x:ByteArray=>x.data.toList)) [32]) (Lib.hid (by rw[x1,x2];simp[Lib.join_cons,Lib.joinTail,Pl.bq,Pl.spelt])) (fun W hW=>by have:=pk W hW;rw[hk,hlim,hfr]at this;exact this)
  rw[hk,hlim,hfr]
  exact tF e h
 ·obtain⟨jy,hoth,pJ⟩:=bL (.inl hk)
  obtain⟨L2,x3,y3⟩:=iM f.li[jy]
  have e:Pl.fV f c=[Pl.bA,f.li[dA],f.li[jy],f.st[iP].1,Pl.spelt c.size,Pl.spelt c.er]:=by unfold Pl.fV;rw[if_neg (by omega),if_pos hk,a1,a2,uE hoth pJ]
  have v1:=hsz f.li[dA] (by rw[e];simp)
  have v2:=hsz f.st[iP].1 (by rw[e];simp)
  have v3:=hsz f.li[jy] (by rw[e];simp)
  have h:=M8 A1 A2 A3 A4 c1 c2 c3 c4 f dA iP jy c.till c.size c.er c.aB L1 S1 L2 w hf jD tL x1 x2 (by omega) (by omega) pJ x3 (by omega) ez.1 ez.2 (T:=Lib.join ([Pl.bA,f.li[dA],f.li[jy],f.st[iP].1,Pl.spelt c.size,Pl.spelt c.er].map (fun x:ByteArray=>x.data.toList)) [32]) (Lib.hid (by rw[x1,x2,x3];simp[Lib.join_cons,Lib.joinTail,Pl.bA,Pl.spelt])) (fun W hW=>by have:=pk W hW;rw[hk,hlim,hfr,hoth]at this;exact this)
  rw[hk,hlim,hfr,hoth]
  exact tF e h
 ·obtain⟨cZ,fI,gH⟩:=far (.inl hk)
  obtain⟨S2,x4,y4⟩:=iM f.st[cZ].1
  obtain⟨U,x5,y5⟩:=iM (Pl.aY c.aB.l)
  obtain⟨V,x6,y6⟩:=iM (Pl.mD c.aB.b)
  obtain⟨⟨r0,r1⟩,⟨n0,n1⟩,⟨l0,l1⟩,_,⟨x0,x9⟩,s0,s1⟩:=Pl.bF.mF (hcr hk)
  have e:Pl.fV f c=[Pl.aV,f.li[dA],f.st[iP].1,f.st[cZ].1,Pl.aY c.aB.l,Pl.rM,Pl.mD c.aB.b,Pl.eD,Pl.spelt c.aB.n,Pl.fT,Pl.spelt c.aB.x,Pl.eu,Pl.spelt c.aB.s]:=by
   unfold Pl.fV;rw[if_neg (by omega),if_neg (by omega),if_pos hk,a1,a2,pO fI gH]
  have v1:=hsz f.li[dA] (by rw[e];simp)
  have v2:=hsz f.st[iP].1 (by rw[e];simp)
  have v4:=hsz f.st[cZ].1 (by rw[e];simp)
  have v5:=hsz (Pl.aY c.aB.l) (by rw[e];simp)
  have v6:=hsz (Pl.mD c.aB.b) (by rw[e];simp)
  have h:=Ki A1 A2 A3 A4 c1 c2 c3 c4 f dA iP cZ c.bL c.size c.er c.aB L1 S1 S2 U V w hf jD tL x1 x2 (by omega) (by omega) gH x4 (by omega) x5 (by omega) x6 (by omega) (by omega) (by omega) (by omega) (T:=Lib.join ([Pl.aV,f.li[dA],f.st[iP].1,f.st[cZ].1,Pl.aY c.aB.l,Pl.rM,Pl.mD c.aB.b,Pl.eD,Pl.spelt c.aB.n,Pl.fT,Pl.spelt c.aB.x,Pl.eu,Pl.spelt c.aB.s].map (fun x:ByteArray=>x.data.toList)) [32]) (Lib.hid (by rw[x1,x2,x4,x5,x6];simp[Lib.join_cons,Lib.joinTail,Pl.aV,Pl.rM,Pl.eD,Pl.fT,Pl.eu,Pl.spelt])) (fun W hW=>by have:=pk W hW;rw[hk,hlim,hfr,fI]at this;exact this)
  rw[hk,hlim,hfr,fI]
  exact tF e h
 ·obtain⟨cZ,fI,gH⟩:=far (.inr (.inl hk))
  obtain⟨jy,hoth,pJ⟩:=bL (.inr hk)
  obtain⟨L2,x3,y3⟩:=iM f.li[jy]
  obtain⟨S2,x4,y4⟩:=iM f.st[cZ].1
  have e:Pl.fV f c=[Pl.bC,f.li[dA],f.li[jy],f.st[iP].1,f.st[cZ].1]:=by unfold Pl.fV;rw[if_neg (by omega),if_neg (by omega),if_neg (by omega),if_pos hk,a1,a2,uE hoth pJ,pO fI gH]
  have v1:=hsz f.li[dA] (by rw[e];simp)
  have v2:=hsz f.st[iP].1 (by rw[e];simp)
  have v3:=hsz f.li[jy] (by rw[e];simp)
  have v4:=hsz f.st[cZ].1 (by rw[e];simp)
  have h:=Ng A1 A2 A3 A4 c1 c2 c3 c4 f dA iP jy cZ c.size c.er c.aB L1 S1 L2 S2 w hf jD tL x1 x2 (by omega) (by omega) pJ x3 (by omega) gH x4 (by omega) (T:=Lib.join ([Pl.bC,f.li[dA],f.li[jy],f.st[iP].1,f.st[cZ].1].map (fun x:ByteArray=>x.data.toList)) [32]) (Lib.hid (by rw[x1,x2,x3,x4];simp[Lib.join_cons,Lib.joinTail,Pl.bC])) (fun W hW=>by have:=pk W hW;rw[hk,hlim,hfr,fI,hoth]at this;exact this)
  rw[hk,hlim,hfr,fI,hoth]
  exact tF e h
 ·obtain⟨cZ,fI,gH⟩:=far (.inr (.inr hk))
  obtain⟨S2,x4,y4⟩:=iM f.st[cZ].1
  have e:Pl.fV f c=[Pl.bg,f.li[dA],f.st[iP].1,f.st[cZ].1,Pl.spelt c.size,Pl.spelt c.er]:=by unfold Pl.fV;rw[if_neg (by omega),if_neg (by omega),if_neg (by omega),if_neg (by omega),a1,a2,pO fI gH]
  have v1:=hsz f.li[dA] (by rw[e];simp)
  have v2:=hsz f.st[iP].1 (by rw[e];simp)
  have v4:=hsz f.st[cZ].1 (by rw[e];simp)
  have h:=Nh A1 A2 A3 A4 c1 c2 c3 c4 f dA iP cZ c.bL c.size c.er c.aB L1 S1 S2 w hf jD tL x1 x2 (by omega) (by omega) gH x4 (by omega) ez.1 ez.2 (T:=Lib.join ([Pl.bg,f.li[dA],f.st[iP].1,f.st[cZ].1,Pl.spelt c.size,Pl.spelt c.er].map (fun x:ByteArray=>x.data.toList)) [32]) (Lib.hid (by rw[x1,x2,x4];simp[Lib.join_cons,Lib.joinTail,Pl.bg,Pl.spelt])) (fun W hW=>by have:=pk W hW;rw[hk,hlim,hfr,fI]at this;exact this)
  rw[hk,hlim,hfr,fI]
  exact tF e h
theorem Cu (c:Pl.aZ)(w:World)(hf:bB w w.heap.size A1 A2 A3 A4 f)(hm:Small f)(hc:dY c1 c2 c3 c4 f):
  Calls prog 30 #[.agg (fq A1 A2 A3 A4 c1 c2 c3 c4 f),.agg (kq c)] w fun e w'=>e=.returned (.tuple #[.string (Pl.lM f c),.int .i64 (Pl.aM f c)])∧Below w.heap.size w w':=by
 obtain⟨E,hE⟩: ∃E,Pl.aM f c=E:=⟨_,rfl⟩
 have pk:=fun W (hW:Below w.heap.size w W)=>BR A1 A2 A3 A4 c1 c2 c3 c4 f c E W (Lib.hid hE) (hf.up hW) hm hc
 by_cases h0:E=0
 ·subst h0
  have hF:Pl.aR f=0:=by
   unfold Pl.aM at hE
   split at hE
   ·assumption
   ·exact absurd hE ‹_›
  have hC:Pl.fP f c=0:=by
   unfold Pl.aM at hE
   rw[if_pos hF]at hE
   exact hE
  have HV:Pl.lM f c=Pl.n_ f c:=by unfold Pl.lM;rw[if_pos hE]
  rw[HV,hE]
  exact Kj A1 A2 A3 A4 c1 c2 c3 c4 f c w hf hF hC pk
 ·have kf:=heap_alloc2_old w (.cells (fq A1 A2 A3 A4 c1 c2 c3 c4 f) 28) (.cells (kq c) 48)
  have kc:=heap_alloc2_new w (.cells (fq A1 A2 A3 A4 c1 c2 c3 c4 f) 28) (.cells (kq c) 48)
  have hall:Below w.heap.size w ((w.alloc (.cells (fq A1 A2 A3 A4 c1 c2 c3 c4 f) 28)).alloc (.cells (kq c) 48)):=((Below.refl _ w).alloc (Nat.le_refl _) _).alloc (by simp) _
  have iw:=ak kf underlying28 rfl av
  have gZ:=ak kc underlying48 rfl aj
  have HV:Hid (Pl.lM f c=⟨#[]⟩):=Lib.hid (by unfold Pl.lM;rw[if_neg (by rw[hE];exact h0)])
  rw[HV.out,hE]
  have hne:(E !=0)=true:=by simpa using h0
  clear hE HV h0
  go_enter func30,ntmps30
  go_wp2_with (go_at_call 68;refine(pk _ hall).mono ?_;rintro e w1 ⟨rfl,hx⟩;have hall:Below w.heap.size w w1:=hall.trans (hx.mono hall.size);clear hx)
  go_ret2
  exact⟨rfl,hall⟩
end Go.Proofs
namespace Go.Proofs
open Tryz RowKit
variable (A1 A2 A3 A4 : Option Addr) (c1 c2 c3 c4 : Nat) (f : Pl.aL)
attribute [-go_sem] storeVar loadVar
attribute [local go_sem] bZ bH dU aT mU
def XM (r:Except Int Pl.aZ):Pl.aZ:=match r with
 | .ok c=>c
 | .error _=>⟨0,0,0,0,0,0,0,Pl.bF.zero⟩
def XO (r:Except Int Pl.aZ):Int:=match r with
 | .ok _=>0
 | .error E=>E
theorem jC.val {r:Except Int Pl.aZ}{w w':World}{e:Ending}{d:Pl.aZ}{D:Int}(hd:XM r=d)(hD:XO r=D)(h:jC r w e w'):e=.returned (.tuple #[.agg (kq d),.int .i64 D])∧Below w.heap.size w w':=by
 subst hd hD
 cases r with
 |ok c=>exact⟨h.2,h.1⟩
 |error E=>exact⟨h.2,h.1⟩
theorem Fb (W:World)(d:Pl.aZ): ∃W2,(storeVar 48 ⟨W.heap.size,0,none⟩ (.agg (kq d))).run prog (W.alloc (.cells bP 48))=.ok () W2∧W2.heap[W.heap.size]?=some (.cells (kq d) 48 (0,0))∧Below W.heap.size W W2:=by
 have kn:=heap_alloc_new W (.cells bP 48)
 obtain⟨W2,st,k,hg⟩:=aG (W.alloc (.cells bP 48)) W.heap.size 48 48 bP (kq d) kn aj rfl (by simp[Value.oneCell'])
 exact⟨W2,st,k,((Below.refl _ W).alloc (Nat.le_refl _) _).grown hg (by simp) (fun j e=>by cases e;exact Nat.le_refl _)⟩
theorem Hf (c:Pl.aZ)(s:ByteArray)(year:Int)(w:World)(Kn:Env w)(hf:bB w w.heap.size A1 A2 A3 A4 f)(hv:Hid (Pl.vast f=true)):
  Calls prog 6 #[.agg (fq A1 A2 A3 A4 c1 c2 c3 c4 f),.agg (kq c),.string s,.int .i64 year] w fun e w'=>e=.returned (.bool true)∧Below w.heap.size w w':=by
 obtain⟨W0,hW0⟩: ∃W,((w.alloc (.cells (fq A1 A2 A3 A4 c1 c2 c3 c4 f) 28)).alloc (.cells (kq c) 48))=W:=⟨_,rfl⟩
 have kf:=heap_alloc2_old w (.cells (fq A1 A2 A3 A4 c1 c2 c3 c4 f) 28) (.cells (kq c) 48)
 have kc:=heap_alloc2_new w (.cells (fq A1 A2 A3 A4 c1 c2 c3 c4 f) 28) (.cells (kq c) 48)
 have hall:Below w.heap.size w W0:=by rw[<-hW0];exact((Below.refl _ w).alloc (Nat.le_refl _) _).alloc (by simp) _
 rw[hW0]at kf kc
 have lf:=ak kf underlying28 rfl av
 have lc:=ak kc underlying48 rfl aj
 go_enter func6,ntmps6
 go_wp2_with fail
 refine(Gn A1 A2 A3 A4 c1 c2 c3 c4 f _ (hf.up hall) true hv).mono ?_
 rintro e w1 ⟨rfl,hx⟩
 have kf:=kE hx kf
 have kc:=kE hx kc
 have hall:=hall.trans (hx.mono hall.size)
 clear hx lf lc hW0
 have lf:=ak kf underlying28 rfl av
 have lc:=ak kc underlying48 rfl aj
 go_wp2_with fail
 refine(yc _ (Kn.up hall)).mono ?_
 rintro e w2 ⟨rfl,hx⟩
 go_wp2_with fail
 go_ret
 exact⟨by first|rfl|(simp;done),hall.trans (hx.mono hall.size)⟩
theorem Hg (c:Pl.aZ)(s:ByteArray)(year:Int)(w:World)(Kn:Env w)(hf:bB w w.heap.size A1 A2 A3 A4 f)(hv:Hid (Pl.vast f=false))(hs:1000<s.size):
  Calls prog 6 #[.agg (fq A1 A2 A3 A4 c1 c2 c3 c4 f),.agg (kq c),.string s,.int .i64 year] w fun e w'=>e=.returned (.bool true)∧Below w.heap.size w w':=by
 have g1:(1000:Int)<(s.size:Int):=by omega
 obtain⟨W0,hW0⟩: ∃W,((w.alloc (.cells (fq A1 A2 A3 A4 c1 c2 c3 c4 f) 28)).alloc (.cells (kq c) 48))=W:=⟨_,rfl⟩
 have kf:=heap_alloc2_old w (.cells (fq A1 A2 A3 A4 c1 c2 c3 c4 f) 28) (.cells (kq c) 48)
 have kc:=heap_alloc2_new w (.cells (fq A1 A2 A3 A4 c1 c2 c3 c4 f) 28) (.cells (kq c) 48)
 have hall:Below w.heap.size w W0:=by rw[<-hW0];exact((Below.refl _ w).alloc (Nat.le_refl _) _).alloc (by simp) _
 rw[hW0]at kf kc
 have lf:=ak kf underlying28 rfl av
 have lc:=ak kc underlying48 rfl aj
 go_enter func6,ntmps6
 go_wp2_with fail
 refine(Gn A1 A2 A3 A4 c1 c2 c3 c4 f _ (hf.up hall) false hv).mono ?_
 rintro e w1 ⟨rfl,hx⟩
 have kf:=kE hx kf
 have kc:=kE hx kc
 have hall:=hall.trans (hx.mono hall.size)
 clear hx lf lc hW0
 have lf:=ak kf underlying28 rfl av
 have lc:=ak kc underlying48 rfl aj
 go_wp2_with fail
 refine(yc _ (Kn.up hall)).mono ?_
 rintro e w2 ⟨rfl,hx⟩
 go_wp2_with fail
 go_ret
 exact⟨by first|rfl|(simp;done),hall.trans (hx.mono hall.size)⟩
theorem Kl (c:Pl.aZ)(s:ByteArray)(year:Int)(w:World)(Kn:Env w)(hf:bB w w.heap.size A1 A2 A3 A4 f)(hm:Small f)(hc:dY c1 c2 c3 c4 f)(hk:c.kind<=255)(hv:Hid (Pl.vast f=false))(hs:s.size<=1000):
  Calls prog 6 #[.agg (fq A1 A2 A3 A4 c1 c2 c3 c4 f),.agg (kq c),.string s,.int .i64 year] w fun e w'=>e=.returned (.bool true)∧Below w.heap.size w w':=by
 have g1: ¬(1000:Int)<(s.size:Int):=by omega
 have pw:=fun W (hW:Below w.heap.size w W)=>ER A1 A2 A3 A4 c1 c2 c3 c4 f c W (Kn.up hW) (hf.up hW) hm hc hk
 have pv:=fun W (hW:Below w.heap.size w W)=>Cu A1 A2 A3 A4 c1 c2 c3 c4 f c W (hf.up hW) hm hc
 have pr:=fun W (hW:Below w.heap.size w W)=>qQ A1 A2 A3 A4 c1 c2 c3 c4 f s year W (Kn.up hW) (hf.up hW) hm hc (by omega)
 have pq:=fun W (hW:Below w.heap.size w W)=>Fa A1 A2 A3 A4 c1 c2 c3 c4 f s year W (hf.up hW) hm hc (by omega)
 obtain⟨S,hS⟩: ∃S,Pl.lM f c=S:=⟨_,rfl⟩
 obtain⟨E,hE⟩: ∃E,Pl.aM f c=E:=⟨_,rfl⟩
 obtain⟨r,hr⟩: ∃r,Pl.bJ f s year=r:=⟨_,rfl⟩
 obtain⟨d,hd⟩: ∃d,XM r=d:=⟨_,rfl⟩
 obtain⟨D,hD⟩: ∃D,XO r=D:=⟨_,rfl⟩
 rw[hS,hE]at pw pv
 rw[hr]at pr pq
 have HD1:=Lib.hid hd
 have HD2:=Lib.hid hD
 clear hS hE hr hd hD
 obtain⟨W0,hW0⟩: ∃W,((w.alloc (.cells (fq A1 A2 A3 A4 c1 c2 c3 c4 f) 28)).alloc (.cells (kq c) 48))=W:=⟨_,rfl⟩
 have kf:=heap_alloc2_old w (.cells (fq A1 A2 A3 A4 c1 c2 c3 c4 f) 28) (.cells (kq c) 48)
 have kc:=heap_alloc2_new w (.cells (fq A1 A2 A3 A4 c1 c2 c3 c4 f) 28) (.cells (kq c) 48)
 have hall:Below w.heap.size w W0:=by rw[<-hW0];exact((Below.refl _ w).alloc (Nat.le_refl _) _).alloc (by simp) _
 rw[hW0]at kf kc
 have lf:=ak kf underlying28 rfl av
 have lc:=ak kc underlying48 rfl aj
 go_enter func6,ntmps6
 go_wp2_with fail
 refine(Gn A1 A2 A3 A4 c1 c2 c3 c4 f _ (hf.up hall) false hv).mono ?_
 rintro e w1 ⟨rfl,hx⟩
 have kf:=kE hx kf
 have kc:=kE hx kc
 have hall:=hall.trans (hx.mono hall.size)
 clear hx lf lc hW0
 have lf:=ak kf underlying28 rfl av
 have lc:=ak kc underlying48 rfl aj
 go_wp2_with fail
 refine(pw _ hall).mono ?_
 clear pw
 rintro e w2 ⟨rfl,hx⟩
 have kf:=kE hx kf
 have kc:=kE hx kc
 have hall:=hall.trans (hx.mono hall.size)
 clear hx lf lc
 have lf:=ak kf underlying28 rfl av
 have lc:=ak kc underlying48 rfl aj
 go_wp2_with fail
 refine(pv _ hall).mono ?_
 clear pv
 rintro e w3 ⟨rfl,hx⟩
 have kf:=kE hx kf
 have kc:=kE hx kc
 have hall:=hall.trans (hx.mono hall.size)
 clear hx lf lc
 have lf:=ak kf underlying28 rfl av
 have lc:=ak kc underlying48 rfl aj
 go_wp2_with fail
 refine(pr _ hall).mono ?_
 clear pr
 intro e w4 XP
 obtain⟨rfl,hx⟩:=XP.val HD1.out HD2.out
 clear XP
 have kf:=kE hx kf
 have kc:=kE hx kc
 have hall:=hall.trans (hx.mono hall.size)
 obtain⟨V1,s1,b1,hx1⟩:=Fb w4 d
 have kf:=kE hx1 kf
 have kc:=kE hx1 kc
 have hall:=hall.trans (hx1.mono hall.size)
 clear hx hx1 lf lc
 have lf:=ak kf underlying28 rfl av
 have lc:=ak kc underlying48 rfl aj
 go_wp2_with fail
 refine(pq _ hall).mono ?_
 clear pq
 intro e w5 Tk
 obtain⟨rfl,hx⟩:=Tk.val HD1.out HD2.out
 clear Tk
 have kf:=kE hx kf
 have kc:=kE hx kc
 have hall:=hall.trans (hx.mono hall.size)
 have b1:=kE hx b1
 obtain⟨V2,s2,b2,hx1⟩:=Fb w5 d
 have b1:=kE hx1 b1
 have hall:=hall.trans (hx1.mono hall.size)
 clear hx hx1 lf lc kf kc
 go_wp2_with fail
 refine(yc _ (Kn.up hall)).mono ?_
 rintro e w2 ⟨rfl,hx⟩
 have b1:=kE hx b1
 have b2:=kE hx b2
 have l1:=ak b1 underlying48 rfl aj
 have l2:=ak b2 underlying48 rfl aj
 go_wp2_with fail
 go_ret
 exact⟨by first|rfl|(simp;done),hall.trans (hx.mono hall.size)⟩
theorem Fe (c:Pl.aZ)(s:ByteArray)(year:Int)(w:World)(Kn:Env w)(hf:bB w w.heap.size A1 A2 A3 A4 f)(hc:dY c1 c2 c3 c4 f)(hk:c.kind<=255)(_:s.size<=maxLen):
  Calls prog 6 #[.agg (fq A1 A2 A3 A4 c1 c2 c3 c4 f),.agg (kq c),.string s,.int .i64 year] w fun e w'=>e=.returned (.bool true)∧Below w.heap.size w w':=by
 cases hv:Pl.vast f with
 |true=>exact Hf A1 A2 A3 A4 c1 c2 c3 c4 f c s year w Kn hf (Lib.hid hv)
 |false=>
  by_cases hs:s.size<=1000
  ·exact Kl A1 A2 A3 A4 c1 c2 c3 c4 f c s year w Kn hf (Pl.Gm hv) hc hk (Lib.hid hv) hs
  ·exact Hg A1 A2 A3 A4 c1 c2 c3 c4 f c s year w Kn hf (Lib.hid hv) (by omega)
