/- Proved: parts of the walk. -/
import Derived.Test.YtgbpekeoegfjpaaGreatDoorYPlX
import Derived.Test.YtgbpekeoegfjpaaGreatDoorYTK2
import Derived.Test.YtgbpekeoegfjpaaGreatDoorYTJ4
set_option maxRecDepth 100000
set_option maxHeartbeats 16000000
namespace Go.Proofs
open Tryz RowKit
theorem Np {α β:Type}(g:α->β)(p:β->Bool)(l:List α):Pl.idx p (l.map g)=Pl.idx (fun x=>p (g x)) l:=by
 induction l with
 |nil=>rfl
 |cons a l ih=>simp only[List.map_cons,Pl.idx];rw[ih]
theorem Ct {o:Option Nat}:Pl.pos o<0↔o=none:=by
 cases o with
 |none=>exact⟨fun _=>rfl,fun _=>by show(-1:Int)<0;omega⟩
 |some i=>exact⟨fun h=>by exfalso;have:(i:Int)<0:=h;omega,fun h=>by cases h⟩
theorem E9 (A1 A2 A3 A4:Option Addr)(c1 c2 c3 c4:Nat)(f:Pl.aL)(x:Pl.kZ)(l:List ByteArray)(b off c0:Nat)(year:Int)(w:World)(hf:bB w w.heap.size A1 A2 A3 A4 f)(hm:Small f)(hc:dY c1 c2 c3 c4 f)(hF:Pl.aR f=0)(hx:Pl.aX l=some x)(hl:d9 w w.heap.size (some ⟨b,off,none⟩) l):
  Calls prog 104 #[.agg (fq A1 A2 A3 A4 c1 c2 c3 c4 f),.agg (XI x.kind (if x.kind=2∨x.kind=4 then 2 else 1) (if x.kind≠1∧x.kind≠2 then 2 else 1) b off c0 x.size x.er x.aB),.int .i64 year] w (jC (Pl.jF f x year) w):=by
 obtain⟨hk,hlen,e1,e3,e2,e4,e5⟩:=Pl.EA hx
 have ZC:Pl.qY x.kind=1∨Pl.qY x.kind=2:=by unfold Pl.qY;split<;>simp
 have Vj:Pl.Fh x.kind=1∨Pl.Fh x.kind=2:=by unfold Pl.Fh;split<;>simp
 have u: ∀k,k<l.length-> ∀W,Below w.heap.size w W->W.cell? ⟨b,off+k,none⟩=some (.string (Pl.wd l k)):=fun k h W hW=>by
  obtain⟨b',off',hA,_,hu⟩:=d9.gY (hl.up hW) h
  obtain⟨rfl,rfl⟩:b=b'∧off=off':=by simpa using hA
  have:Pl.wd l k=l[k]:=by unfold Pl.wd;rw[List.getElem?_eq_getElem h];rfl
  rw[this];exact hu
 have hsn:f.sn.length=f.st.length:=by unfold Pl.aL.sn;simp
 have hst:=hm.st
 have YQ:=hm.li
 have pl: ∀n W,Below w.heap.size w W->Calls prog 115 #[.slice A2 f.li.length c2,.string n] W fun e w'=>e=.returned (.int .i64 (Pl.pos (Pl.eX f n)))∧W=w':=fun n W hW=>nC A2 c2 f.li n W (hf.li.up hW) (by omega)
 have ps: ∀n W B d,d9 W W.heap.size B f.sn->Calls prog 115 #[.slice B f.sn.length d,.string n] W fun e w'=>e=.returned (.int .i64 (Pl.pos (Pl.dW f n)))∧W=w':=fun n W B d hN=>by
  have:=nC B d f.sn n W hN (by omega)
  rw[show Pl.idx (fun x=>decide (x=n)) f.sn=Pl.dW f n from Np Prod.fst (fun x=>decide (x=n)) f.st]at this
  exact this
 have pn:=fun W (hW:Below w.heap.size w W)=>Ef A1 A2 A3 A4 c1 c2 c3 c4 f W (hf.up hW) hm
 obtain⟨oo,Ul⟩: ∃o,(if x.kind=2∨x.kind=4 then Pl.eX f x.bL else some 0)=o:=⟨_,rfl⟩
 obtain⟨ot,hot⟩: ∃o,(if x.kind=3∨x.kind=4∨x.kind=5 then Pl.dW f x.till else some 0)=o:=⟨_,rfl⟩
 obtain⟨oi,hoi⟩: ∃o,Pl.eX f x.lim=o:=⟨_,rfl⟩
 obtain⟨oj,hoj⟩: ∃o,Pl.dW f x.fr=o:=⟨_,rfl⟩
 have Qm:Pl.looked f x year=oi.bind fun l=>oo.bind fun o=>oj.bind fun s=>(ot.bind fun t=>some (t:Int)).map fun t=>⟨x.kind,l,o,s,t,x.size,x.er,if x.kind=3 then {x.aB with y:=year} else Pl.bF.zero⟩:=by
  unfold Pl.looked;rw[hoi,Ul,hoj,hot];rfl
 obtain⟨yf,UO⟩: ∃y,(if x.kind=3 then year else x.aB.y)=y:=⟨_,rfl⟩
 have hnl:(Pl.qY x.kind=1∧Pl.pos oo=0)∨(Pl.qY x.kind=2∧(∀W,Below w.heap.size w W->W.cell? ⟨b,off+1+1,none⟩=some (.string (Pl.wd l 2)))∧(∀W,Below w.heap.size w W->Calls prog 115 #[.slice A2 f.li.length c2,.string (Pl.wd l 2)] W fun e w'=>e=.returned (.int .i64 (Pl.pos oo))∧W=w')):=by
  by_cases h2:x.kind=2∨x.kind=4
  ·have hn2:Pl.qY x.kind=2:=if_pos h2
   rw[if_pos h2]at Ul
   refine .inr ⟨hn2,fun W hW=> ?_,fun W hW=> ?_⟩
   ·exact u 2 (by omega) W hW
   ·have:=pl (Pl.wd l 2) W hW
    rw[<-e3 hn2,Ul]at this
    rw[<-e3 hn2]
    exact this
  ·rw[if_neg h2]at Ul
   exact .inl ⟨if_neg h2,by rw[<-Ul];rfl⟩
 have hns:(Pl.Fh x.kind=1∧Pl.pos ot=0)∨(Pl.Fh x.kind=2∧(∀W,Below w.heap.size w W->W.cell? ⟨b,off+(1+Pl.qY x.kind)+1,none⟩=some (.string (Pl.wd l (2+Pl.qY x.kind))))∧(∀W B d,d9 W W.heap.size B f.sn->Calls prog 115 #[.slice B f.sn.length d,.string (Pl.wd l (2+Pl.qY x.kind))] W fun e w'=>e=.returned (.int .i64 (Pl.pos ot))∧W=w')):=by
  by_cases h2:x.kind≠1∧x.kind≠2
  ·have hn2:Pl.Fh x.kind=2:=if_pos h2
   rw[if_pos (by omega)]at hot
   refine .inr ⟨hn2,fun W hW=> ?_,fun W B d hN=> ?_⟩
   ·have:=u (2+Pl.qY x.kind) (by omega) W hW
    rw[show off+(1+Pl.qY x.kind)+1=off+(2+Pl.qY x.kind) by omega]
    exact this
   ·have:=ps (Pl.wd l (2+Pl.qY x.kind)) W B d hN
    rw[<-e4 hn2,hot]at this
    rw[<-e4 hn2]
    exact this
  ·rw[if_neg (by omega)]at hot
   exact .inl ⟨if_neg h2,by rw[<-hot];rfl⟩
 have hkk:(x.kind=3∧yf=year)∨(x.kind≠3∧yf=x.aB.y):=by
  by_cases h3:x.kind=3
  ·rw[if_pos h3]at UO;exact .inl ⟨h3,UO.symm⟩
  ·rw[if_neg h3]at UO;exact .inr ⟨h3,UO.symm⟩
 have u1:=u 1 (by omega)
 have u2:=u (1+Pl.qY x.kind) (by omega)
 have q1:=fun W hW=>pl (Pl.wd l 1) W hW
 have q2:=fun W B d hN=>ps (Pl.wd l (1+Pl.qY x.kind)) W B d hN
 rw[<-e1,hoi]at q1
 rw[<-e2,hoj]at q2
 rw[<-e1]at u1
 rw[<-e2]at u2
 have go:=fun E R D hR=>RN A1 A2 A3 A4 c1 c2 c3 c4 f x.kind (Pl.qY x.kind) (Pl.Fh x.kind) b (off+1) (c0-1) b (off+(1+Pl.qY x.kind)) (c0-(1+Pl.qY x.kind)) x.size x.er year yf x.aB x.lim x.fr (Pl.wd l 2) (Pl.wd l (2+Pl.qY x.kind)) (Pl.pos oi) (Pl.pos oj) (Pl.pos oo) (Pl.pos ot) E w u1 u2 q1 pn q2 hnl hns hkk R D hR
 by_cases jG:oi=none∨oj=none∨oo=none∨ot=none
 ·have E_:Pl.jF f x year=.error 5:=by
   unfold Pl.jF
   rw[Qm]
   rcases jG with rfl|rfl|rfl|rfl
   ·rfl
   ·cases oi<;>cases oo<;>rfl
   ·cases oi<;>rfl
   ·cases oi<;>cases oo<;>cases oj<;>rfl
  refine(go 0 _ 5 (.inl ⟨?_,rfl,rfl⟩)).mono ?_
  ·rcases jG with h|h|h|h
   ·exact .inl (Ct.2 h)
   ·exact .inr (.inl (Ct.2 h))
   ·exact .inr (.inr (.inl (Ct.2 h)))
   ·exact .inr (.inr (.inr (Ct.2 h)))
  ·rintro e w' ⟨rfl,hb⟩
   exact jC.no 5 E_ hb rfl
 ·obtain⟨i,rfl⟩: ∃i,oi=some i:=by cases oi with|none=>exact absurd (.inl rfl) jG|some i=>exact⟨i,rfl⟩
  obtain⟨j,rfl⟩: ∃i,oj=some i:=by cases oj with|none=>exact absurd (.inr (.inl rfl)) jG|some i=>exact⟨i,rfl⟩
  obtain⟨o,rfl⟩: ∃i,oo=some i:=by cases oo with|none=>exact absurd (.inr (.inr (.inl rfl))) jG|some i=>exact⟨i,rfl⟩
  obtain⟨t,rfl⟩: ∃i,ot=some i:=by cases ot with|none=>exact absurd (.inr (.inr (.inr rfl))) jG|some i=>exact⟨i,rfl⟩
  obtain⟨c,hcd⟩: ∃c:Pl.aZ,(⟨x.kind,i,o,j,t,x.size,x.er,if x.kind=3 then {x.aB with y:=year} else Pl.bF.zero⟩:Pl.aZ)=c:=⟨_,rfl⟩
  have hl2:Pl.looked f x year=some c:=by rw[Qm,<-hcd];rfl
  have hfin:((bR x.kind (Pl.pos (some i)) (Pl.pos (some o)) (Pl.pos (some j)) (Pl.pos (some t)) x.size x.er x.aB.b x.aB.n x.aB.l yf x.aB.x x.aB.s):Array Value)=(kq c):=by
   subst hcd
   rcases hkk with ⟨h3,rfl⟩|⟨h3,rfl⟩
   ·simp only[if_pos h3];rfl
   ·have:=e5 h3
    simp only[if_neg h3,this];rfl
  have npos: ∀m:Nat,¬Pl.pos (some m)<0:=fun m h=>by have h:(m:Int)<0:=h;omega
  obtain⟨E,hE⟩: ∃E,Pl.fP f c=E:=⟨_,rfl⟩
  have pc: ∀W,Below w.heap.size w W->Calls prog 129 #[.agg (fq A1 A2 A3 A4 c1 c2 c3 c4 f),.agg (kq c)] W fun e w'=>e=.returned (.int .i64 E)∧Below W.heap.size W w':=fun W hW=>sP A1 A2 A3 A4 c1 c2 c3 c4 f c E W (Lib.hid hE) (hf.up hW) hm hc hF
  by_cases hE0:E=0
  ·have E_:Pl.jF f x year=.ok c:=by unfold Pl.jF;rw[hl2];simp only;rw[if_pos (by rw[hE];exact hE0)]
   refine(go E _ 0 (.inr ⟨⟨npos i,npos j,npos o,npos t,by rw[hfin];exact pc⟩,.inr ⟨hE0,rfl,rfl⟩⟩)).mono ?_
   rintro e w' ⟨rfl,hb⟩
   exact jC.ok c E_ hb (by rw[hfin])
  ·have E_:Pl.jF f x year=.error E:=by unfold Pl.jF;rw[hl2];simp only;rw[hE,if_neg hE0]
   refine(go E _ E (.inr ⟨⟨npos i,npos j,npos o,npos t,by rw[hfin];exact pc⟩,.inl ⟨hE0,rfl,rfl⟩⟩)).mono ?_
   rintro e w' ⟨rfl,hb⟩
   exact jC.no E E_ hb rfl
open Tryz RowKit
attribute [-go_sem] run_equalIn_agg loadVar storeVar
attribute [local go_sem] bZ bH dU aT dD
theorem Fa (A1 A2 A3 A4:Option Addr)(c1 c2 c3 c4:Nat)(f:Pl.aL)(s:ByteArray)(year:Int)(w:World)(hf:bB w w.heap.size A1 A2 A3 A4 f)(hm:Small f)(hc:dY c1 c2 c3 c4 f)(hs:s.size<=90000):
  Calls prog 32 #[.agg (fq A1 A2 A3 A4 c1 c2 c3 c4 f),.string s,.int .i64 year] w (jC (Pl.bJ f s year) w):=by
 obtain⟨F,Wu⟩: ∃F,Pl.aR f=F:=⟨_,rfl⟩
 obtain⟨W0,hW0⟩: ∃W,((w.alloc (.cells (fq A1 A2 A3 A4 c1 c2 c3 c4 f) 28)).alloc (.cells bP 48))=W:=⟨_,rfl⟩
 have kf:=heap_alloc2_old w (.cells (fq A1 A2 A3 A4 c1 c2 c3 c4 f) 28) (.cells bP 48)
 have kr:=heap_alloc2_new w (.cells (fq A1 A2 A3 A4 c1 c2 c3 c4 f) 28) (.cells bP 48)
 have hall:Below w.heap.size w W0:=by rw[<-hW0];exact((Below.refl _ w).alloc (Nat.le_refl _) _).alloc (by simp) _
 rw[hW0]at kf kr
 have lf:=ak kf underlying28 rfl av
 have hck:=mI A1 A2 A3 A4 c1 c2 c3 c4 f F W0 (Lib.hid Wu) (hf.up hall) hm hc
 have Sn:=Lib.hid Wu
 clear Wu
 go_enter func32,ntmps32
 go_wp2_with fail
 refine hck.mono ?_
 clear hck
 rintro e W1 ⟨rfl,hx⟩
 have kf:=kE hx kf
 have kr:=kE hx kr
 have hall:=hall.trans (hx.mono hall.size)
 clear hx
 clear lf hW0
 by_cases UQ:F=0
 case neg=>
  have HV:Hid (Pl.bJ f s year=.error F):=Lib.hid (by unfold Pl.bJ;rw[Sn.out,if_pos UQ])
  have hne:(F !=0)=true:=by simpa using UQ
  clear UQ
  obtain⟨W9,lN,fA,fB⟩:=aG _ (w.heap.size+1) 48 48 bP bP kr aj rfl (by simp[Value.oneCell'])
  have l9:=ak fA underlying48 rfl aj
  have fC:=hall.grown fB hall.size (fun j e=>by cases e;omega)
  go_wp2_with fail
  refine bodyPost_ret (v:=.tuple #[.agg bP,.int .i64 F]) (by simp[results,results32,go_sem,l9]) rfl ?_
  exact jC.no F HV.out fC rfl
 subst UQ
 have hy0:=bW year 1 3000 W1
 obtain⟨Y,hY⟩: ∃Y,Pl.bQ year 1 3000=Y:=⟨_,rfl⟩
 rw[hY]at hy0
 have hyi:Y=true↔1<=year∧year<=3000:=by rw[<-hY];unfold Pl.bQ;simp
 clear hY
 go_wp2_with fail
 refine hy0.mono ?_
 clear hy0
 rintro e w' ⟨rfl,rfl⟩
 cases Y with
 | false=>
  have HV:Hid (Pl.bJ f s year=.error 1):=Lib.hid (by
   have hn: ¬(1<=year∧year<=3000):=fun h=>by have:=hyi.2 h;cases this
   unfold Pl.bJ;rw[Sn.out,if_neg (by decide),if_pos hn])
  clear hyi
  obtain⟨W9,lN,fA,fB⟩:=aG _ (w.heap.size+1) 48 48 bP bP kr aj rfl (by simp[Value.oneCell'])
  have l9:=ak fA underlying48 rfl aj
  have fC:=hall.grown fB hall.size (fun j e=>by cases e;omega)
  go_wp2_with fail
  refine bodyPost_ret (v:=.tuple #[.agg bP,.int .i64 1]) (by simp[results,results32,go_sem,l9]) rfl ?_
  exact jC.no 1 HV.out fC rfl
 | true=>
  have HY:=Lib.hid (hyi.1 rfl)
  clear hyi
  go_wp2_with fail
  refine(M0 s _ (by omega)).mono ?_
  rintro e W2 ⟨Aw,cw,rfl,PX,hcw,_,hx⟩
  have kf:=kE hx kf
  have kr:=kE hx kr
  have hall:=hall.trans (hx.mono hall.size)
  clear hx
  have XJ:Pl.tot (Pl.aW s)<=100000:=by have:=Pl.Kg s;omega
  obtain⟨ws,hws⟩: ∃ws,Pl.aW s=ws:=⟨_,rfl⟩
  have XK:=Lib.hid hws
  rw[hws]at PX hcw XJ ⊢
  clear hws
  obtain⟨b,off,Nl,hfo⟩:=Nn Aw cw ws W2 PX hcw XJ
  have ZE:=Lib.hid Nl
  clear Nl
  obtain⟨o,ho⟩: ∃o,Pl.aX ws=o:=⟨_,rfl⟩
  have HO:=Lib.hid ho
  rw[ho]at hfo
  clear ho
  go_wp2_with fail
  refine hfo.mono ?_
  clear hfo
  rintro e W3 ⟨X,rfl,hX,hX1,XL,hx⟩
  have PX:=PX.up hx
  have kf:=kE hx kf
  have kr:=kE hx kr
  have hall:=hall.trans (hx.mono hall.size)
  clear hx
  have WV:=lO kr
  have kn:=heap_alloc_new W3 (.cells #[.int .u8 0,.int .i64 0,.int .i64 0,.int .i64 0,.int .i64 0,.int .i64 0,.int .i64 0,.int .i64 0,.int .i64 0,.int .i64 0,.int .i64 0,.int .i64 0,.int .i64 0,.slice none 0 0,.slice none 0 0] 141)
  obtain⟨W4,Ro,k4,hg4⟩:=aG (W3.alloc (.cells #[.int .u8 0,.int .i64 0,.int .i64 0,.int .i64 0,.int .i64 0,.int .i64 0,.int .i64 0,.int .i64 0,.int .i64 0,.int .i64 0,.int .i64 0,.int .i64 0,.int .i64 0,.slice none 0 0,.slice none 0 0] 141)) W3.heap.size 141 141 #[.int .u8 0,.int .i64 0,.int .i64 0,.int .i64 0,.int .i64 0,.int .i64 0,.int .i64 0,.int .i64 0,.int .i64 0,.int .i64 0,.int .i64 0,.int .i64 0,.int .i64 0,.slice none 0 0,.slice none 0 0] X kn (by rw[hX];exact aA) (by rw[hX];rfl) hX1
  have hx:Below W3.heap.size W3 W4:=((Below.refl _ W3).alloc (Nat.le_refl _) _).grown hg4 (by simp) (fun j e=>by cases e;exact Nat.le_refl _)
  have PX:=PX.up hx
  have kf:=kE hx kf
  have kr:=kE hx kr
  have hall:=hall.trans (hx.mono hall.size)
  clear hx
  clear hg4 kn
  cases o with
  | none=>
   have HV:Hid (Pl.bJ f s year=.error 4):=Lib.hid (by
    unfold Pl.bJ;rw[Sn.out,if_neg (by decide),if_neg (fun h=>h HY.out)]
    by_cases hn:(10:UInt8)∈s.data.toList
    ·rw[if_pos hn]
    ·rw[if_neg hn,<-Pl.Ai (Pl.uZ hn),XK.out,HO.out])
   dsimp only[Option.isSome]
   obtain⟨W9,lN,fA,fB⟩:=aG _ (w.heap.size+1) 48 48 bP bP kr aj rfl (by simp[Value.oneCell'])
   have l9:=ak fA underlying48 rfl aj
   have fC:=hall.grown fB hall.size (fun j e=>by cases e;omega)
   go_wp2_with fail
   refine bodyPost_ret (v:=.tuple #[.agg bP,.int .i64 4]) (by simp[results,results32,go_sem,l9]) rfl ?_
   exact jC.no 4 HV.out fC rfl
  | some x=>
   have ZF:=Lib.hid (XL x rfl)
   clear XL
   dsimp only[Option.isSome]
   go_wp2_with fail
   refine(M5 s _ (by omega)).mono ?_
   rintro e W5 ⟨Al,cl,rfl,_,_,_,hx⟩
   have k4:=kE hx k4
   have PX:=PX.up hx
   have kf:=kE hx kf
   have kr:=kE hx kr
   have hall:=hall.trans (hx.mono hall.size)
   clear hx
   by_cases hn:1<(Pl.iA s).length
   ·have HV:Hid (Pl.bJ f s year=.error 4):=Lib.hid (by
     unfold Pl.bJ;rw[Sn.out,if_neg (by decide),if_neg (fun h=>h HY.out),if_pos ((Pl.yJ s).1 hn)])
    have g1:((Pl.iA s).length:Int)>1:=by omega
    have g2:(1:Int)<((Pl.iA s).length:Int):=by omega
    clear hn
    obtain⟨W9,lN,fA,fB⟩:=aG _ (w.heap.size+1) 48 48 bP bP kr aj rfl (by simp[Value.oneCell'])
    have l9:=ak fA underlying48 rfl aj
    have fC:=hall.grown fB hall.size (fun j e=>by cases e;omega)
    go_wp2_with fail
    refine bodyPost_ret (v:=.tuple #[.agg bP,.int .i64 4]) (by simp[results,results32,go_sem,l9]) rfl ?_
    exact jC.no 4 HV.out fC rfl
   ·have HV:Hid (Pl.bJ f s year=Pl.jF f x year):=Lib.hid (by
     have hn': ¬(10:UInt8)∈s.data.toList:=fun h=>hn ((Pl.yJ s).2 h)
     unfold Pl.bJ;rw[Sn.out,if_neg (by decide),if_neg (fun h=>h HY.out),if_neg hn',<-Pl.Ai (Pl.uZ hn'),XK.out,HO.out])
    have g1: ¬((Pl.iA s).length:Int)>1:=by omega
    have g2: ¬(1:Int)<((Pl.iA s).length:Int):=by omega
    clear hn
    have h4:4<=ws.length:=by
     have h:=HO.out
     unfold Pl.aX at h
     split at h
     ·cases h
     ·omega
    obtain rfl:=ZE.out h4
    have hrs:=E9 A1 A2 A3 A4 c1 c2 c3 c4 f x ws b off cw year W5 (hf.up hall) hm hc Sn.out HO.out PX
    rw[<-ZF.out]at hrs
    have lf:=ak kf underlying28 rfl av
    have lx:=ak k4 underlying141 rfl (by rw[hX];exact aA)
    go_wp2_with fail
    refine hrs.mono ?_
    clear hrs lf lx
    rintro e W6 hE
    obtain⟨hx,hE2⟩:=hE
    have kf:=kE hx kf
    have kr:=kE hx kr
    have hall:=hall.trans (hx.mono hall.size)
    clear hx
    cases hmd:Pl.jF f x year with
    |error E=>
     rw[hmd]at hE2
     obtain rfl:e=.returned (.tuple #[.agg mH,.int .i64 E]):=hE2
     obtain⟨W9,lN,fA,fB⟩:=aG _ (w.heap.size+1) 48 48 bP mH kr aj rfl (by simp[mH,Value.oneCell'])
     have l9:=ak fA underlying48 rfl aj
     have fC:=hall.grown fB hall.size (fun j e=>by cases e;omega)
     go_wp2_with fail
     refine bodyPost_ret (v:=.tuple #[.agg mH,.int .i64 E]) (by simp[results,results32,go_sem,l9]) rfl ?_
     exact jC.no E (by rw[HV.out,hmd]) fC rfl
    |ok c=>
     rw[hmd]at hE2
     obtain rfl:e=.returned (.tuple #[.agg (kq c),.int .i64 0]):=hE2
     obtain⟨W9,lN,fA,fB⟩:=aG _ (w.heap.size+1) 48 48 bP (kq c) kr aj rfl (by simp[Value.oneCell'])
     have l9:=ak fA underlying48 rfl aj
     have fC:=hall.grown fB hall.size (fun j e=>by cases e;omega)
     go_wp2_with fail
     refine bodyPost_ret (v:=.tuple #[.agg (kq c),.int .i64 0]) (by simp[results,results32,go_sem,l9]) rfl ?_
     exact jC.ok c (by rw[HV.out,hmd]) fC rfl
