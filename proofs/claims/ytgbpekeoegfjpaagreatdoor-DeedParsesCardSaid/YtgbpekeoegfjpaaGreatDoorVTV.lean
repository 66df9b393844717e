/- Proved: parts of the walk. -/
import Derived.Test.YtgbpekeoegfjpaaGreatDoorVPlX
import Derived.Test.YtgbpekeoegfjpaaGreatDoorVTK3
import Derived.Test.YtgbpekeoegfjpaaGreatDoorVTB
import Derived.Test.YtgbpekeoegfjpaaGreatDoorVTH
set_option maxRecDepth 100000
set_option maxHeartbeats 16000000
namespace Go.Proofs
open Tryz RowKit
theorem Np {α β:Type}(g:α->β)(p:β->Bool)(l:List α):Pl.idx p (l.map g)=Pl.idx (fun x=>p (g x)) l:=by
 induction l with
 |nil=>rfl
 |cons a l ih=>simp only[List.map_cons,Pl.idx];rw[ih]
theorem Ct {o:Option Nat}:Pl.pos o<0↔o=none:=by
 cases o with
 |none=>exact⟨fun _=>rfl,fun _=>by show(-1:Int)<0;omega⟩
 |some i=>exact⟨fun h=>by exfalso;have:(i:Int)<0:=h;omega,fun h=>by cases h⟩
theorem E9 (A1 A2 A3 A4:Option Addr)(c1 c2 c3 c4:Nat)(f:Pl.aL)(x:Pl.kZ)(l:List ByteArray)(b off c0:Nat)(year:Int)(w:World)(hf:bB w w.heap.size A1 A2 A3 A4 f)(hm:Small f)(hc:dY c1 c2 c3 c4 f)(hF:Pl.aR f=0)(hx:Pl.aX l=some x)(hl:d9 w w.heap.size (some ⟨b,off,none⟩) l):
  Calls prog 104 #[.agg (fq A1 A2 A3 A4 c1 c2 c3 c4 f),.agg (XI x.kind (if x.kind=2∨x.kind=4 then 2 else 1) (if x.kind≠1∧x.kind≠2 then 2 else 1) b off c0 x.size x.er x.aB),.int .i64 year] w (jC (Pl.jF f x year) w):=by
 obtain⟨hk,hlen,e1,e3,e2,e4,e5⟩:=Pl.EA hx
 have ZC:Pl.qY x.kind=1∨Pl.qY x.kind=2:=by unfold Pl.qY;split<;>simp
 have Vj:Pl.Fh x.kind=1∨Pl.Fh x.kind=2:=by unfold Pl.Fh;split<;>simp
 have u: ∀k,k<l.length-> ∀W,Below w.heap.size w W->W.cell? ⟨b,off+k,none⟩=some (.string (Pl.wd l k)):=fun k h W hW=>by
  obtain⟨b',off',hA,_,hu⟩:=d9.gY (hl.up hW) h
  obtain⟨rfl,rfl⟩:b=b'∧off=off':=by simpa using hA
  have:Pl.wd l k=l[k]:=by unfold Pl.wd;rw[List.getElem?_eq_getElem h];rfl
  rw[this];exact hu
 have hsn:f.sn.length=f.st.length:=by unfold Pl.aL.sn;simp
 have hst:=hm.st
 have YQ:=hm.li
 have pl: ∀n W,Below w.heap.size w W->Calls prog 115 #[.slice A2 f.li.length c2,.string n] W fun e w'=>e=.returned (.int .i64 (Pl.pos (Pl.eX f n)))∧W=w':=fun n W hW=>nC A2 c2 f.li n W (hf.li.up hW) (by omega)
 have ps: ∀n W B d,d9 W W.heap.size B f.sn->Calls prog 115 #[.slice B f.sn.length d,.string n] W fun e w'=>e=.returned (.int .i64 (Pl.pos (Pl.dW f n)))∧W=w':=fun n W B d hN=>by
  have:=nC B d f.sn n W hN (by omega)
  rw[show Pl.idx (fun x=>decide (x=n)) f.sn=Pl.dW f n from Np Prod.fst (fun x=>decide (x=n)) f.st]at this
  exact this
 have pn:=fun W (hW:Below w.heap.size w W)=>Ef A1 A2 A3 A4 c1 c2 c3 c4 f W (hf.up hW) hm
 obtain⟨oo,Ul⟩: ∃o,(if x.kind=2∨x.kind=4 then Pl.eX f x.bL else some 0)=o:=⟨_,rfl⟩
 obtain⟨ot,hot⟩: ∃o,(if x.kind=3∨x.kind=4∨x.kind=5 then Pl.dW f x.till else some 0)=o:=⟨_,rfl⟩
 obtain⟨oi,hoi⟩: ∃o,Pl.eX f x.lim=o:=⟨_,rfl⟩
 obtain⟨oj,hoj⟩: ∃o,Pl.dW f x.fr=o:=⟨_,rfl⟩
 have Qm:Pl.looked f x year=oi.bind fun l=>oo.bind fun o=>oj.bind fun s=>(ot.bind fun t=>some (t:Int)).map fun t=>⟨x.kind,l,o,s,t,x.size,x.er,if x.kind=3 then {x.aB with y:=year} else Pl.bF.zero⟩:=by
  unfold Pl.looked;rw[hoi,Ul,hoj,hot];rfl
 obtain⟨yf,UO⟩: ∃y,(if x.kind=3 then year else x.aB.y)=y:=⟨_,rfl⟩
 have hnl:(Pl.qY x.kind=1∧Pl.pos oo=0)∨(Pl.qY x.kind=2∧(∀W,Below w.heap.size w W->W.cell? ⟨b,off+1+1,none⟩=some (.string (Pl.wd l 2)))∧(∀W,Below w.heap.size w W->Calls prog 115 #[.slice A2 f.li.length c2,.string (Pl.wd l 2)] W fun e w'=>e=.returned (.int .i64 (Pl.pos oo))∧W=w')):=by
  by_cases h2:x.kind=2∨x.kind=4
  ·have hn2:Pl.qY x.kind=2:=if_pos h2
   rw[if_pos h2]at Ul
   refine .inr ⟨hn2,fun W hW=> ?_,fun W hW=> ?_⟩
   ·exact u 2 (by omega) W hW
   ·have:=pl (Pl.wd l 2) W hW
    rw[<-e3 hn2,Ul]at this
    rw[<-e3 hn2]
    exact this
  ·rw[if_neg h2]at Ul
   exact .inl ⟨if_neg h2,by rw[<-Ul];rfl⟩
 have hns:(Pl.Fh x.kind=1∧Pl.pos ot=0)∨(Pl.Fh x.kind=2∧(∀W,Below w.heap.size w W->W.cell? ⟨b,off+(1+Pl.qY x.kind)+1,none⟩=some (.string (Pl.wd l (2+Pl.qY x.kind))))∧(∀W B d,d9 W W.heap.size B f.sn->Calls prog 115 #[.slice B f.sn.length d,.string (Pl.wd l (2+Pl.qY x.kind))] W fun e w'=>e=.returned (.int .i64 (Pl.pos ot))∧W=w')):=by
  by_cases h2:x.kind≠1∧x.kind≠2
  ·have hn2:Pl.Fh x.kind=2:=if_pos h2
   rw[if_pos (by omega)]at hot
   refine .inr ⟨hn2,fun W hW=> ?_,fun W B d hN=> ?_⟩
   ·have:=u (2+Pl.qY x.kind) (by omega) W hW
    rw[show off+(1+Pl.qY x.kind)+1=off+(2+Pl.qY x.kind) by omega]
    exact this
   ·have:=ps (Pl.wd l (2+Pl.qY x.kind)) W B d hN
    rw[<-e4 hn2,hot]at this
    rw[<-e4 hn2]
    exact this
  ·rw[if_neg (by omega)]at hot
   exact .inl ⟨if_neg h2,by rw[<-hot];rfl⟩
 have hkk:(x.kind=3∧yf=year)∨(x.kind≠3∧yf=x.aB.y):=by
  by_cases h3:x.kind=3
  ·rw[if_pos h3]at UO;exact .inl ⟨h3,UO.symm⟩
  ·rw[if_neg h3]at UO;exact .inr ⟨h3,UO.symm⟩
 have u1:=u 1 (by omega)
 have u2:=u (1+Pl.qY x.kind) (by omega)
 have q1:=fun W hW=>pl (Pl.wd l 1) W hW
 have q2:=fun W B d hN=>ps (Pl.wd l (1+Pl.qY x.kind)) W B d hN
 rw[<-e1,hoi]at q1
 rw[<-e2,hoj]at q2
 rw[<-e1]at u1
 rw[<-e2]at u2
 have go:=fun E R D hR=>RN A1 A2 A3 A4 c1 c2 c3 c4 f x.kind (Pl.qY x.kind) (Pl.Fh x.kind) b (off+1) (c0-1) b (off+(1+Pl.qY x.kind)) (c0-(1+Pl.qY x.kind)) x.size x.er year yf x.aB x.lim x.fr (Pl.wd l 2) (Pl.wd l (2+Pl.qY x.kind)) (Pl.pos oi) (Pl.pos oj) (Pl.pos oo) (Pl.pos ot) E w u1 u2 q1 pn q2 hnl hns hkk R D hR
 by_cases jG:oi=none∨oj=none∨oo=none∨ot=none
 ·have E_:Pl.jF f x year=.error 5:=by
   unfold Pl.jF
   rw[Qm]
   rcases jG with rfl|rfl|rfl|rfl
   ·rfl
   ·cases oi<;>cases oo<;>rfl
   ·cases oi<;>rfl
   ·cases oi<;>cases oo<;>cases oj<;>rfl
  refine(go 0 _ 5 (.inl ⟨?_,rfl,rfl⟩)).mono ?_
  ·rcases jG with h|h|h|h
   ·exact .inl (Ct.2 h)
   ·exact .inr (.inl (Ct.2 h))
   ·exact .inr (.inr (.inl (Ct.2 h)))
   ·exact .inr (.inr (.inr (Ct.2 h)))
  ·rintro e w' ⟨rfl,hb⟩
   exact jC.no 5 E_ hb rfl
 ·obtain⟨i,rfl⟩: ∃i,oi=some i:=by cases oi with|none=>exact absurd (.inl rfl) jG|some i=>exact⟨i,rfl⟩
  obtain⟨j,rfl⟩: ∃i,oj=some i:=by cases oj with|none=>exact absurd (.inr (.inl rfl)) jG|some i=>exact⟨i,rfl⟩
  obtain⟨o,rfl⟩: ∃i,oo=some i:=by cases oo with|none=>exact absurd (.inr (.inr (.inl rfl))) jG|some i=>exact⟨i,rfl⟩
  obtain⟨t,rfl⟩: ∃i,ot=some i:=by cases ot with|none=>exact absurd (.inr (.inr (.inr rfl))) jG|some i=>exact⟨i,rfl⟩
  obtain⟨c,hcd⟩: ∃c:Pl.aZ,(⟨x.kind,i,o,j,t,x.size,x.er,if x.kind=3 then {x.aB with y:=year} else Pl.bF.zero⟩:Pl.aZ)=c:=⟨_,rfl⟩
  have hl2:Pl.looked f x year=some c:=by rw[Qm,<-hcd];rfl
  have hfin:((bR x.kind (Pl.pos (some i)) (Pl.pos (some o)) (Pl.pos (some j)) (Pl.pos (some t)) x.size x.er x.aB.b x.aB.n x.aB.l yf x.aB.x x.aB.s):Array Value)=(kq c):=by
   subst hcd
   rcases hkk with ⟨h3,rfl⟩|⟨h3,rfl⟩
   ·simp only[if_pos h3];rfl
   ·have:=e5 h3
    simp only[if_neg h3,this];rfl
  have npos: ∀m:Nat,¬Pl.pos (some m)<0:=fun m h=>by have h:(m:Int)<0:=h;omega
  obtain⟨E,hE⟩: ∃E,Pl.fP f c=E:=⟨_,rfl⟩
  have pc: ∀W,Below w.heap.size w W->Calls prog 129 #[.agg (fq A1 A2 A3 A4 c1 c2 c3 c4 f),.agg (kq c)] W fun e w'=>e=.returned (.int .i64 E)∧Below W.heap.size W w':=fun W hW=>sP A1 A2 A3 A4 c1 c2 c3 c4 f c E W (Lib.hid hE) (hf.up hW) hm hc hF
  by_cases hE0:E=0
  ·have E_:Pl.jF f x year=.ok c:=by unfold Pl.jF;rw[hl2];simp only;rw[if_pos (by rw[hE];exact hE0)]
   refine(go E _ 0 (.inr ⟨⟨npos i,npos j,npos o,npos t,by rw[hfin];exact pc⟩,.inr ⟨hE0,rfl,rfl⟩⟩)).mono ?_
   rintro e w' ⟨rfl,hb⟩
   exact jC.ok c E_ hb (by rw[hfin])
  ·have E_:Pl.jF f x year=.error E:=by unfold Pl.jF;rw[hl2];simp only;rw[hE,if_neg hE0]
   refine(go E _ E (.inr ⟨⟨npos i,npos j,npos o,npos t,by rw[hfin];exact pc⟩,.inl ⟨hE0,rfl,rfl⟩⟩)).mono ?_
   rintro e w' ⟨rfl,hb⟩
   exact jC.no E E_ hb rfl
open Tryz RowKit Go.Deep
attribute [-go_sem] Builtin.append_
theorem aAt {α:Type}{enc:α->List Value}{size:Nat}(hs: ∀x,(enc x).length=size){w:World}{b B:Nat}{t:TypeId}{cs:Array Value}{l:List α}(hb:b<B)(hg:w.heap[b]?=some (.cells cs t (0,0)))(hcs:cs.toList=l.flatMap enc):Seg enc size w B (some ⟨b,0,none⟩) l:=
 .inr ⟨b,0,rfl,hb,fun k x hx j v hv=>by
  rw[(ah hg).1,<-Array.getElem?_toList,hcs,Nat.zero_add]
  exact A9 enc size hs hx hv⟩
section
variable {α : Type} {enc : α -> List Value} {ST ET : TypeId} {z : Value} {size bytes : Nat}
theorem aAf {W:World}{g n₀:Nat}(hg:W.heap[g]?=some (.cells #[] ET (0,0)))(hn:n₀<=g):W.ownsRow n₀ ET size (.slice (some ⟨g,0,none⟩) 0 0) 0 (([]:List α).flatMap enc):=
 ⟨by simp,.inr ⟨g,0,#[],rfl,hn,hg,Nat.le_refl _,by unfold maxLen;omega,by simp,by simp⟩⟩
theorem aAU (L:Lay enc ST ET z size bytes)(W:World):(Instr.buildSlice ST 0 #[]).run prog W=.ok (.slice (some ⟨W.heap.size,0,none⟩) 0 0) (W.alloc (.cells #[] ET)):=by
 obtain⟨i0,hi0,hz0,hz1,hz2⟩:=info_parts L.hi
 simp[Instr.buildSlice,run_underlying L.ht,sizeOf,typeInfo,hi0,Instr.fill,newRow]
 rw[show Array.map (fun _=>(default:Value)) (Array.range 0)= #[] from Array.eq_empty_of_size_eq_zero (by simp)]
theorem tH (L:Lay enc ST ET z size bytes){n₀ k:Nat}{w1:World}{g c0:Nat}{l:List α}(hr:w1.ownsRow n₀ ET size (.slice (some ⟨g,0,none⟩) k c0) k (l.flatMap enc))(A:Option Addr)(c:Nat)(r:List α)(hs:Seg enc size w1 w1.heap.size A r)
  (h63:k+r.length<=200000) (hb:bytes<=100000) (hn:n₀<=w1.heap.size):
  ∃g' c' w2,(Builtin.append_ #[ST,ST] ST #[.slice (some ⟨g,0,none⟩) k c0,.slice A r.length c]).run prog w1=.ok (.slice (some ⟨g',0,none⟩) (k+r.length) c') w2∧w2.ownsRow n₀ ET size (.slice (some ⟨g',0,none⟩) (k+r.length) c') (k+r.length) ((l++r).flatMap enc)∧w1.grownBy w2 (some g):=by
 obtain⟨i0,hi0,hz0,hz1,hz2⟩:=info_parts L.hi
 have hmul:(k+r.length)*bytes<=140737488355328:=Nat.le_trans (Nat.mul_le_mul h63 hb) (by decide)
 cases A with
 | none=>
  obtain rfl:r=[]:=by
   rcases hs with h|⟨b,off,h,_⟩
   ·exact h
   ·cases h
  refine⟨g,c0,w1,?_,by simpa using hr,World.grownBy.refl _ _⟩
  have hsrc:Src prog i0.size ST (.slice none 0 c) 0 [] w1:=Src.ofNil w1 L.ht c
  rcases hr.2 with ⟨h,_⟩|⟨g',cap,cur,h,_,_,hle,_⟩
  ·cases h
  ·cases h
   exact run_append_nothing w1 ST ST ST ET i0 L.ht hi0 (some ⟨g,0,none⟩) k c0 hle _ hsrc
 | some a=>
  have hcell: ∀j u,(r.flatMap enc)[j]?=some u->w1.cell? (a.add j)=some u:=by
   intro j u hj
   rcases hs with h|⟨b,off,h,hlt,hc⟩
   ·subst h;simp at hj
   ·obtain⟨k',x,m,h1,h2,rfl⟩:=Mf enc size L.hs L.henc hj
    cases h
    rw[Go.WideShapes.add_plain,<-Nat.add_assoc]
    exact hc k' x h1 m u h2
  have hone: ∀u∈r.flatMap enc,u.oneCell'=true:=by
   intro u hu
   obtain⟨x,_,hx⟩:=List.mem_flatMap.1 hu
   exact L.hone x u hx
  obtain⟨v',w2,hrun,hown,hgrow,hnil,_⟩:=run_append_own_at (P:=prog) (w:=w1) n₀ ST ST ET i0 _ size bytes L.ht hi0 hz0 hz1 hz2 L.hz L.hs _ k (l.flatMap enc) hr a r.length c (r.flatMap enc)
   (by rw[oL enc size L.henc]) hcell hone (by unfold maxLen;omega) hmul hn
  rcases hown.2 with ⟨h,_⟩|⟨g',cap',cur,rfl,_⟩
  ·cases (hnil.1 h).1
  ·exact⟨g',cap',w2,hrun,by rw[List.flatMap_append];exact hown,hgrow⟩
structure aAC (enc:α->List Value)(size:Nat)(W Wb:World)(l:List α)(g c:Nat):Prop where
 seg:Seg enc size Wb Wb.heap.size (some ⟨g,0,none⟩) l
 cap:l.length<=c
 all:Below W.heap.size W Wb
 new:W.heap.size<=g
theorem aAv (L:Lay enc ST ET z size bytes){W Wb:World}{l:List α}{x:α}{g c:Nat}(h:Wb.ownsRow W.heap.size ET size (.slice (some ⟨g,0,none⟩) (l.length+1) c) (l.length+1) ((l++[x]).flatMap enc))(hb:Below W.heap.size W Wb):aAC enc size W Wb (l++[x]) g c:=by
 rw[show l.length+1=(l++[x]).length by simp]at h
 obtain⟨A',c',hv,hS,hc,hF⟩:=dQ L h
 cases hv
 exact⟨hS,hc,hb,hF _ rfl⟩
section
variable {W : World} {A : Option Addr} {c : Nat} {l : List α} {x : α} {cs : Array Value}
theorem aB0 (L:Lay enc ST ET z size bytes)(hs:Seg enc size W W.heap.size A l)(hl:l.length<=100000)(hb:bytes<=100000)(hcs:cs.toList=enc x):
  ∃g1 c1 Wa g2 c2 Wb,(Builtin.append_ #[ST,ST] ST #[.slice (some ⟨W.heap.size,0,none⟩) 0 0,.slice A l.length c]).run prog (W.alloc (.cells #[] ET))=.ok (.slice (some ⟨g1,0,none⟩) l.length c1) Wa∧
   (Builtin.append_ #[ST,ST] ST #[.slice (some ⟨g1,0,none⟩) l.length c1,.slice (some ⟨Wa.heap.size,0,none⟩) 1 1]).run prog (Wa.alloc (.cells cs ET))=.ok (.slice (some ⟨g2,0,none⟩) (l.length+1) c2) Wb∧
   Below W.heap.size W Wa∧aAC enc size W Wb (l++[x]) g2 c2:=by
 have kg:=heap_alloc_new W (.cells (#[]:Array Value) ET)
 have hb0:Below W.heap.size W (W.alloc (.cells #[] ET)):=(Below.refl _ W).alloc (Nat.le_refl _) _
 obtain⟨g1,c1,Wa,r1,o1,gr1⟩:=tH L (aAf kg (Nat.le_refl _)) A c l (hs.up hb0) (by omega) hb hb0.size
 simp only[Nat.zero_add,List.nil_append]at r1 o1
 have hba:Below W.heap.size W Wa:=hb0.grown gr1 hb0.size (fun j e=>by cases e;exact Nat.le_refl _)
 have kx:=heap_alloc_new Wa (.cells cs ET)
 have sx:Seg enc size (Wa.alloc (.cells cs ET)) (Wa.alloc (.cells cs ET)).heap.size (some ⟨Wa.heap.size,0,none⟩) [x]:=aAt L.henc (by simp) kx (by simp[hcs])
 have hbx:Below W.heap.size W (Wa.alloc (.cells cs ET)):=hba.alloc hba.size _
 obtain⟨g2,c2,Wb,r2,o2,gr2⟩:=tH L (o1.alloc (.cells cs ET)) _ 1 [x] sx (by simp;omega) hb hbx.size
 have hg1:=(o1.lt g1 rfl).1
 exact⟨g1,c1,Wa,g2,c2,Wb,r1,r2,hba,aAv L o2 (hbx.grown gr2 hbx.size (fun j e=>by cases e;exact hg1))⟩
theorem aB1 (L:Lay enc ST ET z size bytes)(hs:Seg enc size W W.heap.size A l)(hl:l.length<=100000)(hb:bytes<=100000)(hcs:cs.toList=enc x):
  ∃g1 c1 Wa g2 c2 Wb,(Builtin.append_ #[ST,ST] ST #[.slice (some ⟨W.heap.size,0,none⟩) 0 0,.slice A l.length c]).run prog ((W.alloc (.cells #[] ET)).alloc (.cells cs ET))=.ok (.slice (some ⟨g1,0,none⟩) l.length c1) Wa∧
   (Builtin.append_ #[ST,ST] ST #[.slice (some ⟨g1,0,none⟩) l.length c1,.slice (some ⟨W.heap.size+1,0,none⟩) 1 1]).run prog Wa=.ok (.slice (some ⟨g2,0,none⟩) (l.length+1) c2) Wb∧
   Below W.heap.size W Wa∧aAC enc size W Wb (l++[x]) g2 c2:=by
 have kg0:=heap_alloc_new W (.cells (#[]:Array Value) ET)
 have kg:=(Below.heap_alloc _ (.cells cs ET) _ (lO kg0)).trans kg0
 have hb0:Below W.heap.size W ((W.alloc (.cells #[] ET)).alloc (.cells cs ET)):=((Below.refl _ W).alloc (Nat.le_refl _) _).alloc (by simp) _
 have kx:=heap_alloc_new (W.alloc (.cells (#[]:Array Value) ET)) (.cells cs ET)
 rw[World.size_alloc]at kx
 obtain⟨g1,c1,Wa,r1,o1,gr1⟩:=tH L (aAf kg (Nat.le_refl _)) A c l (hs.up hb0) (by omega) hb hb0.size
 simp only[Nat.zero_add,List.nil_append]at r1 o1
 have hba:Below W.heap.size W Wa:=hb0.grown gr1 hb0.size (fun j e=>by cases e;exact Nat.le_refl _)
 have kx2:=(gr1.block _ (lO kx) (by simp)).trans kx
 have sx:Seg enc size Wa Wa.heap.size (some ⟨W.heap.size+1,0,none⟩) [x]:=aAt L.henc (lO kx2) kx2 (by simp[hcs])
 obtain⟨g2,c2,Wb,r2,o2,gr2⟩:=tH L o1 _ 1 [x] sx (by simp;omega) hb hba.size
 have hg1:=(o1.lt g1 rfl).1
 exact⟨g1,c1,Wa,g2,c2,Wb,r1,r2,hba,aAv L o2 (hba.grown gr2 hba.size (fun j e=>by cases e;exact hg1))⟩
theorem aB2 (L:Lay enc ST ET z size bytes)(hs:Seg enc size W W.heap.size A l)(hl:l.length<=100000)(hb:bytes<=100000)(hcs:cs.toList=enc x):
  ∃g1 c1 Wa g2 c2 Wb,(Builtin.append_ #[ST,ST] ST #[.slice (some ⟨W.heap.size+1,0,none⟩) 0 0,.slice A l.length c]).run prog ((W.alloc (.cells cs ET)).alloc (.cells #[] ET))=.ok (.slice (some ⟨g1,0,none⟩) l.length c1) Wa∧
   (Builtin.append_ #[ST,ST] ST #[.slice (some ⟨g1,0,none⟩) l.length c1,.slice (some ⟨W.heap.size,0,none⟩) 1 1]).run prog Wa=.ok (.slice (some ⟨g2,0,none⟩) (l.length+1) c2) Wb∧
   Below W.heap.size W Wa∧aAC enc size W Wb (l++[x]) g2 c2:=by
 have kx0:=heap_alloc_new W (.cells cs ET)
 have kx:=(Below.heap_alloc _ (.cells (#[]:Array Value) ET) _ (lO kx0)).trans kx0
 have kg:=heap_alloc_new (W.alloc (.cells cs ET)) (.cells (#[]:Array Value) ET)
 rw[World.size_alloc]at kg
 have hb0:Below W.heap.size W ((W.alloc (.cells cs ET)).alloc (.cells #[] ET)):=((Below.refl _ W).alloc (Nat.le_refl _) _).alloc (by simp) _
 obtain⟨g1,c1,Wa,r1,o1,gr1⟩:=tH L (aAf kg (Nat.le_succ _)) A c l (hs.up hb0) (by omega) hb hb0.size
 simp only[Nat.zero_add,List.nil_append]at r1 o1
 have hba:Below W.heap.size W Wa:=hb0.grown gr1 hb0.size (fun j e=>by cases e;exact Nat.le_succ _)
 have kx2:=(gr1.block _ (lO kx) (by simp)).trans kx
 have sx:Seg enc size Wa Wa.heap.size (some ⟨W.heap.size,0,none⟩) [x]:=aAt L.henc (lO kx2) kx2 (by simp[hcs])
 obtain⟨g2,c2,Wb,r2,o2,gr2⟩:=tH L o1 _ 1 [x] sx (by simp;omega) hb hba.size
 have hg1:=(o1.lt g1 rfl).1
 exact⟨g1,c1,Wa,g2,c2,Wb,r1,r2,hba,aAv L o2 (hba.grown gr2 hba.size (fun j e=>by cases e;exact hg1))⟩
end
end
end Go.Proofs
namespace Go.Proofs
open Tryz RowKit
attribute [-go_sem] run_equalIn_agg loadVar storeVar
theorem aAD :(prog.info? 90).map (·.size)=some 4:=by kernel_rfl
theorem aBJ (n:ByteArray)(y r:Int)(W:World):(Instr.buildSlice 38 1 #[(0,.agg #[.string n,.int .i64 y,.int .i64 r,.slice none 0 0])]).run prog W=.ok (.slice (some ⟨W.heap.size,0,none⟩) 1 1) (W.alloc (.cells #[.string n,.int .i64 y,.int .i64 r,.slice none 0 0] 90)):=by go_simp
theorem aBK (c:Pl.aZ)(W:World):(Instr.buildSlice 88 1 #[(0,.agg (kq c))]).run prog W=.ok (.slice (some ⟨W.heap.size,0,none⟩) 1 1) (W.alloc (.cells (kq c) 48)):=by go_simp
theorem aC3 {t:TypeId}(h:(prog.info? t).map (·.size)=some 1)(g i:Nat){v:Value}(hv:v.cells= #[v])(w:World):(storeVar t ⟨g,i,none⟩ v).run prog w=(store ⟨g,i,none⟩ v).run prog w:=by
 obtain⟨inf,hi,hs⟩: ∃inf,prog.info? t=some inf∧inf.size=1:=by
  cases hq:prog.info? t with
  |none=>rw[hq]at h;cases h
  |some inf=>rw[hq]at h;exact⟨inf,rfl,by simpa using h⟩
 have hz:(sizeOf t).run prog w=.ok 1 w:=by
  have:=run_sizeOf (P:=prog) w hi
  rw[this,show prog.cellsOf t=inf.size by simp[Program.cellsOf,hi],hs]
 simp[storeVar,Sem.run_bind,hz,hv,storeCells,Addr.add]
theorem aA3 (g i:Nat)(A:Option Addr)(n c:Nat)(w:World):(storeVar 88 ⟨g,i,none⟩ (.slice A n c)).run prog w=(store ⟨g,i,none⟩ (.slice A n c)).run prog w:=aC3 (by kernel_rfl) g i rfl w
attribute [-go_sem] Builtin.append_ Instr.buildSlice
attribute [local go_sem] bZ bH dU aT dD yQ aA3 aBJ aBK
theorem aBS {n₀ g c:Nat}{l0:List (Pl.j6×Option Addr×Nat)}{x:Pl.j6×Option Addr×Nat}(x':Pl.j6×Option Addr×Nat){W:World}(h:W.ownsRow n₀ 90 4 (.slice (some ⟨g,0,none⟩) (l0.length+1) c) (l0.length+1) ((l0++[x]).flatMap x9)):
  ∃W',(storeVar 90 ⟨g,l0.length*4,none⟩ (.agg #[.string x'.1.name,.int .i64 x'.1.year,.int .i64 x'.1.rank,.slice x'.2.1 x'.1.calls.length x'.2.2])).run prog W=.ok () W'∧
   W'.ownsRow n₀ 90 4 (.slice (some ⟨g,0,none⟩) (l0.length+1) c) (l0.length+1) ((l0++[x']).flatMap x9)∧W.grownBy W' (some g):=by
 have BN:(Value.slice (some ⟨g,0,none⟩) (l0.length+1) c).ownBlock=some g:=rfl
 have hcell: ∀j u,(x9 x)[j]?=some u->W.cell? ⟨g,l0.length*4+j,none⟩=some u:=by
  intro j u hu
  have hf:=A9 x9 4 (fun _=>rfl) (l:=l0++[x]) (k:=l0.length) (x:=x) (by simp) hu
  have:=h.cells BN _ u hf
  rwa[Go.WideShapes.add_plain,Nat.zero_add]at this
 have aBx: ∀j,W.frozen? ⟨g,j,none⟩=false:=by
  intro j
  rcases h.2 with ⟨h2,_⟩|⟨g',cap,cur,h2,_,h4,_⟩
  ·cases h2
  ·have:g=g':=by simp at h2;exact h2.1
   subst this
   exact(ah h4).2 j
 refine⟨_,run_storeVar_mid W g (l0.length*4) 90 #[.string x'.1.name,.int .i64 x'.1.year,.int .i64 x'.1.rank,.slice x'.2.1 x'.1.calls.length x'.2.2] (fun j hj=>⟨?_,aBx _⟩) aAD (by simp[Value.oneCell']),?_,?_⟩
 ·have hj4:j<(x9 x).length:=hj
  rw[hcell j _ (List.getElem?_eq_getElem hj4)]
  rfl
 ·have h1:=aAp (aAp (aAp (aAp h BN (j:=l0.length*4) (u:=.string x'.1.name)) BN (j:=l0.length*4+1) (u:=.int .i64 x'.1.year)) BN (j:=l0.length*4+1+1) (u:=.int .i64 x'.1.rank)) BN (j:=l0.length*4+1+1+1) (u:=.slice x'.2.1 x'.1.calls.length x'.2.2)
  have e:(((((l0++[x]).flatMap x9).set (l0.length*4) (.string x'.1.name)).set (l0.length*4+1) (.int .i64 x'.1.year)).set (l0.length*4+1+1) (.int .i64 x'.1.rank)).set (l0.length*4+1+1+1) (.slice x'.2.1 x'.1.calls.length x'.2.2)=(l0++[x']).flatMap x9:=by
   have hl:=oL x9 4 (fun _=>rfl) l0
   rw[List.flatMap_append,List.flatMap_append,List.set_append_right _ _ (by omega),List.set_append_right _ _ (by omega),List.set_append_right _ _ (by omega),List.set_append_right _ _ (by omega),hl]
   rw[Nat.sub_self,Nat.add_sub_cancel_left,show l0.length*4+1+1-l0.length*4=2 by omega,show l0.length*4+1+1+1-l0.length*4=3 by omega]
   rfl
  rw[e]at h1
  exact h1
 ·have g1:=cB W g (l0.length*4) (.string x'.1.name)
  have g2:=g1.trans (cB _ g (l0.length*4+1) (.int .i64 x'.1.year))
  have g3:=g2.trans (cB _ g (l0.length*4+1+1) (.int .i64 x'.1.rank))
  exact g3.trans (cB _ g (l0.length*4+1+1+1) (.slice x'.2.1 x'.1.calls.length x'.2.2))
def Q6 (r:Except Int (List Pl.j6))(w:World)(e:Ending)(w':World):Prop:=
 Below w.heap.size w w'∧match r with
 | .ok ds=> ∃l A c,l.map (·.1)=ds∧e=.returned (.tuple #[.slice A l.length c,.int .i64 0])∧aAc w' w'.heap.size A l
 | .error E=>E≠0∧e=.returned (.tuple #[.slice none 0 0,.int .i64 E])
theorem Q6.no {r:Except Int (List Pl.j6)}{w w':World}(E:Int)(hr:r=.error E)(h0:E≠0)(hb:Below w.heap.size w w'):Q6 r w (.returned (.tuple #[.slice none 0 0,.int .i64 E])) w':=by
 subst hr;exact⟨hb,h0,rfl⟩
theorem Q6.ok {r:Except Int (List Pl.j6)}{w w':World}(l:List (Pl.j6×Option Addr×Nat))(A:Option Addr)(c n:Nat)(hn:n=l.length)(hr:r=.ok (l.map (·.1)))(hd:aAc w' w'.heap.size A l)(hb:Below w.heap.size w w'):Q6 r w (.returned (.tuple #[.slice A n c,.int .i64 0])) w':=by
 subst hr;subst hn;exact⟨hb,l,A,c,rfl,rfl,hd⟩
theorem aBr (A1 A2 A3 A4:Option Addr) (c1 c2 c3 c4:Nat) (f:Pl.aL) (A:Option Addr) (cL:Nat) (l:List (Pl.j6×Option Addr×Nat)) (Aw:Option Addr) (cw:Nat) (ws:List ByteArray) (w:World)
  (hD:aAc w w.heap.size A l) (XD:Pl.aBa (l.map (·.1)))
  (hN:d9 w w.heap.size Aw ws) (hcw:ws.length<=cw) (XJ:Pl.tot ws<=100000) (h0:0<ws.length) (hpl: ∀x∈ws,Pl.gI x.data.toList=true) (hw:ws[0]=Pl.CQ):
  Calls prog 122 #[.agg (fq A1 A2 A3 A4 c1 c2 c3 c4 f),.slice A l.length cL,.slice Aw ws.length cw] w (Q6 (Pl.dn f (l.map (·.1)) ws) w):=by
 have aB3:l.length<=60:=by simpa using XD.1
 have kf:=heap_alloc_new w (.cells (fq A1 A2 A3 A4 c1 c2 c3 c4 f) 28)
 have hb0:Below w.heap.size w (w.alloc (.cells (fq A1 A2 A3 A4 c1 c2 c3 c4 f) 28)):=(Below.refl _ w).alloc (Nat.le_refl _) _
 obtain⟨W0,hW0⟩: ∃W,w.alloc (.cells (fq A1 A2 A3 A4 c1 c2 c3 c4 f) 28)=W:=⟨_,rfl⟩
 have HSZ:=Lib.hid (show W0.heap.size=w.heap.size+1 by rw[<-hW0];simp)
 rw[hW0]at kf hb0
 have kg:=heap_alloc_new W0 (.cells (#[]:Array Value) 90)
 have hb1:Below w.heap.size w (W0.alloc (.cells #[] 90)):=hb0.alloc hb0.size _
 obtain⟨g,cg,W1,r1,o1,gr1⟩:=tH Q5 (n₀:=w.heap.size) (aAf kg (by rw[HSZ.out];omega)) A cL l (hD.row.up hb1) (by omega) (by omega) hb1.size
 simp only[Nat.zero_add,List.nil_append]at r1 o1
 have hall:Below w.heap.size w W1:=hb1.grown gr1 hb1.size (fun j e=>by cases e;rw[HSZ.out];omega)
 have kf:=(gr1.block _ (by rw[World.size_alloc,HSZ.out];omega) (by rw[HSZ.out];simp)).trans ((Below.heap_alloc _ _ _ (lO kf)).trans kf)
 have bs0:=fun W=>aAU Q5 W
 clear gr1 hb1 hb0 kg
 obtain⟨bw,ow,rfl,hbw,u0⟩:=d9.gY hN (k:=0) h0
 simp only[Nat.add_zero]at u0
 have u0:=(hall.cell (p:=⟨bw,ow,none⟩) hbw).trans u0
 rw[hw]at u0
 have hv:((Pl.CQ).toList==[100,101,101,100])=true:=by
  have e:Pl.CQ.toList=[100,101,101,100]:=by unfold Pl.CQ;rw[ByteArray.toList_eq]
  simp[e]
 have aBV:(0:Int)<(ws.length:Int):=by omega
 have HHD:Hid (ws.head?=some Pl.CQ):=Lib.hid (by rw[<-hw,List.head?_eq_getElem?,List.getElem?_eq_getElem h0])
 have aCy:(l.length:Int)<=60:=by omega
 by_cases h4:ws.length=4
 case neg=>
  have HV:Hid (Pl.dn f (l.map (·.1)) ws=.error 4):=Lib.hid (by
   unfold Pl.dn
   rw[if_pos HHD.out]
   split
   ·exact absurd rfl h4
   ·rfl)
  have n4: ¬(ws.length:Int)=4:=by omega
  have n4':((ws.length:Int) !=4)=true:=by simpa using n4
  clear h4 hw
  go_enter func122,ntmps122
  go_wp2_with fail
  go_ret2
  exact Q6.no 4 HV.out (by decide) hall
 case pos=>
  obtain⟨_,_,hA1,_,u1⟩:=d9.gY hN (k:=1) (by omega)
  cases hA1
  obtain⟨_,_,hA2,_,u2⟩:=d9.gY hN (k:=2) (by omega)
  cases hA2
  obtain⟨_,_,hA3,_,u3⟩:=d9.gY hN (k:=3) (by omega)
  cases hA3
  have s1:=Pl.gQ (List.getElem_mem (show 1<ws.length by omega))
  have s2:=Pl.gQ (List.getElem_mem (show 2<ws.length by omega))
  have s3:=Pl.gQ (List.getElem_mem (show 3<ws.length by omega))
  replace u1:=(hall.cell (p:=⟨bw,ow+1,none⟩) hbw).trans u1
  replace u2:=(hall.cell (p:=⟨bw,ow+2,none⟩) hbw).trans u2
  replace u3:=(hall.cell (p:=⟨bw,ow+3,none⟩) hbw).trans u3
  have hws:ws=[ws[0],ws[1],ws[2],ws[3]]:=by
   apply List.ext_getElem
   ·simp[h4]
   ·intro i h1 h2
    rcases(show i=0∨i=1∨i=2∨i=3 by omega)with rfl|rfl|rfl|rfl<;>rfl
  obtain⟨n,hn⟩: ∃n,ws[1]=n:=⟨_,rfl⟩
  obtain⟨y,hy⟩: ∃n,ws[2]=n:=⟨_,rfl⟩
  obtain⟨r,hr⟩: ∃n,ws[3]=n:=⟨_,rfl⟩
  rw[hn]at u1 s1 hws
  rw[hy]at u2 s2 hws
  rw[hr]at u3 s3 hws
  rw[hw]at hws
  obtain⟨oy,hoy⟩: ∃z_,Pl.bV y=z_:=⟨_,rfl⟩
  obtain⟨ob,BN⟩: ∃z_,Pl.bV r=z_:=⟨_,rfl⟩
  obtain⟨N,hNm⟩: ∃z_,Pl.isName n=z_:=⟨_,rfl⟩
  have HDL:Hid (Pl.dn f (l.map (·.1)) ws=match (if N=true then oy.bind fun y=>ob.map fun r=>(y,r)else Option.none)with
   |some (y,r)=>if 60<=(l.map (·.1)).length then .error 2 else if ¬(1<=y∧y<=3000∧0<=r∧r<=1000)then .error 1 else if (l.map (·.1)).any (fun d=>decide (d.name=n))=true then .error 6 else .ok (l.map (·.1)++[⟨n,y,r,[]⟩])
   |Option.none=> .error 4):=Lib.hid (by
    unfold Pl.dn
    rw[if_pos HHD.out,hws]
    simp only
    rw[hNm,hoy,BN]
    generalize (if N=true then (oy.bind fun y=>ob.map fun r=>(y,r))else Option.none)=z
    rcases z with _|⟨y,r⟩<;>rfl)
  have cN:=gJ n W1 (by omega)
  rw[hNm]at cN
  have cy:=jd y oy W1 (Lib.hid hoy) (by omega)
  have cr:=jd r ob W1 (Lib.hid BN) (by omega)
  have e4:(ws.length:Int)=4:=by omega
  have e4':((ws.length:Int) !=4)=false:=by simpa using e4
  have g1:(1:Int)<(ws.length:Int):=by omega
  have g2:(2:Int)<(ws.length:Int):=by omega
  have g3:(3:Int)<(ws.length:Int):=by omega
  clear hn hy hr hws hw hoy BN hNm h4 e4 hN hpl XJ s1 s2 s3
  go_enter func122,ntmps122
  go_wp2_with fail
  refine cN.mono ?_
  clear cN
  rintro e w' ⟨rfl,rfl⟩
  cases N with
  |false=>
   have HV:Hid (Pl.dn f (l.map (·.1)) ws=.error 4):=Lib.hid (by rw[HDL.out];rfl)
   go_wp2_with fail
   go_ret2
   exact Q6.no 4 HV.out (by decide) hall
  | true=>
   go_wp2_with fail
   refine cy.mono ?_
   clear cy
   rintro e w' ⟨rfl,rfl⟩
   go_wp2_with fail
   refine cr.mono ?_
   clear cr
   rintro e w' ⟨rfl,rfl⟩
   cases oy with
   |none=>
    have HV:Hid (Pl.dn f (l.map (·.1)) ws=.error 4):=Lib.hid (by rw[HDL.out];rfl)
    simp only[Option.isSome_none,Option.getD_none]
    go_wp2_with fail
    go_ret2
    exact Q6.no 4 HV.out (by decide) hall
   | some yv=>
    cases ob with
    |none=>
     have HV:Hid (Pl.dn f (l.map (·.1)) ws=.error 4):=Lib.hid (by rw[HDL.out];rfl)
     simp only[Option.isSome_some,Option.isSome_none,Option.getD_some,Option.getD_none]
     go_wp2_with fail
     go_ret2
     exact Q6.no 4 HV.out (by decide) hall
    | some rv=>
     have HDL:Hid (Pl.dn f (l.map (·.1)) ws=if 60<=(l.map (·.1)).length then .error 2 else if ¬(1<=yv∧yv<=3000∧0<=rv∧rv<=1000)then .error 1 else if (l.map (·.1)).any (fun d=>decide (d.name=n))=true then .error 6 else .ok (l.map (·.1)++[⟨n,yv,rv,[]⟩])):=Lib.hid HDL.out
     simp only[Option.isSome_some,Option.getD_some]
     by_cases h60:60<=l.length
     ·have HV:Hid (Pl.dn f (l.map (·.1)) ws=.error 2):=Lib.hid (by rw[HDL.out,if_pos (by simpa using h60)])
      have n60:(60:Int)<=(l.length:Int):=by omega
      clear h60 aCy aB3
      go_wp2_with fail
      go_ret2
      exact Q6.no 2 HV.out (by decide) hall
     ·have HDL:Hid (Pl.dn f (l.map (·.1)) ws=if ¬(1<=yv∧yv<=3000∧0<=rv∧rv<=1000)then .error 1 else if (l.map (·.1)).any (fun d=>decide (d.name=n))=true then .error 6 else .ok (l.map (·.1)++[⟨n,yv,rv,[]⟩])):=Lib.hid (by rw[HDL.out,if_neg (by simpa using h60)])
      have n60: ¬(60:Int)<=(l.length:Int):=by omega
      have wy:=bW yv 1 3000 W1
      have wr:=bW rv 0 1000 W1
      obtain⟨Y,hY⟩: ∃Y,Pl.bQ yv 1 3000=Y:=⟨_,rfl⟩
      obtain⟨R,hR⟩: ∃Y,Pl.bQ rv 0 1000=Y:=⟨_,rfl⟩
      rw[hY]at wy
      rw[hR]at wr
      have HYR:Hid ((1<=yv∧yv<=3000∧0<=rv∧rv<=1000)↔(Y=true∧R=true)):=Lib.hid (by rw[<-hY,<-hR];unfold Pl.bQ;simp;omega)
      clear h60 hY hR
      go_wp2_with fail
      refine wy.mono ?_
      clear wy
      rintro e w' ⟨rfl,rfl⟩
      cases Y with
      |false=>
       have HV:Hid (Pl.dn f (l.map (·.1)) ws=.error 1):=Lib.hid (by rw[HDL.out,if_pos (by rw[HYR.out];simp)])
       go_wp2_with fail
       go_ret2
       exact Q6.no 1 HV.out (by decide) hall
      | true=>
       go_wp2_with fail
       refine wr.mono ?_
       clear wr
       rintro e w' ⟨rfl,rfl⟩
       cases R with
       |false=>
        have HV:Hid (Pl.dn f (l.map (·.1)) ws=.error 1):=Lib.hid (by rw[HDL.out,if_pos (by rw[HYR.out];simp)])
        go_wp2_with fail
        go_ret2
        exact Q6.no 1 HV.out (by decide) hall
       | true=>
        have HDL:Hid (Pl.dn f (l.map (·.1)) ws=if (l.map (·.1)).any (fun d=>decide (d.name=n))=true then .error 6 else .ok (l.map (·.1)++[⟨n,yv,rv,[]⟩])):=Lib.hid (by rw[HDL.out,if_neg (by rw[HYR.out];simp)])
        clear HYR
        go_wp2_with fail
        have hrow:=hD.row.up hall
        go_loopw [13] (fun i wr=> ∃(m:Nat),m<=l.length∧i=.int .i64 m∧Hid (((l.take m).map (·.1)).any (fun d=>decide (d.name=n))=false)∧Below W1.heap.size W1 wr) (fun i _=>l.length-(intOf i).toNat)
        case atStart=>exact⟨0,by omega,rfl,Lib.hid (by simp),Below.refl _ _⟩
        case round=>
         obtain⟨m,hml,rfl,hno,hx⟩:=hrel
         have bY:=hall.trans (hx.mono hall.size)
         have u1:=(hx.cell (p:=⟨bw,ow+1,none⟩) (by have:=hall.size;show bw<_;omega)).trans u1
         by_cases hlt:m<l.length
         ·obtain⟨gd,od,hP,hg2,p0,_⟩:=Dds.at4 (hrow.up hx) hlt
          subst hP
          have e1:(0:Int)<=(m:Int):=by omega
          have e2:(m:Int)<(l.length:Int):=by omega
          have HTM:Hid ((l.take (m+1)).map (·.1)=(l.take m).map (·.1)++[l[m].1]):=Lib.hid (by rw[List.take_add_one,List.getElem?_eq_getElem hlt,List.map_append];rfl)
          have HM2:Hid (l[m].1∈l.map (·.1)):=Lib.hid (List.mem_map.2 ⟨l[m],List.getElem_mem hlt,rfl⟩)
          obtain⟨dm,hdm⟩: ∃d,l[m].1=d:=⟨_,rfl⟩
          rw[hdm]at p0 HTM HM2
          clear hdm
          by_cases hnn:dm.name=n
          ·have hbn:(dm.name.toList==n.toList)=true:=by rw[dF];exact decide_eq_true hnn
           have HV:Hid (Pl.dn f (l.map (·.1)) ws=.error 6):=Lib.hid (by rw[HDL.out,if_pos (List.any_eq_true.2 ⟨dm,HM2.out,by simpa using hnn⟩)])
           clear hnn
           go_wp2
           go_quiet (fail)
           all_goals go_wp2
           all_goals go_ret2
           all_goals exact Q6.no 6 HV.out (by decide) (by first|exact bY|exact bY.drew|exact below_drewN bY _)
          ·have hbn:(dm.name.toList==n.toList)=false:=by rw[dF];exact decide_eq_false hnn
           have HN3:Hid (((l.take (m+1)).map (·.1)).any (fun d=>decide (d.name=n))=false):=Lib.hid (by rw[HTM.out,List.any_append,hno.out];simpa using hnn)
           clear hnn
           go_wp2
           go_quiet (fail)
           all_goals go_wp2
           all_goals (
            go_roundw
            case rel=>exact⟨m+1,by omega,by go_num,HN3,by first|exact hx|exact hx.drew|exact below_drewN hx _⟩
            case measure=>first|(simp[intOf];done)|(simp[intOf];omega))
         ·obtain rfl:m=l.length:=by omega
          have e5: ¬(l.length:Int)<(l.length:Int):=by omega
          have HV:Hid (Pl.dn f (l.map (·.1)) ws=.ok (l.map (·.1)++[⟨n,yv,rv,[]⟩])):=Lib.hid (by have:=hno.out;rw[List.take_length]at this;rw[HDL.out,if_neg (by rw[this];simp)])
          have o2:=own_below o1 hx
          obtain⟨g9,c9,W9,r9,o9,gr9⟩:=tH Q5 (n₀:=w.heap.size) (o2.alloc (.cells #[.string n,.int .i64 yv,.int .i64 rv,.slice none 0 0] 90)) (some ⟨wr.heap.size,0,none⟩) 1 [((⟨n,yv,rv,[]⟩:Pl.j6),(none:Option Addr),0)]
           (aAt Q5.henc (by simp) (heap_alloc_new wr _) (by simp[x9,slv])) (by simp;omega) (by omega) (by simp;have:=bY.size;omega)
          have hg1:=(o2.lt g rfl).1
          have Yk:Below w.heap.size w W9:=(bY.alloc bY.size _).grown gr9 (by simp;have:=bY.size;omega) (fun j e=>by cases e;exact hg1)
          simp only[List.length_singleton]at r9 o9
          go_wp2
          go_ret2
          rw[show l.length+1=(l++[((⟨n,yv,rv,[]⟩:Pl.j6),(none:Option Addr),0)]).length by simp]at o9
          obtain⟨A',c',hv',hS,_,_⟩:=dQ Q5 o9
          cases hv'
          refine Q6.ok _ _ _ _ (by simp) (by rw[HV.out];simp) ⟨hS,fun x hx=> ?_⟩ Yk
          rcases List.mem_append.1 hx with hx|hx
          ·exact(hD.own x hx).up Yk
          ·obtain rfl:=List.mem_singleton.1 hx
           exact .inl rfl
