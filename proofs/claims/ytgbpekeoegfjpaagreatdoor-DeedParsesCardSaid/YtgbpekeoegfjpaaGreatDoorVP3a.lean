/- Proved: parts of the walk. -/
import Derived.Deep.Upon
import Derived.Shelf.Sort.Plain
import Derived.Test.YtgbpekeoegfjpaaGreatDoorVZ24
set_option maxRecDepth 100000
set_option maxHeartbeats 8000000
namespace Go.Proofs
open Tryz RowKit Go.Deep
variable (A1 A2 A3 A4 : Option Addr) (c1 c2 c3 c4 : Nat) (f : Pl.aL)
attribute [-go_sem] Builtin.append_
theorem Mf {α:Type}(enc:α->List Value)(size:Nat)(hs:0<size)(hsz: ∀x,(enc x).length=size){l:List α}{j:Nat}{u:Value}(h:(l.flatMap enc)[j]?=some u): ∃k x m,l[k]?=some x∧(enc x)[m]?=some u∧j=k*size+m:=by
 have hj:j<l.length*size:=by rw[<-oL enc size hsz];exact(List.getElem?_eq_some_iff.1 h).1
 have hk:j/size<l.length:=by rw[Nat.div_lt_iff_lt_mul hs];exact hj
 have hm:j%size<size:=Nat.mod_lt _ hs
 have he:j=j/size*size+j%size:=by have:=Nat.div_add_mod j size;rw[Nat.mul_comm];omega
 refine⟨j/size,l[j/size],j%size,List.getElem?_eq_getElem hk,?_,he⟩
 obtain⟨v,hv⟩: ∃v,(enc l[j/size])[j%size]?=some v:=⟨_,List.getElem?_eq_getElem (show j%size<(enc l[j/size]).length by rw[hsz];exact hm)⟩
 have:=A9 enc size hsz (List.getElem?_eq_getElem hk) hv
 rw[<-he,h]at this
 rw[hv,this]
section
variable {α : Type} {enc : α -> List Value} {ST ET : TypeId} {z : Value} {size bytes : Nat}
theorem Ee (L:Lay enc ST ET z size bytes){n₀ k:Nat}{w1:World}{v:Value}{l:List α}(hr:w1.ownsRow n₀ ET size v k (l.flatMap enc))(A:Option Addr)(c:Nat)(r:List α)(hs:Seg enc size w1 w1.heap.size A r)
  (h63:k+r.length<=maxLen) (hb:(k+r.length)*bytes<=140737488355328) (hn:n₀<=w1.heap.size):
  ∃v' w2,(Builtin.append_ #[ST,ST] ST #[v,.slice A r.length c]).run prog w1=.ok v' w2∧w2.ownsRow n₀ ET size v' (k+r.length) ((l++r).flatMap enc)∧Below n₀ w1 w2:=by
 obtain⟨i0,hi0,hz0,hz1,hz2⟩:=info_parts L.hi
 cases A with
 | none=>
  obtain rfl:r=[]:=by
   rcases hs with h|⟨b,off,h,_⟩
   ·exact h
   ·cases h
  refine⟨v,w1,?_,by simpa using hr,Below.refl _ _⟩
  have hsrc:Src prog i0.size ST (.slice none 0 c) 0 [] w1:=Src.ofNil w1 L.ht c
  rcases hr.2 with ⟨rfl,_⟩|⟨g,cap,cur,rfl,_,_,hle,_⟩
  ·exact run_append_nothing w1 ST ST ST ET i0 L.ht hi0 none 0 0 (Nat.le_refl _) _ hsrc
  ·exact run_append_nothing w1 ST ST ST ET i0 L.ht hi0 (some ⟨g,0,none⟩) k cap hle _ hsrc
 | some a=>
  have hcell: ∀j u,(r.flatMap enc)[j]?=some u->w1.cell? (a.add j)=some u:=by
   intro j u hj
   rcases hs with h|⟨b,off,h,hlt,hc⟩
   ·subst h;simp at hj
   ·obtain⟨k',x,m,h1,h2,rfl⟩:=Mf enc size L.hs L.henc hj
    cases h
    rw[Go.WideShapes.add_plain,<-Nat.add_assoc]
    exact hc k' x h1 m u h2
  have hone: ∀u∈r.flatMap enc,u.oneCell'=true:=by
   intro u hu
   obtain⟨x,_,hx⟩:=List.mem_flatMap.1 hu
   exact L.hone x u hx
  obtain⟨v',w2,hrun,hown,hgrow,hn2⟩:=run_append_own (P:=prog) (w:=w1) n₀ ST ST ET i0 _ size bytes L.ht hi0 hz0 hz1 hz2 L.hz L.hs v k (l.flatMap enc) hr a r.length c (r.flatMap enc)
   (by rw[oL enc size L.henc]) hcell hone h63 hb hn
  exact⟨v',w2,hrun,by rw[List.flatMap_append];exact hown,(Below.refl n₀ w1).grown hgrow hn fun j ej=>(hr.lt j ej).1⟩
end
def Pl.nms (f:Pl.aL)(k:Nat):List ByteArray:=if k=0 then f.sn else if k=1 then f.li else f.pn
theorem Ef (w:World)(hf:bB w w.heap.size A1 A2 A3 A4 f)(hm:Small f):
  Calls prog 113 #[.agg (fq A1 A2 A3 A4 c1 c2 c3 c4 f),.int .i64 0] w (nD f.sn w):=by
 have kb:=heap_alloc_new w (.cells (fq A1 A2 A3 A4 c1 c2 c3 c4 f) 28)
 have hall:Below w.heap.size w (w.alloc (.cells (fq A1 A2 A3 A4 c1 c2 c3 c4 f) 28)):=by go_grown
 have hst:=hm.st
 go_enter func113,ntmps113
 go_wp2
 go_loopw [5,6] (fun o i wr=> ∃(k:Nat),k<=f.st.length∧i=.int .i64 k∧wr.ownsRow (w.heap.size+1) 9 1 o k (((f.st.take k).map Prod.fst).flatMap fU)∧wr.heap[w.heap.size]?=some (.cells (fq A1 A2 A3 A4 c1 c2 c3 c4 f) 28 (0,0))∧Below w.heap.size w wr) (fun _ i _=>f.st.length-(intOf i).toNat)
 case atStart=>exact⟨0,by omega,rfl,World.ownsRow_nil _ _ _ _,kb,hall⟩
 case round=>
  clear kb hall
  obtain⟨k,hk,rfl,hown,kb,hall⟩:=hrel
  obtain⟨aQ,aS⟩:=ah kb
  have VH:=(lO kb)
  by_cases hlt:k<f.st.length
  ·obtain⟨b,off,rfl,mQ,q0,q1⟩:=iJ.at2 (hf.st.below hall) hlt
   obtain⟨g',cap',w2,hrun,hown2,hb2⟩:=kN gy hown [f.st[k].1] 0 rfl #[.string f.st[k].1] (by simp[fU]) (by unfold maxLen;omega) (by omega) (show w.heap.size+1<=wr.heap.size by omega)
   have jh:=(hb2.block w.heap.size (by omega)).trans kb
   go_wp2
   go_roundw
   case rel=>exact⟨k+1,by omega,by go_num,by rw[List.take_succ_eq_append_getElem hlt,List.map_append];exact hown2,jh,hall.trans (hb2.mono (by omega))⟩
   case measure=>simp[intOf];try omega
  ·obtain rfl:k=f.st.length:=by omega
   rw[List.take_length]at hown
   have hq:f.st.length=f.sn.length:=by unfold Pl.aL.sn;simp
   rw[hq]at hown
   obtain⟨A',c',hv,hN,hc,hF⟩:=dQ gy hown
   subst hv
   go_wp2
   go_ret
   exact⟨A',c',rfl,hN,hc,fun a ha=>Nat.le_of_succ_le (hF a ha),hall⟩
theorem Mg (w:World)(hf:bB w w.heap.size A1 A2 A3 A4 f)(hm:Small f):
  Calls prog 113 #[.agg (fq A1 A2 A3 A4 c1 c2 c3 c4 f),.int .i64 1] w (nD f.li w):=by
 have kb:=heap_alloc_new w (.cells (fq A1 A2 A3 A4 c1 c2 c3 c4 f) 28)
 have hall:Below w.heap.size w (w.alloc (.cells (fq A1 A2 A3 A4 c1 c2 c3 c4 f) 28)):=by go_grown
 have YQ:=hm.li
 obtain⟨W,hW⟩: ∃W,w.alloc (.cells (fq A1 A2 A3 A4 c1 c2 c3 c4 f) 28)=W:=⟨_,rfl⟩
 have hsz:W.heap.size=w.heap.size+1:=by rw[<-hW];simp
 rw[hW]at kb hall
 obtain⟨v',w2,hrun,hown,hb2⟩:=Ee gy (k:=0) (l:=([]:List ByteArray)) (World.ownsRow_nil W (w.heap.size+1) 9 1) A2 c2 f.li (hf.li.up hall) (by unfold maxLen;omega) (by omega) (by omega)
 simp only[List.nil_append,Nat.zero_add]at hown
 obtain⟨A',c',hv,hN,hc,hF⟩:=dQ gy hown
 subst hv
 obtain⟨aQ,aS⟩:=ah kb
 go_enter func113,ntmps113
 go_wp2
 go_ret
 exact⟨A',c',rfl,hN,hc,fun a ha=>Nat.le_of_succ_le (hF a ha),hall.trans (hb2.mono (by omega))⟩
theorem Mh (w:World)(hf:bB w w.heap.size A1 A2 A3 A4 f)(hm:Small f):
  Calls prog 113 #[.agg (fq A1 A2 A3 A4 c1 c2 c3 c4 f),.int .i64 2] w (nD f.pn w):=by
 have kb:=heap_alloc_new w (.cells (fq A1 A2 A3 A4 c1 c2 c3 c4 f) 28)
 have hall:Below w.heap.size w (w.alloc (.cells (fq A1 A2 A3 A4 c1 c2 c3 c4 f) 28)):=by go_grown
 have hst:=hm.pa
 go_enter func113,ntmps113
 go_wp2
 go_loopw [5,7] (fun o i wr=> ∃(k:Nat),k<=f.pa.length∧i=.int .i64 k∧wr.ownsRow (w.heap.size+1) 9 1 o k (((f.pa.take k).map Pl.oz.name).flatMap fU)∧wr.heap[w.heap.size]?=some (.cells (fq A1 A2 A3 A4 c1 c2 c3 c4 f) 28 (0,0))∧Below w.heap.size w wr) (fun _ i _=>f.pa.length-(intOf i).toNat)
 case atStart=>exact⟨0,by omega,rfl,World.ownsRow_nil _ _ _ _,kb,hall⟩
 case round=>
  clear kb hall
  obtain⟨k,hk,rfl,hown,kb,hall⟩:=hrel
  obtain⟨aQ,aS⟩:=ah kb
  have VH:=(lO kb)
  by_cases hlt:k<f.pa.length
  ·obtain⟨b,off,rfl,mQ,q0,q1,q2,q3⟩:=om.at4 (hf.pa.below hall) hlt
   obtain⟨g',cap',w2,hrun,hown2,hb2⟩:=kN gy hown [f.pa[k].name] 0 rfl #[.string f.pa[k].name] (by simp[fU]) (by unfold maxLen;omega) (by omega) (show w.heap.size+1<=wr.heap.size by omega)
   have jh:=(hb2.block w.heap.size (by omega)).trans kb
   go_wp2
   go_roundw
   case rel=>exact⟨k+1,by omega,by go_num,by rw[List.take_succ_eq_append_getElem hlt,List.map_append];exact hown2,jh,hall.trans (hb2.mono (by omega))⟩
   case measure=>simp[intOf];try omega
  ·obtain rfl:k=f.pa.length:=by omega
   rw[List.take_length]at hown
   have hq:f.pa.length=f.pn.length:=by unfold Pl.aL.pn;simp
   rw[hq]at hown
   obtain⟨A',c',hv,hN,hc,hF⟩:=dQ gy hown
   subst hv
   go_wp2
   go_ret
   exact⟨A',c',rfl,hN,hc,fun a ha=>Nat.le_of_succ_le (hF a ha),hall⟩
theorem IE (k:Nat)(hk:k<3)(w:World)(hf:bB w w.heap.size A1 A2 A3 A4 f)(hm:Small f):
  Calls prog 113 #[.agg (fq A1 A2 A3 A4 c1 c2 c3 c4 f),.int .i64 (k:Int)] w (nD (Pl.nms f k) w):=by
 match k,hk with
 |0,_=>exact Ef A1 A2 A3 A4 c1 c2 c3 c4 f w hf hm
 |1,_=>exact Mg A1 A2 A3 A4 c1 c2 c3 c4 f w hf hm
 |2,_=>exact Mh A1 A2 A3 A4 c1 c2 c3 c4 f w hf hm
end Go.Proofs
namespace Go.Proofs
open Tryz RowKit
variable (A1 A2 A3 A4 : Option Addr) (c1 c2 c3 c4 : Nat) (f : Pl.aL)
theorem RD (p q:Pl.oz)(M:Int)(w:World)(hM:Hid (max 0 (Pl.CK p q+1)=M))(hp:Pl.gG 12 10 p=true)(hq:Pl.gG 12 10 q=true):
  Calls prog 127 #[.agg #[.string p.name,.int .i64 p.dH,.int .i64 p.fr,.int .i64 p.till],.agg #[.string q.name,.int .i64 q.dH,.int .i64 q.fr,.int .i64 q.till]] w fun e w'=>e=.returned (.int .i64 M)∧Below w.heap.size w w':=by
 have h1:=Pl.xY hp
 have h2:=Pl.xY hq
 rw[<-hM.out]
 exact Qs p q w (by have:=h1.f0;omega) (by have:=h1.f1;omega) (by have:=h1.t0;omega) (by have:=h1.t1;omega) (by have:=h2.f0;omega) (by have:=h2.f1;omega) (by have:=h2.t0;omega) (by have:=h2.t1;omega)
theorem Mi {α:Type}{p:α->Bool}{l:List α}{k j:Nat}(hk:k<=l.length)(hj:j<k)(h:p (l[j]'(by omega))=true):(l.take k).any p=true:=by
 rw[List.any_eq_true]
 exact⟨_,List.mem_take_iff_getElem.2 ⟨j,by omega,rfl⟩,h⟩
theorem JL {α:Type}{p:α->Bool}{l:List α}{k:Nat}(h: ∀j (hj:j<l.length),j<k->p l[j]=false):(l.take k).any p=false:=by
 rw[List.any_eq_false]
 intro x hx
 obtain⟨j,hj,rfl⟩:=List.mem_take_iff_getElem.1 hx
 rw[h j (by omega) (by omega)]
 simp
theorem dw {W w1:World}(hx:Below W.drew.heap.size W.drew w1){b o:Nat}{v:Value}(hb:b<W.heap.size)(h:W.cell? ⟨b,o,none⟩=some v):w1.cell? ⟨b,o,none⟩=some v:=(hx.cell (p:=⟨b,o,none⟩) hb).trans h
theorem Ac (B:Bool) (w:World) (hf:bB w w.heap.size A1 A2 A3 A4 f) (_hm:Small f) (_hc:dY c1 c2 c3 c4 f) (k1:f.st.length<=12) (k3:f.pa.length<=40) (hS: ∀p∈f.pa,Pl.gG 12 10 p=true) (hB:Hid (B=true↔f.N7)):
  Calls prog 116 #[.agg (fq A1 A2 A3 A4 c1 c2 c3 c4 f)] w fun e w'=>e=.returned (.bool B)∧Below w.heap.size w w':=by
 have kb:=heap_alloc_new w (.cells (fq A1 A2 A3 A4 c1 c2 c3 c4 f) 28)
 have hall:Below w.heap.size w (w.alloc (.cells (fq A1 A2 A3 A4 c1 c2 c3 c4 f) 28)):=by go_grown
 have hno:Hid (¬f.N7->false=B):=Lib.hid fun h=>by cases B with|false=>rfl|true=>exact absurd (hB.out.1 rfl) h
 have hyes:Hid (f.N7->true=B):=Lib.hid fun h=>(hB.out.2 h).symm
 go_enter func116,ntmps116
 go_wp2
 go_loopw [3] (fun i wr=> ∃(k:Nat),1<=k∧k<=f.st.length+1∧i=.int .i64 k∧Hid (∀j (h:j+1<f.st.length),j+1<k->f.st[j].2<f.st[j+1].2)∧wr.heap[w.heap.size]?=some (.cells (fq A1 A2 A3 A4 c1 c2 c3 c4 f) 28 (0,0))∧Below w.heap.size w wr) (fun i _=>f.st.length+1-(intOf i).toNat)
 case atStart=>exact⟨1,by omega,by omega,rfl,Lib.hid fun j _ h=>by omega,kb,hall⟩
 case round=>
  clear kb hall
  obtain⟨k,hk1,hk,rfl,hg,kb,hall⟩:=hrel
  obtain⟨aQ,aS⟩:=ah kb
  have aC:=(lO kb)
  have hsz:=hall.size
  by_cases hlt:k<f.st.length
  ·obtain⟨m,hmk⟩: ∃m,k=m+1:=⟨k-1,by omega⟩
   have QF:m<f.st.length:=by omega
   obtain⟨b,off,hA,mQ,q0,q1⟩:=iJ.at2 (hf.st.below hall) hlt
   obtain⟨b',off',hA',_,r0,r1⟩:=iJ.at2 (hf.st.below hall) QF
   rw[hA]at hA'
   obtain⟨rfl,rfl⟩:b=b'∧off=off':=by simpa using hA'
   clear hA' q0 r0
   subst hA
   have hc0:wr.cell? ⟨w.heap.size,0,none⟩=some (.slice (some ⟨b,off,none⟩) f.st.length c1):=aQ 0
   have e1:IntKind.i64.wrap ((k:Int)-1)=(m:Int):=by rw[IntWalk.i64_in _ (by omega)];omega
   have e2:(0:Int)<=(m:Int):=by omega
   have e4:(m:Int)<(f.st.length:Int):=by omega
   have e5:(0:Int)<=(k:Int):=by omega
   have e6:(k:Int)<(f.st.length:Int):=by omega
   have hbad:Hid (f.st[k].2<=f.st[m].2->false=B):=Lib.hid fun h=>hno.out (Pl.Ia (k:=m) (by omega) (by subst hmk;exact h))
   have hgood:Hid (f.st[m].2<f.st[k].2-> ∀j (h:j+1<f.st.length),j+1<k+1->f.st[j].2<f.st[j+1].2):=Lib.hid fun h j hj hjk=>by
    by_cases e:j+1=k
    ·subst hmk
     obtain rfl:j=m:=by omega
     exact h
    ·exact hg.out j hj (by omega)
   obtain⟨x,hx⟩: ∃x,f.st[k].2=x:=⟨_,rfl⟩
   obtain⟨y,hy⟩: ∃y,f.st[m].2=y:=⟨_,rfl⟩
   rw[hx]at q1 hbad hgood
   rw[hy]at r1 hbad hgood
   have X4:=Lib.hid hmk
   clear hx hy hg hmk
   by_cases hxy:x<=y
   ·go_wp2
    go_region_held3 (fun W=>W.cell? ⟨w.heap.size,0,none⟩=some (.slice (some ⟨b,off,none⟩) f.st.length c1)∧W.cell? ⟨b,off+m*2+1,none⟩=some (.int .i64 y)∧W.cell? ⟨b,off+k*2+1,none⟩=some (.int .i64 x)) (exact⟨hc0,r1,q1⟩) (fail)
    all_goals go_wp2
    all_goals go_ret
    all_goals exact⟨aD (by rw[<-hbad.out hxy]),by first|(go_grown;done)|exact below_drewN hall _⟩
   ·have hxy':y<x:=by omega
    go_wp2
    go_region_held3 (fun W=>W.cell? ⟨w.heap.size,0,none⟩=some (.slice (some ⟨b,off,none⟩) f.st.length c1)∧W.cell? ⟨b,off+m*2+1,none⟩=some (.int .i64 y)∧W.cell? ⟨b,off+k*2+1,none⟩=some (.int .i64 x)) (exact⟨hc0,r1,q1⟩) (fail)
    all_goals go_wp2
    all_goals (
     go_roundw
     case rel=>exact⟨k+1,by omega,by omega,by go_num,Lib.hid (hgood.out hxy'),kb,by first|(go_grown;done)|exact below_drewN hall _⟩
     case measure=>simp[intOf];try omega)
  ·have U7:=Lib.hid (fun j (h:j+1<f.st.length)=>hg.out j h (by omega))
   clear hg
   go_wp2
   go_loopw [4] (fun i wr=> ∃(k:Nat),k<=f.pa.length∧i=.int .i64 k∧Hid (Pl.apart [] (f.pa.take k)=true)∧wr.heap[w.heap.size]?=some (.cells (fq A1 A2 A3 A4 c1 c2 c3 c4 f) 28 (0,0))∧Below w.heap.size w wr) (fun i _=>f.pa.length-(intOf i).toNat)
   case atStart=>exact⟨0,by omega,rfl,Lib.hid rfl,kb,hall⟩
   case round=>
    clear kb hall aQ aS aC hsz
    obtain⟨i,hi,rfl,hap,kb,hall⟩:=hrel
    obtain⟨aQ,aS⟩:=ah kb
    have aC:=(lO kb)
    have hsz:=hall.size
    by_cases hlt:i<f.pa.length
    ·obtain⟨b,off,hA,mQ,q0,q1,q2,q3⟩:=om.at4 (hf.pa.below hall) hlt
     have hc2:wr.cell? ⟨w.heap.size,2,none⟩=some (.slice A3 f.pa.length c3):=aQ 2
     rw[hA]at hc2
     have e5:(0:Int)<=(i:Int):=by omega
     have e6:(i:Int)<(f.pa.length:Int):=by omega
     by_cases hft:f.pa[i].fr<f.pa[i].till
     ·have n1: ¬f.pa[i].till<=f.pa[i].fr:=by omega
      subst hA
      go_wp2
      go_region_held3 (fun W=>W.cell? ⟨w.heap.size,2,none⟩=some (.slice (some ⟨b,off,none⟩) f.pa.length c3)∧W.cell? ⟨b,off+i*4+2,none⟩=some (.int .i64 f.pa[i].fr)∧W.cell? ⟨b,off+i*4+3,none⟩=some (.int .i64 f.pa[i].till)) (exact⟨hc2,q2,q3⟩) (fail)
      all_goals go_wp2
      all_goals (
       go_loopw [5] (fun z wr=> ∃(k:Nat),k<=i∧z=.int .i64 k∧Hid (∀j (h:j<f.pa.length),j<k->Pl.over f.pa[i] f.pa[j]=false)∧wr.heap[w.heap.size]?=some (.cells (fq A1 A2 (some ⟨b,off,none⟩) A4 c1 c2 c3 c4 f) 28 (0,0))∧Below w.heap.size w wr) (fun z _=>i-(intOf z).toNat)
       case atStart=>exact⟨0,by omega,rfl,Lib.hid fun j _ h=>by omega,kb,by first|(go_grown;done)|exact below_drewN hall _⟩
       case round=>
        clear kb hall aQ aS aC hsz q0 q1 q2 q3 hc2
        obtain⟨k,hk,rfl,hov,kb,hall⟩:=hrel
        obtain⟨aQ,aS⟩:=ah kb
        have aC:=(lO kb)
        have hsz:=hall.size
        by_cases hki:k<i
        ·have hltk:k<f.pa.length:=by omega
         obtain⟨b1,off1,hA1,_,r0,r1,r2,r3⟩:=om.at4 (hf.pa.below hall) hltk
         obtain⟨b2,off2,hA2,YR,q0,q1,q2,q3⟩:=om.at4 (hf.pa.below hall) hlt
         obtain⟨rfl,rfl⟩:b=b1∧off=off1:=by simpa using hA1
         obtain⟨rfl,rfl⟩:b=b2∧off=off2:=by simpa using hA2
         clear hA1 hA2
         have hc2:wr.cell? ⟨w.heap.size,2,none⟩=some (.slice (some ⟨b,off,none⟩) f.pa.length c3):=aQ 2
         have hbw:b<wr.heap.size:=by omega
         have g1:(0:Int)<=(k:Int):=by omega
         have g2:(k:Int)<(f.pa.length:Int):=by omega
         have hnext:Hid (Pl.over f.pa[i] f.pa[k]=false-> ∀j (h:j<f.pa.length),j<k+1->Pl.over f.pa[i] f.pa[j]=false):=Lib.hid fun h0 j h hj=>by
          by_cases e:j=k
          ·subst e;exact h0
          ·exact hov.out j h (by omega)
         have hbad:Hid (Pl.over f.pa[i] f.pa[k]=true->false=B):=Lib.hid fun h0=>hno.out (Pl.rW hlt (fun h=>by rw[Mi (by omega) hki h0]at h;cases h.2))
         have P1:=hS _ (List.getElem_mem hlt)
         have P2:=hS _ (List.getElem_mem hltk)
         obtain⟨M,hM⟩: ∃M,max 0 (Pl.CK f.pa[i] f.pa[k]+1)=M:=⟨_,rfl⟩
         have HM:=Lib.hid hM
         have TS:Pl.over f.pa[i] f.pa[k]=(decide (f.pa[i].dH=f.pa[k].dH)&&decide (1<M)):=by
          unfold Pl.over
          rw[<-hM]
          congr 1
          exact decide_eq_decide.2 (by omega)
         rw[TS]at hnext hbad
         have CM:=fun W=>RD f.pa[i] f.pa[k] M W HM P1 P2
         clear hov TS hM P1 P2 HM
         obtain⟨⟨pn,ps,pf,pt⟩,hp⟩: ∃p,f.pa[i]=p:=⟨_,rfl⟩
         obtain⟨⟨qn,qs,qf,qt⟩,hq⟩: ∃p,f.pa[k]=p:=⟨_,rfl⟩
         rw[hp,hq]at hnext hbad CM
         rw[hp]at q0 q1 q2 q3
         rw[hq]at r0 r1 r2 r3
         simp only at hnext hbad CM q0 q1 q2 q3 r0 r1 r2 r3
         have Xg:=Lib.hid hp
         clear hp hq
         by_cases hs:ps=qs
         ·subst hs
          by_cases hm1:1<M
          ·have hv:=Lib.hid (hbad.out (by simp[hm1]))
           go_wp2
           go_region_held3 (fun W=>W.cell? ⟨w.heap.size,2,none⟩=some (.slice (some ⟨b,off,none⟩) f.pa.length c3)∧(W.cell? ⟨b,off+i*4,none⟩=some (.string pn)∧W.cell? ⟨b,off+i*4+1,none⟩=some (.int .i64 ps)∧W.cell? ⟨b,off+i*4+2,none⟩=some (.int .i64 pf)∧W.cell? ⟨b,off+i*4+3,none⟩=some (.int .i64 pt))∧W.cell? ⟨b,off+k*4,none⟩=some (.string qn)∧W.cell? ⟨b,off+k*4+1,none⟩=some (.int .i64 ps)∧W.cell? ⟨b,off+k*4+2,none⟩=some (.int .i64 qf)∧W.cell? ⟨b,off+k*4+3,none⟩=some (.int .i64 qt)) (first|exact⟨z0,⟨z1,z2,z3,z4⟩,z5,z6,z7,z8⟩|exact⟨hc2,⟨q0,q1,q2,q3⟩,r0,r1,r2,r3⟩) ((go_at_call 127;refine(CM _).mono ?_;rintro e w1 ⟨rfl,hx⟩;have z0:=dw hx aC hc2;have z1:=dw hx hbw q0;have z2:=dw hx hbw q1;have z3:=dw hx hbw q2;have z4:=dw hx hbw q3;have z5:=dw hx hbw r0;have z6:=dw hx hbw r1;have z7:=dw hx hbw r2;have z8:=dw hx hbw r3;have dZ:=(hx.block w.heap.size aC).trans kb;have aK:Below w.heap.size w w1:=hall.drew.trans (hx.mono hsz)))
           all_goals go_wp2
           all_goals go_ret
           all_goals exact⟨aD (by rw[<-hv.out]),aK⟩
          ·have hv:=Lib.hid (hnext.out (by simp[hm1]))
           go_wp2
           go_region_held3 (fun W=>W.cell? ⟨w.heap.size,2,none⟩=some (.slice (some ⟨b,off,none⟩) f.pa.length c3)∧(W.cell? ⟨b,off+i*4,none⟩=some (.string pn)∧W.cell? ⟨b,off+i*4+1,none⟩=some (.int .i64 ps)∧W.cell? ⟨b,off+i*4+2,none⟩=some (.int .i64 pf)∧W.cell? ⟨b,off+i*4+3,none⟩=some (.int .i64 pt))∧W.cell? ⟨b,off+k*4,none⟩=some (.string qn)∧W.cell? ⟨b,off+k*4+1,none⟩=some (.int .i64 ps)∧W.cell? ⟨b,off+k*4+2,none⟩=some (.int .i64 qf)∧W.cell? ⟨b,off+k*4+3,none⟩=some (.int .i64 qt)) (first|exact⟨z0,⟨z1,z2,z3,z4⟩,z5,z6,z7,z8⟩|exact⟨hc2,⟨q0,q1,q2,q3⟩,r0,r1,r2,r3⟩) ((go_at_call 127;refine(CM _).mono ?_;rintro e w1 ⟨rfl,hx⟩;have z0:=dw hx aC hc2;have z1:=dw hx hbw q0;have z2:=dw hx hbw q1;have z3:=dw hx hbw q2;have z4:=dw hx hbw q3;have z5:=dw hx hbw r0;have z6:=dw hx hbw r1;have z7:=dw hx hbw r2;have z8:=dw hx hbw r3;have dZ:=(hx.block w.heap.size aC).trans kb;have aK:Below w.heap.size w w1:=hall.drew.trans (hx.mono hsz)))
           all_goals go_wp2
           all_goals exact⟨⟨k+1,by omega,by go_num,Lib.hid (by rw[Xg.out];exact hv.out),dZ,aK⟩,by simp[intOf];omega⟩
         ·have hv:=Lib.hid (hnext.out (by simp[hs]))
          have hs2:(ps==qs)=false:=by rw[beq_eq_false_iff_ne];exact hs
          go_wp2
          refine wp_region_held_drew (S:=fun W=>W.cell? ⟨w.heap.size,2,none⟩=some (.slice (some ⟨b,off,none⟩) f.pa.length c3)∧W.cell? ⟨b,off+i*4+1,none⟩=some (.int .i64 ps)∧W.cell? ⟨b,off+k*4+1,none⟩=some (.int .i64 qs)) (by kernel_rfl) ⟨hc2,q1,r1⟩ (fun hHeld=> ?_)
          refine tJ 0 52 rfl rfl ?_
          try simp only[au]
          refine tJ 1 53 rfl rfl ?_
          try simp only[au]
          refine tJ 2 54 rfl rfl ?_
          try simp only[au]
          refine tJ 3 55 rfl rfl ?_
          try simp only[au]
          refine tJ 4 56 rfl rfl ?_
          try simp only[au]
          refine tJ 5 57 rfl rfl ?_
          try simp only[au]
          refine tJ 6 58 rfl rfl ?_
          try simp only[au]
          refine tJ 7 59 rfl rfl ?_
          try simp only[au]
          refine tJ 8 60 rfl rfl ?_
          try simp only[au]
          refine tJ 9 61 rfl rfl ?_
          try simp only[au]
          refine tJ 10 62 rfl rfl ?_
          try simp only[au]
          refine tJ 11 63 rfl rfl ?_
          try simp only[au]
          refine tJ 12 64 rfl rfl ?_
          try simp only[au]
          refine tJ 13 65 rfl rfl ?_
          try simp only[au]
          refine tU 14 66 rfl rfl ?_
          try simp only[au]
          refine tU 15 67 rfl rfl ?_
          try simp only[au]
          refine tU 16 68 rfl rfl ?_
          try simp only[au]
          refine tU 17 69 rfl rfl ?_
          try simp only[au]
          refine tU 18 70 rfl rfl ?_
          try simp only[au]
          refine tU 19 71 rfl rfl ?_
          try simp only[au]
          refine tU 20 72 rfl rfl ?_
          try simp only[au]
          refine tU 21 73 rfl rfl ?_
          try simp only[au]
          refine tU 22 74 rfl rfl ?_
          try simp only[au]
          refine tU 23 75 rfl rfl ?_
          try simp only[au]
          refine tU 24 76 rfl rfl ?_
          try simp only[au]
          refine tU 25 77 rfl rfl ?_
          try simp only[au]
          refine tJ 26 78 rfl rfl ?_
          try simp only[au]
          refine wpAnyH_done (by kernel_rfl) ?_ _
          go_wp2
          exact⟨⟨k+1,by omega,by go_num,Lib.hid (by rw[Xg.out];exact hv.out),kb,by first|exact hall.drew|exact below_drewN hall _⟩,by simp[intOf];omega⟩
        ·obtain rfl:k=i:=by omega
         have hv:=Lib.hid (Pl.wN hlt hap.out hft (JL hov.out))
         go_wp2
         exact⟨⟨k+1,by omega,by go_num,hv,kb,hall⟩,by simp[intOf];omega⟩)
     ·have n1:f.pa[i].till<=f.pa[i].fr:=by omega
      have hv:=Lib.hid (hno.out (Pl.rW hlt (fun h=>hft h.1)))
      subst hA
      go_wp2
      go_region_held3 (fun W=>W.cell? ⟨w.heap.size,2,none⟩=some (.slice (some ⟨b,off,none⟩) f.pa.length c3)∧W.cell? ⟨b,off+i*4+2,none⟩=some (.int .i64 f.pa[i].fr)∧W.cell? ⟨b,off+i*4+3,none⟩=some (.int .i64 f.pa[i].till)) (exact⟨hc2,q2,q3⟩) (fail)
      all_goals go_wp2
      all_goals go_ret
      all_goals exact⟨aD (by rw[<-hv.out]),by first|(go_grown;done)|exact below_drewN hall _⟩
    ·have hv:=Lib.hid (hyes.out (Pl.P8 U7.out (by have:=hap.out;rw[List.take_of_length_le (by omega)]at this;exact this)))
     go_wp2
     go_ret
     exact⟨aD (by rw[<-hv.out]),hall⟩
namespace Pl
variable (A1 A2 A3 A4 : Option Addr) (c1 c2 c3 c4 : Nat) (f : Pl.aL)
theorem Mj {α:Type}{p:α->Bool}: ∀ {l:List α} {j:Nat} (hj:j<l.length),p l[j]=true-> ∃m,m<=j∧idx p l=some m
 | a::l,j,hj,hp=>by
  unfold idx
  cases h:p a with
  |true=>exact⟨0,by omega,by simp⟩
  | false=>
   cases j with
   |zero=>simp only[List.getElem_cons_zero]at hp;rw[hp]at h;cases h
   |succ j=>
    obtain⟨m,hm,he⟩:=Mj (l:=l) (j:=j) (by simpa using hj) (by simpa using hp)
    exact⟨m+1,by omega,by simp[he]⟩
theorem Mk {l:List ByteArray}{i:Nat}(h:i<l.length)(hm:l[i]∈l.take i):pos (idx (fun x=>decide (x=l[i])) l)<(i:Int):=by
 obtain⟨j,hj,hjk⟩:=List.mem_take_iff_getElem.1 hm
 obtain⟨m,hm,he⟩:=Mj (p:=fun x=>decide (x=l[i])) (l:=l) (j:=j) (by omega) (by simpa using hjk)
 rw[he]
 show((m:Nat):Int)<(i:Int)
 omega
theorem Ml {l:List ByteArray}{i:Nat}(h:i<l.length)(hm:l[i]∉l.take i):pos (idx (fun x=>decide (x=l[i])) l)=(i:Int):=by
 rw[iN (p:=fun x=>decide (x=l[i])) h (fun j hj=>decide_eq_false fun e=>hm (List.mem_take_iff_getElem.2 ⟨j,by omega,e⟩)) (by simp)]
 rfl
theorem IG {f:aL}{P:List ByteArray->Prop}(h: ∀k,k<3->P (nms f k)):P f.sn∧P f.li∧P f.pn:=⟨h 0 (by omega),h 1 (by omega),h 2 (by omega)⟩
theorem II {f:aL}{P:List ByteArray->Prop}{k:Nat}(hk:k<3)(h:P (nms f k)):P f.sn∨P f.li∨P f.pn:=by
 match k,hk with
 |0,_=>exact .inl h
 |1,_=>exact .inr (.inl h)
 |2,_=>exact .inr (.inr h)
theorem RF {f:aL}(h: ∀k,k<3->(nms f k).all isName=true):f.N4:=by
 obtain⟨a,b,c⟩:=IG (P:=fun l=>l.all isName=true) h
 unfold aL.N4;rw[a,b,c];rfl
theorem JM {f:aL}{k j:Nat}(hk:k<3)(hj:j<(nms f k).length)(h:isName (nms f k)[j]=false): ¬f.N4:=by
 have hall:(nms f k).all isName=false:=by
  rw[List.all_eq_false];exact⟨_,List.getElem_mem hj,by simp[h]⟩
 unfold aL.N4
 rcases II (P:=fun l=>l.all isName=false) hk hall with e|e|e<;>rw[e]<;>simp
theorem RG {f:aL}(h: ∀k,k<3->twice (nms f k)=false):f.N5:=by
 obtain⟨a,b,c⟩:=IG (P:=fun l=>twice l=false) h
 unfold aL.N5;rw[a,b,c];rfl
theorem JN {f:aL}{k:Nat}(hk:k<3)(h:twice (nms f k)=true): ¬f.N5:=by
 unfold aL.N5
 rcases II (P:=fun l=>twice l=true) hk h with e|e|e<;>rw[e]<;>simp
end Pl
theorem Mq {f:Pl.aL}(hm:Small f){k:Nat}: ∀s∈Pl.nms f k,s.size<=100000:=by
 intro s hs
 unfold Pl.nms at hs
 split at hs
 ·obtain⟨x,hx,rfl⟩:=List.mem_map.1 hs;exact hm.sn x hx
 ·split at hs
  ·exact hm.ln s hs
  ·obtain⟨x,hx,rfl⟩:=List.mem_map.1 hs;exact hm.pn x hx
theorem BL {f:Pl.aL}(hm:Small f){k:Nat}:(Pl.nms f k).length<=100000:=by
 unfold Pl.nms
 split
 ·unfold Pl.aL.sn;simp;exact hm.st
 ·split
  ·exact hm.li
  ·unfold Pl.aL.pn;simp;exact hm.pa
theorem uq (w:World) (hf:bB w w.heap.size A1 A2 A3 A4 f) (hm:Small f) (hc:dY c1 c2 c3 c4 f) (h1:f.N1) (h2:f.N2) (h3:Pl.vars f.va=0):
  Calls prog 43 #[.agg (fq A1 A2 A3 A4 c1 c2 c3 c4 f)] w fun e w'=>e=.returned (.int .i64 (Pl.aR f))∧Below w.heap.size w w':=by
 have h1':f.st.length<=12∧f.li.length<=10∧f.pa.length<=40:=by unfold Pl.aL.N1 at h1;omega
 have h2':2<=f.st.length∧1<=f.li.length:=by unfold Pl.aL.N2 at h2;omega
 obtain⟨k1,k2,k3⟩:=h1'
 obtain⟨k4,k5⟩:=h2'
 have hml:f.va.length<=maxLen:=by have:=hm.va;unfold maxLen;omega
 have H1:=Lib.hid h1;have H2:=Lib.hid h2;have H3:=Lib.hid h3
 clear h1 h2 h3
 have vb:=fun W (a:Vars W W.heap.size A4 f.va)=>oJ A4 c4 f.va W a hml
 rw[H3.out]at vb
 have kb:=heap_alloc_new w (.cells (fq A1 A2 A3 A4 c1 c2 c3 c4 f) 28)
 go_enter func43,ntmps43
 go_wp2_with (go_at_call 112;refine(vb _ (hf.va.up (by go_grown))).mono ?_;rintro e w1 ⟨rfl,hx⟩;obtain⟨kb,aQ,aS,aC⟩:=kB hx kb;have hall:=bT (w:=w) hx;have hsz:w.heap.size<=w1.heap.size:=hall.size;clear hx)
 clear vb
 go_loopw [4] (fun z wr=> ∃(k:Nat),k<=3∧z=.int .i64 k∧Hid (∀j,j<k->(Pl.nms f j).all Pl.isName=true)∧wr.heap[w.heap.size]?=some (.cells (fq A1 A2 A3 A4 c1 c2 c3 c4 f) 28 (0,0))∧Below w.heap.size w wr) (fun z _=>3-(intOf z).toNat)
 case atStart=>exact⟨0,by omega,rfl,Lib.hid fun j h=>by omega,kb,by go_grown⟩
 case round=>
  clear kb aQ aS aC hall hsz
  obtain⟨k,hk,rfl,hg,kb,hall⟩:=hrel
  obtain⟨aQ,aS⟩:=ah kb
  have aC:=(lO kb)
  have hsz:=hall.size
  by_cases hlt:k<3
  ·have g1:(k:Int)<3:=by omega
   go_wp2_with (go_at_call 113;refine(IE A1 A2 A3 A4 c1 c2 c3 c4 f k hlt _ (hf.up hall) hm).mono ?_;rintro e w2 ⟨B,d,rfl,hN,hd,hF,hx⟩;have jh:=(hx.block w.heap.size aC).trans kb;have bY:Below w.heap.size w w2:=hall.trans (hx.mono hsz))
   have hnl:=BL (k:=k) hm
   go_loopw [6] (fun z W=> ∃(i:Nat),i<=(Pl.nms f k).length∧z=.int .i64 i∧Hid (∀j (h:j<(Pl.nms f k).length),j<i->Pl.isName (Pl.nms f k)[j]=true)∧w2=W) (fun z _=>(Pl.nms f k).length-(intOf z).toNat)
   case atStart=>exact⟨0,by omega,rfl,Lib.hid fun j _ h=>by omega,rfl⟩
   case round=>
    obtain⟨i,hi,rfl,hq,rfl⟩:=hrel
    by_cases Eh:i<(Pl.nms f k).length
    ·obtain⟨b,off,rfl,mQ,q0⟩:=d9.gY hN Eh
     have hsz1:=Mq hm _ (List.getElem_mem Eh)
     cases hb:Pl.isName (Pl.nms f k)[i]with
     | true=>
      have HB:=Lib.hid hb
      have ib:=fun W=>gJ (Pl.nms f k)[i] W hsz1
      rw[hb]at ib
      clear hb
      go_wp2_with (go_at_call 114;refine(ib _).mono ?_;rintro e w3 ⟨rfl,rfl⟩)
      go_roundw
      case rel=>exact⟨i+1,by omega,by go_num,Lib.hid fun j h hj=>by
       by_cases e:j=i
       ·subst e;exact HB.out
       ·exact hq.out j h (by omega),by trivial⟩
      case measure=>simp[intOf];try omega
     |false=>
      have hE:=Lib.hid (Pl.rU H1.out H2.out H3.out (Pl.JM hlt Eh hb))
      have ib:=fun W=>gJ (Pl.nms f k)[i] W hsz1
      rw[hb]at ib
      clear hb
      go_wp2_with (go_at_call 114;refine(ib _).mono ?_;rintro e w3 ⟨rfl,rfl⟩)
      go_ret
      exact⟨aH (by rw[hE.out]),bY⟩
    ·have hn:Hid ((Pl.nms f k).all Pl.isName=true):=Lib.hid (by
      rw[List.all_eq_true];intro s hs
      obtain⟨j,hj,rfl⟩:=List.getElem_of_mem hs
      exact hq.out j hj (by omega))
     have hn2:Hid (∀j,j<k+1->(Pl.nms f j).all Pl.isName=true):=Lib.hid fun j hj=>by
      by_cases e:j=k
      ·subst e;exact hn.out
      ·exact hg.out j (by omega)
     go_wp2
     exact⟨⟨k+1,by omega,by go_num,hn2,jh,bY⟩,by simp[intOf];omega⟩
  ·have g3 : ¬(k:Int)<3:=by omega
   have N4:=Lib.hid (Pl.RF (f:=f) fun j hj=>hg.out j (by omega))
   clear hg
   go_wp2
   go_loopw [7] (fun z wr=> ∃(k:Nat),k<=3∧z=.int .i64 k∧Hid (∀j,j<k->Pl.twice (Pl.nms f j)=false)∧wr.heap[w.heap.size]?=some (.cells (fq A1 A2 A3 A4 c1 c2 c3 c4 f) 28 (0,0))∧Below w.heap.size w wr) (fun z _=>3-(intOf z).toNat)
   case atStart=>exact⟨0,by omega,rfl,Lib.hid fun j h=>by omega,kb,by go_grown⟩
   case round=>
    clear kb aQ aS aC hall hsz
    obtain⟨k,hk,rfl,hg,kb,hall⟩:=hrel
    obtain⟨aQ,aS⟩:=ah kb
    have aC:=(lO kb)
    have hsz:=hall.size
    by_cases hlt:k<3
    ·have g1:(k:Int)<3:=by omega
     go_wp2_with (go_at_call 113;refine(IE A1 A2 A3 A4 c1 c2 c3 c4 f k hlt _ (hf.up hall) hm).mono ?_;rintro e w2 ⟨B,d,rfl,hN,hd,hF,hx⟩;have jh:=(hx.block w.heap.size aC).trans kb;have bY:Below w.heap.size w w2:=hall.trans (hx.mono hsz))
     have hnl:=BL (k:=k) hm
     go_loopw [9] (fun z W=> ∃(i:Nat),i<=(Pl.nms f k).length∧z=.int .i64 i∧Hid (∀j (h:j<(Pl.nms f k).length),j<i->(Pl.nms f k)[j]∉(Pl.nms f k).take j)∧w2=W) (fun z _=>(Pl.nms f k).length-(intOf z).toNat)
     case atStart=>exact⟨0,by omega,rfl,Lib.hid fun j _ h=>by omega,rfl⟩
     case round=>
      obtain⟨i,hi,rfl,hq,rfl⟩:=hrel
      by_cases Eh:i<(Pl.nms f k).length
      ·have pb:=fun W (a:d9 W W.heap.size B (Pl.nms f k))=>nC B d (Pl.nms f k) (Pl.nms f k)[i] W a (by have:=BL (k:=k) hm;omega)
       obtain⟨P,hP⟩: ∃P,Pl.pos (Pl.idx (fun x=>decide (x=(Pl.nms f k)[i])) (Pl.nms f k))=P:=⟨_,rfl⟩
       rw[hP]at pb
       obtain⟨b,off,hB,mQ,q0⟩:=d9.gY hN Eh
       have hN':=hN
       subst hB
       by_cases hmem:(Pl.nms f k)[i]∈(Pl.nms f k).take i
       ·have hE:=Lib.hid (Pl.rV H1.out H2.out H3.out N4.out (Pl.JN hlt (Pl.zK Eh hmem)))
        have Y3:P<(i:Int):=by rw[<-hP];exact Pl.Mk Eh hmem
        clear hmem hP
        go_wp2_with (go_at_call 115;refine(pb _ hN').mono ?_;rintro e w3 ⟨rfl,rfl⟩)
        go_ret
        exact⟨aH (by rw[hE.out]),bY⟩
       ·have Y3: ¬P<(i:Int):=by rw[<-hP,Pl.Ml Eh hmem];omega
        have HM:=Lib.hid hmem
        clear hmem hP
        go_wp2_with (go_at_call 115;refine(pb _ hN').mono ?_;rintro e w3 ⟨rfl,rfl⟩)
        go_roundw
        case rel=>exact⟨i+1,by omega,by go_num,Lib.hid fun j h hj=>by
         by_cases e:j=i
         ·subst e;exact HM.out
         ·exact hq.out j h (by omega),by trivial⟩
        case measure=>simp[intOf];try omega
      ·have hn:=Lib.hid (Pl.wD (l:=Pl.nms f k) fun j hj=>hq.out j hj (by omega))
       have hn2:Hid (∀j,j<k+1->Pl.twice (Pl.nms f j)=false):=Lib.hid fun j hj=>by
        by_cases e:j=k
        ·subst e;exact hn.out
        ·exact hg.out j (by omega)
       go_wp2
       exact⟨⟨k+1,by omega,by go_num,hn2,jh,bY⟩,by simp[intOf];omega⟩
    ·have g4: ¬(k:Int)<3:=by omega
     have N5:=Lib.hid (Pl.RG (f:=f) fun j hj=>hg.out j (by omega))
     clear hg
     go_wp2
     go_loopw [10] (fun z wr=> ∃(k:Nat),k<=f.st.length∧z=.int .i64 k∧Hid (∀j (h:j<f.st.length),j<k->0<=f.st[j].2∧f.st[j].2<=100000)∧wr.heap[w.heap.size]?=some (.cells (fq A1 A2 A3 A4 c1 c2 c3 c4 f) 28 (0,0))∧Below w.heap.size w wr) (fun z _=>f.st.length-(intOf z).toNat)
     case atStart=>exact⟨0,by omega,rfl,Lib.hid fun j _ h=>by omega,kb,hall⟩
     case round=>
      clear kb aQ aS aC hall hsz
      obtain⟨k,hk,rfl,hg,kb,hall⟩:=hrel
      obtain⟨aQ,aS⟩:=ah kb
      have aC:=(lO kb)
      have hsz:=hall.size
      by_cases hlt:k<f.st.length
      ·obtain⟨b,off,rfl,mQ,q0,q1⟩:=iJ.at2 (hf.st.below hall) hlt
       cases hin:Pl.bQ f.st[k].2 0 100000 with
       | true=>
        have hok:Hid (0<=f.st[k].2∧f.st[k].2<=100000):=Lib.hid (by simpa [Pl.bQ]using hin)
        go_wp2_with (go_at_call 102;refine(bW _ _ _ _).mono ?_;rintro e w' ⟨rfl,rfl⟩)
        go_roundw
        case rel=>exact⟨k+1,by omega,by go_num,Lib.hid fun j h hj=>by
         by_cases e:j=k
         ·subst e;exact hok.out
         ·exact hg.out j h (by omega),kb,hall⟩
        case measure=>simp[intOf];try omega
       |false=>
        have hE:=Lib.hid (Pl.jZ H1.out H2.out H3.out N4.out N5.out (Pl.P6 hlt (fun h=>by simp[Pl.bQ,h.1,h.2]at hin)))
        go_wp2_with (go_at_call 102;refine(bW _ _ _ _).mono ?_;rintro e w' ⟨rfl,rfl⟩)
        go_ret
        exact⟨aH (by rw[hE.out]),hall⟩
      ·have hst:=Lib.hid (fun j h=>hg.out j h (by omega))
       clear hg
       go_wp2
       go_loopw [11] (fun z wr=> ∃(k:Nat),k<=f.pa.length∧z=.int .i64 k∧Hid (∀j (h:j<f.pa.length),j<k->Pl.gG f.st.length f.li.length f.pa[j]=true)∧wr.heap[w.heap.size]?=some (.cells (fq A1 A2 A3 A4 c1 c2 c3 c4 f) 28 (0,0))∧Below w.heap.size w wr) (fun z _=>f.pa.length-(intOf z).toNat)
       case atStart=>exact⟨0,by omega,rfl,Lib.hid fun j _ h=>by omega,kb,hall⟩
       case round=>
        clear kb aQ aS aC hall hsz
        obtain⟨k,hk,rfl,hg,kb,hall⟩:=hrel
        obtain⟨aQ,aS⟩:=ah kb
        have aC:=(lO kb)
        have hsz:=hall.size
        by_cases hlt:k<f.pa.length
        ·obtain⟨b,off,rfl,mQ,q0,q1,q2,q3⟩:=om.at4 (hf.pa.below hall) hlt
         have hpi:Pl.gG f.st.length f.li.length f.pa[k]=(Pl.bQ f.pa[k].dH 0 ((f.li.length:Int)-2)&&Pl.bQ f.pa[k].fr 0 ((f.st.length:Int)-1)&&Pl.bQ f.pa[k].till 0 ((f.st.length:Int)-1)):=by
          simp[Pl.gG,Pl.bQ]
         cases i1:Pl.bQ f.pa[k].dH 0 ((f.li.length:Int)-2)with
         |false=>
          have hE:=Lib.hid (Pl.jZ H1.out H2.out H3.out N4.out N5.out (Pl.zL hlt (by rw[hpi,i1];rfl)))
          clear hpi
          go_wp2_with (go_at_call 102;refine(bW _ _ _ _).mono ?_;rintro e w' ⟨rfl,rfl⟩)
          go_ret
          exact⟨aH (by rw[hE.out]),by go_grown⟩
         |true=>
         cases i2:Pl.bQ f.pa[k].fr 0 ((f.st.length:Int)-1)with
         |false=>
          have hE:=Lib.hid (Pl.jZ H1.out H2.out H3.out N4.out N5.out (Pl.zL hlt (by rw[hpi,i1,i2];rfl)))
          clear hpi
          go_wp2_with (go_at_call 102;refine(bW _ _ _ _).mono ?_;rintro e w' ⟨rfl,rfl⟩)
          go_ret
          exact⟨aH (by rw[hE.out]),by go_grown⟩
         |true=>
         cases i3:Pl.bQ f.pa[k].till 0 ((f.st.length:Int)-1)with
         |false=>
          have hE:=Lib.hid (Pl.jZ H1.out H2.out H3.out N4.out N5.out (Pl.zL hlt (by rw[hpi,i1,i2,i3];rfl)))
          clear hpi
          go_wp2_with (go_at_call 102;refine(bW _ _ _ _).mono ?_;rintro e w' ⟨rfl,rfl⟩)
          go_ret
          exact⟨aH (by rw[hE.out]),by go_grown⟩
         | true=>
          have hok:Hid (Pl.gG f.st.length f.li.length f.pa[k]=true):=Lib.hid (by rw[hpi,i1,i2,i3];rfl)
          clear hpi
          go_wp2_with (go_at_call 102;refine(bW _ _ _ _).mono ?_;rintro e w' ⟨rfl,rfl⟩)
          go_roundw
          case rel=>exact⟨k+1,by omega,by go_num,Lib.hid fun j h hj=>by
           by_cases e:j=k
           ·subst e;exact hok.out
           ·exact hg.out j h (by omega),(Below.heap_alloc _ _ _ aC).trans kb,by go_grown⟩
          case measure=>simp[intOf];try omega
        ·have hpa:=Lib.hid (fun j h=>hg.out j h (by omega))
         have N6:=Lib.hid (Pl.P7 hst.out hpa.out)
         have hS: ∀p∈f.pa,Pl.gG 12 10 p=true:=fun q hq=>by
          obtain⟨j,hj,rfl⟩:=List.getElem_of_mem hq
          have:=hpa.out j hj
          unfold Pl.gG at this ⊢
          simp at this ⊢
          omega
         clear hg hst
         by_cases h7:f.N7
         ·have hE:=Lib.hid (Pl.CY H1.out H2.out H3.out N4.out N5.out N6.out h7)
          have Sg:Hid (true=true↔f.N7):=Lib.hid (by simp[h7])
          clear h7
          go_wp2_with (go_at_call 116;refine(Ac A1 A2 A3 A4 c1 c2 c3 c4 f true _ (hf.up hall) hm hc k1 k3 hS Sg).mono ?_;rintro e w3 ⟨rfl,hx⟩;have lq:Below w.heap.size w w3:=hall.trans (hx.mono hsz))
          go_ret
          exact⟨aH (by rw[hE.out]),lq⟩
         ·have hE:=Lib.hid (Pl.qd H1.out H2.out H3.out N4.out N5.out N6.out h7)
          have Sg:Hid (false=true↔f.N7):=Lib.hid (by simp[h7])
          clear h7
          go_wp2_with (go_at_call 116;refine(Ac A1 A2 A3 A4 c1 c2 c3 c4 f false _ (hf.up hall) hm hc k1 k3 hS Sg).mono ?_;rintro e w3 ⟨rfl,hx⟩;have lq:Below w.heap.size w w3:=hall.trans (hx.mono hsz))
          go_ret
          exact⟨aH (by rw[hE.out]),lq⟩
theorem vH (w:World)(_hf:bB w w.heap.size A1 A2 A3 A4 f)(hm:Small f)(_hc:dY c1 c2 c3 c4 f)(h1: ¬f.N1):
  Calls prog 43 #[.agg (fq A1 A2 A3 A4 c1 c2 c3 c4 f)] w fun e w'=>e=.returned (.int .i64 (Pl.aR f))∧Below w.heap.size w w':=by
 have hE:=Lib.hid (Pl.CV h1)
 have h1':12<f.st.length∨(f.st.length<=12∧10<f.li.length)∨(f.st.length<=12∧f.li.length<=10∧40<f.pa.length):=by unfold Pl.aL.N1 at h1;omega
 obtain⟨m1,m2,m3,m4⟩:=hm
 clear h1
 rcases h1' with h|⟨h,h'⟩|⟨h,h',h''⟩
 all_goals
  go_enter func43,ntmps43
  go_wp2
  go_ret
  exact⟨aH (by rw[hE.out]),by go_grown⟩
theorem vI (w:World)(_hf:bB w w.heap.size A1 A2 A3 A4 f)(_hm:Small f)(_hc:dY c1 c2 c3 c4 f)(h1:f.N1)(h2: ¬f.N2):
  Calls prog 43 #[.agg (fq A1 A2 A3 A4 c1 c2 c3 c4 f)] w fun e w'=>e=.returned (.int .i64 (Pl.aR f))∧Below w.heap.size w w':=by
 have hE:=Lib.hid (Pl.CW h1 h2)
 have h1':f.st.length<=12∧f.li.length<=10∧f.pa.length<=40:=by unfold Pl.aL.N1 at h1;omega
 have h2':f.st.length<2∨(2<=f.st.length∧f.li.length<1):=by unfold Pl.aL.N2 at h2;omega
 obtain⟨k1,k2,k3⟩:=h1'
 clear h1 h2
 rcases h2' with h|⟨h,h'⟩
 all_goals
  go_enter func43,ntmps43
  go_wp2
  go_ret
  exact⟨aH (by rw[hE.out]),by go_grown⟩
theorem uw (w:World)(hf:bB w w.heap.size A1 A2 A3 A4 f)(hm:Small f)(_hc:dY c1 c2 c3 c4 f)(h1:f.N1)(h2:f.N2)(h3:Pl.vars f.va≠0):
  Calls prog 43 #[.agg (fq A1 A2 A3 A4 c1 c2 c3 c4 f)] w fun e w'=>e=.returned (.int .i64 (Pl.aR f))∧Below w.heap.size w w':=by
 have hE:=Lib.hid (Pl.CX h1 h2 h3)
 have h1':f.st.length<=12∧f.li.length<=10∧f.pa.length<=40:=by unfold Pl.aL.N1 at h1;omega
 have h2':2<=f.st.length∧1<=f.li.length:=by unfold Pl.aL.N2 at h2;omega
 obtain⟨k1,k2,k3⟩:=h1'
 obtain⟨k4,k5⟩:=h2'
 obtain⟨V,hV⟩: ∃V,Pl.vars f.va=V:=⟨_,rfl⟩
 have vb:=fun W (a:Vars W W.heap.size A4 f.va)=>oJ A4 c4 f.va W a (by have:=hm.va;unfold maxLen;omega)
 rw[hV]at vb h3 hE
 have q0:(V !=0)=true:=by simpa using h3
 clear h1 h2 hV h3
 have kb:=heap_alloc_new w (.cells (fq A1 A2 A3 A4 c1 c2 c3 c4 f) 28)
 go_enter func43,ntmps43
 go_wp2_with (go_at_call 112;refine(vb _ (hf.va.up (by go_grown))).mono ?_;rintro e w1 ⟨rfl,hx⟩;obtain⟨kb,aQ,aS,aC⟩:=kB hx kb;have hall:=bT (w:=w) hx;have hsz:w.heap.size<=w1.heap.size:=hall.size;clear hx)
 go_ret
 exact⟨aH (by rw[hE.out]),by go_grown⟩
theorem mI (E:Int)(w:World)(hE:Hid (Pl.aR f=E))(hf:bB w w.heap.size A1 A2 A3 A4 f)(hm:Small f)(hc:dY c1 c2 c3 c4 f):
  Calls prog 43 #[.agg (fq A1 A2 A3 A4 c1 c2 c3 c4 f)] w fun e w'=>e=.returned (.int .i64 E)∧Below w.heap.size w w':=by
 rw[<-hE.out]
 by_cases h1:f.N1
 ·by_cases h2:f.N2
  ·by_cases h3:Pl.vars f.va=0
   ·exact uq A1 A2 A3 A4 c1 c2 c3 c4 f w hf hm hc h1 h2 h3
   ·exact uw A1 A2 A3 A4 c1 c2 c3 c4 f w hf hm hc h1 h2 h3
  ·exact vI A1 A2 A3 A4 c1 c2 c3 c4 f w hf hm hc h1 h2
 ·exact vH A1 A2 A3 A4 c1 c2 c3 c4 f w hf hm hc h1
def Pl.vast (f:Pl.aL):Bool:=(decide (20<f.st.length)||decide (20<f.li.length)||decide (60<f.pa.length)||decide (60<f.va.length))||(f.st.any (fun s=>decide (100<s.1.size))||f.li.any (fun s=>decide (100<s.size))||f.pa.any (fun p=>decide (100<p.name.size)))
theorem JO (w:World)(h:20<f.st.length∨20<f.li.length∨60<f.pa.length∨60<f.va.length):
  Calls prog 23 #[.agg (fq A1 A2 A3 A4 c1 c2 c3 c4 f)] w fun e w'=>e=.returned (.bool (Pl.vast f))∧Below w.heap.size w w':=by
 have hv:Hid (Pl.vast f=true):=Lib.hid (by unfold Pl.vast;simp;omega)
 by_cases h1:20<f.st.length
 ·have e1:(20:Int)<(f.st.length:Int):=by omega
  go_enter func23,ntmps23
  go_wp2
  go_ret
  exact⟨aD hv.out.symm,by go_grown⟩
 have n1: ¬(20:Int)<(f.st.length:Int):=by omega
 by_cases h2:20<f.li.length
 ·have e1:(20:Int)<(f.li.length:Int):=by omega
  go_enter func23,ntmps23
  go_wp2
  go_ret
  exact⟨aD hv.out.symm,by go_grown⟩
 have n2: ¬(20:Int)<(f.li.length:Int):=by omega
 by_cases h3:60<f.pa.length
 ·have e1:(60:Int)<(f.pa.length:Int):=by omega
  go_enter func23,ntmps23
  go_wp2
  go_ret
  exact⟨aD hv.out.symm,by go_grown⟩
 have n3: ¬(60:Int)<(f.pa.length:Int):=by omega
 ·have e1:(60:Int)<(f.va.length:Int):=by omega
  go_enter func23,ntmps23
  go_wp2
  go_ret
  exact⟨aD hv.out.symm,by go_grown⟩
theorem yg (w:World) (hf:bB w w.heap.size A1 A2 A3 A4 f) (h1:f.st.length<=20) (h2:f.li.length<=20) (h3:f.pa.length<=60) (h4:f.va.length<=60):
  Calls prog 23 #[.agg (fq A1 A2 A3 A4 c1 c2 c3 c4 f)] w fun e w'=>e=.returned (.bool (Pl.vast f))∧Below w.heap.size w w':=by
 have n1: ¬(20:Int)<(f.st.length:Int):=by omega
 have n2: ¬(20:Int)<(f.li.length:Int):=by omega
 have n3: ¬(60:Int)<(f.pa.length:Int):=by omega
 have n4: ¬(60:Int)<(f.va.length:Int):=by omega
 have kb:=heap_alloc_new w (.cells (fq A1 A2 A3 A4 c1 c2 c3 c4 f) 28)
 have hall:Below w.heap.size w (w.alloc (.cells (fq A1 A2 A3 A4 c1 c2 c3 c4 f) 28)):=by go_grown
 go_enter func23,ntmps23
 go_wp2
 go_loopw [3] (fun p wr=> ∃k:Nat,k<=f.st.length∧p=.int .i64 k∧(∀s∈f.st.take k,s.1.size<=100)∧wr.heap[w.heap.size]?=some (.cells (fq A1 A2 A3 A4 c1 c2 c3 c4 f) 28 (0,0))∧Below w.heap.size w wr) (fun p _=>f.st.length-(intOf p).toNat)
 case atStart=>exact⟨0,by omega,rfl,by simp,kb,hall⟩
 clear kb hall
 case round=>
  obtain⟨k,hk,rfl,hs,kb,hb1⟩:=hrel
  obtain⟨aQ,aS⟩:=ah kb
  by_cases hlt:k<f.st.length
  ·obtain⟨b,off,rfl,mQ,q0,q1⟩:=iJ.at2 (hf.st.below hb1) hlt
   by_cases hz:100<f.st[k].1.size
   ·have hv:Hid (Pl.vast f=true):=Lib.hid (by unfold Pl.vast;simp only[Bool.or_eq_true,List.any_eq_true,decide_eq_true_eq];exact .inr (.inl (.inl ⟨_,List.getElem_mem hlt,hz⟩)))
    go_wp2
    go_ret
    exact⟨aD hv.out.symm,hb1⟩
   ·go_wp2
    go_roundw
    case rel=>exact⟨k+1,by omega,by go_num,by intro s hs';rw[List.take_succ_eq_append_getElem hlt,List.mem_append]at hs';rcases hs' with h|h;exact hs _ h;simp at h;subst h;omega,kb,hb1⟩
    case measure=>simp[intOf];try omega
  ·obtain rfl:k=f.st.length:=by omega
   go_wp2
   go_loopw [4] (fun p wr=> ∃k:Nat,k<=f.li.length∧p=.int .i64 k∧(∀s∈f.li.take k,s.size<=100)∧wr.heap[w.heap.size]?=some (.cells (fq A1 A2 A3 A4 c1 c2 c3 c4 f) 28 (0,0))∧Below w.heap.size w wr) (fun p _=>f.li.length-(intOf p).toNat)
   case atStart=>exact⟨0,by omega,rfl,by simp,kb,hb1⟩
   case round=>
    clear aQ aS kb hb1
    obtain⟨k,hk,rfl,hs2,kb,hb1⟩:=hrel
    obtain⟨aQ,aS⟩:=ah kb
    by_cases hlt:k<f.li.length
    ·obtain⟨b,off,rfl,mQ,q0⟩:=d9.gY (hf.li.below hb1) hlt
     by_cases hz:100<f.li[k].size
     ·have hv:Hid (Pl.vast f=true):=Lib.hid (by unfold Pl.vast;simp only[Bool.or_eq_true,List.any_eq_true,decide_eq_true_eq];exact .inr (.inl (.inr ⟨_,List.getElem_mem hlt,hz⟩)))
      go_wp2
      go_ret
      exact⟨aD hv.out.symm,hb1⟩
     ·go_wp2
      go_roundw
      case rel=>exact⟨k+1,by omega,by go_num,by intro s hs';rw[List.take_succ_eq_append_getElem hlt,List.mem_append]at hs';rcases hs' with h|h;exact hs2 _ h;simp at h;subst h;omega,kb,hb1⟩
      case measure=>simp[intOf];try omega
    ·obtain rfl:k=f.li.length:=by omega
     go_wp2
     go_loopw [5] (fun p wr=> ∃k:Nat,k<=f.pa.length∧p=.int .i64 k∧(∀s∈f.pa.take k,s.name.size<=100)∧wr.heap[w.heap.size]?=some (.cells (fq A1 A2 A3 A4 c1 c2 c3 c4 f) 28 (0,0))∧Below w.heap.size w wr) (fun p _=>f.pa.length-(intOf p).toNat)
     case atStart=>exact⟨0,by omega,rfl,by simp,kb,hb1⟩
     case round=>
      clear aQ aS kb hb1
      obtain⟨k,hk,rfl,hs3,kb,hb1⟩:=hrel
      obtain⟨aQ,aS⟩:=ah kb
      by_cases hlt:k<f.pa.length
      ·obtain⟨b,off,rfl,mQ,q0,q1,q2,q3⟩:=om.at4 (hf.pa.below hb1) hlt
       by_cases hz:100<f.pa[k].name.size
       ·have hv:Hid (Pl.vast f=true):=Lib.hid (by unfold Pl.vast;simp only[Bool.or_eq_true,List.any_eq_true,decide_eq_true_eq];exact .inr (.inr ⟨_,List.getElem_mem hlt,hz⟩))
        go_wp2
        go_ret
        exact⟨aD hv.out.symm,hb1⟩
       ·go_wp2
        go_roundw
        case rel=>exact⟨k+1,by omega,by go_num,by intro s hs';rw[List.take_succ_eq_append_getElem hlt,List.mem_append]at hs';rcases hs' with h|h;exact hs3 _ h;simp at h;subst h;omega,kb,hb1⟩
        case measure=>simp[intOf];try omega
      ·obtain rfl:k=f.pa.length:=by omega
       rw[List.take_length]at hs hs2 hs3
       have hv:Hid (Pl.vast f=false):=Lib.hid (by
        unfold Pl.vast
        simp only[Bool.or_eq_false_iff,List.any_eq_false,decide_eq_true_eq,decide_eq_false_iff_not]
        exact⟨⟨⟨⟨by omega,by omega⟩,by omega⟩,by omega⟩,⟨fun s hs'=>by have:=hs s hs';omega,fun s hs'=>by have:=hs2 s hs';omega⟩,fun s hs'=>by have:=hs3 s hs';omega⟩)
       go_wp2
       go_ret
       exact⟨aD hv.out.symm,hb1⟩
attribute [-go_sem] run_equalIn_agg storeVar loadVar
attribute [local go_sem] bZ bH dU aT dD nE Bc eB
theorem Pl.yg {f:Pl.aL}(h:Pl.vast f=false):f.st.length<=20∧f.li.length<=20∧f.pa.length<=60∧f.va.length<=60∧(∀s∈f.st,s.1.size<=100)∧(∀s∈f.li,s.size<=100)∧ ∀p∈f.pa,p.name.size<=100:=by
 unfold Pl.vast at h
 simp only[Bool.or_eq_false_iff,List.any_eq_false,decide_eq_true_eq,decide_eq_false_iff_not]at h
 obtain⟨⟨⟨⟨a,b⟩,c⟩,d⟩,⟨e,g⟩,k⟩:=h
 exact⟨by omega,by omega,by omega,by omega,fun s hs=>by have:=e s hs;omega,fun s hs=>by have:=g s hs;omega,fun s hs=>by have:=k s hs;omega⟩
theorem Pl.Gm {f:Pl.aL}(h:Pl.vast f=false):Small f:=by
 obtain⟨a,b,c,d,e,g,k⟩:=Pl.yg h
 exact⟨by omega,by omega,by omega,by omega,fun s hs=>by have:=e s hs;omega,fun s hs=>by have:=g s hs;omega,fun s hs=>by have:=k s hs;omega⟩
theorem Gn (w:World)(hf:bB w w.heap.size A1 A2 A3 A4 f)(b:Bool)(hb:Hid (Pl.vast f=b)):
  Calls prog 23 #[.agg (fq A1 A2 A3 A4 c1 c2 c3 c4 f)] w fun e w'=>e=.returned (.bool b)∧Below w.heap.size w w':=by
 rw[<-hb.out]
 by_cases h:f.st.length<=20∧f.li.length<=20∧f.pa.length<=60∧f.va.length<=60
 ·exact yg A1 A2 A3 A4 c1 c2 c3 c4 f w hf h.1 h.2.1 h.2.2.1 h.2.2.2
 ·exact JO A1 A2 A3 A4 c1 c2 c3 c4 f w (by omega)
end Go.Proofs
namespace Go.Proofs
open Tryz
variable (A1 A2 A3 A4 : Option Addr) (c1 c2 c3 c4 : Nat) (f : Pl.aL)
namespace Pl
variable (A1 A2 A3 A4 : Option Addr) (c1 c2 c3 c4 : Nat) (f : Pl.aL)
instance : Inhabited Bd := ⟨⟨0, 0, 0, 0⟩⟩
theorem Ad {f:aL}{c:aZ}(h:fP f c=0):c.tab f.st.length f.li.length:=by
 unfold fP at h
 split at h
 ·cases h
 ·rename_i h1;exact Classical.not_not.1 h1
end Pl
namespace Pl
variable (A1 A2 A3 A4 : Option Addr) (c1 c2 c3 c4 : Nat) (f : Pl.aL)
def o8 (S L:Nat)(l s:Int):Bool:=bQ l 0 ((L:Int)-1)&&bQ s 0 ((S:Int)-1)
def yh (L:Nat)(c:aZ):Bool:=decide (c.lim<c.bL)&&decide (c.bL<(L:Int))
def BM (S L:Nat)(c:aZ):Bool:=
 o8 S L c.lim c.fr&&(bQ c.er 0 100000&&
 (if c.kind=1 then c.aB.qO&&(c.bL==0&&(c.till==0&&bQ c.size 0 100000))
 else if c.kind=2 then c.aB.qO&&(yh L c&&(c.till==0&&bQ c.size 0 100000))
 else if c.kind=3 then c.bL==0&&(c.size==0&&(c.er==0&&(bQ c.till 0 ((S:Int)-1)&&c.till !=c.fr)))
 else if c.kind=4 then c.aB.qO&&(yh L c&&(c.size==0&&(c.er==0&&(decide (c.fr<c.till)&&decide (c.till<(S:Int))))))
 else if c.kind=5 then c.aB.qO&&(c.bL==0&&(bQ c.till 0 ((S:Int)-1)&&(c.till !=c.fr&&bQ c.size (-100000) 100000)))
 else false))
theorem yj {S L:Nat}{c:aZ}:BM S L c=true↔c.tab S L:=by
 unfold BM aZ.tab o8 yh bQ mO
 by_cases h1:c.kind=1
 ·simp[h1,bF.lV]
  grind
 rw[if_neg h1]
 by_cases h2:c.kind=2
 ·simp[h2,bF.lV]
  grind
 rw[if_neg h2]
 by_cases h3:c.kind=3
 ·simp[h3]
  grind
 rw[if_neg h3]
 by_cases h4:c.kind=4
 ·simp[h4,bF.lV]
  grind
 rw[if_neg h4]
 by_cases h5:c.kind=5
 ·simp[h5,bF.lV]
  grind
 ·rw[if_neg h5]
  simp[h1,h2,h3,h4,h5]
def Gp (f:aL)(c:aZ):Int:=
 if BM f.st.length f.li.length c=false then 1
 else if c.kind≠3 then 0
 else if c.aB.ok=false then 1
 else if jA f.va [c.aB] (kH f.st c)≠0 then jA f.va [c.aB] (kH f.st c)
 else if (com f.va [c.aB] (kH f.st c)).2.2=true then 0 else 5
theorem JQ (f:aL)(c:aZ):Gp f c=fP f c:=by
 unfold Gp fP
 by_cases ht:c.tab f.st.length f.li.length
 ·have:BM f.st.length f.li.length c=true:=yj.2 ht
  simp[this,ht]
 ·have:BM f.st.length f.li.length c=false:=by
   cases h:BM f.st.length f.li.length c with
   |false=>rfl
   |true=>exact absurd (yj.1 h) ht
  simp[this,ht]
end Pl
open RowKit
theorem mq (c:Pl.aZ)(W:World):(Op.equalIn 10000 46 (.agg (cq c.aB)) (.agg z6)).run prog W=.ok c.aB.qO W:=by
 unfold Pl.bF.qO
 simp[go_sem]
 repeat' split
 all_goals simp_all
theorem dS {w:World}{g:Nat}{a0 a1 a2 a3 a4 a5 a6 b n l y x s:Value}(hg:w.heap[g]?=some (.cells #[a0,a1,a2,a3,a4,a5,a6,b,n,l,y,x,s] 48 (0,0))):
  (loadVar 46 ⟨g,7,none⟩).run prog w=.ok (.agg #[b,n,l,y,x,s]) w:=
 run_loadVar_mid w g 7 _ _ _ (wX (n:=6) hg rfl) underlying46 rfl (by kernel_rfl)
