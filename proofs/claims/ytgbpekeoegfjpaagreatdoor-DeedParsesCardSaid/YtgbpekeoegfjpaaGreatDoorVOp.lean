/- Proved: parts of the walk. -/
import Derived.Test.YtgbpekeoegfjpaaGreatDoorCards
import Derived.Test.YtgbpekeoegfjpaaGreatDoorTie
import Derived.Deep.DeepWitnessRowRef
import Derived.Deep.Slices
import Derived.Lay
import Derived.Stop.LaidErr
import Derived.Test.YtgbpekeoegfjpaaGreatDoorVZ04
set_option maxRecDepth 100000
namespace Go.Proofs.YtgbpekeoegfjpaaGreatDoor
open RowKit Go.ChangeShapes Go.WideShapes Go.Deep
section
variable {H : Type} {enc : TypeId × Value -> H} {W W' : World} {base : Nat} {r : Reach}
theorem trodAll_below {P:Program}(hl:laidOutB P=true): ∀ {ts:List TypeId} {vs:List Value} {ds:List (DataW H)} {ps:List MemPlace},(∀t∈ts,P.readableRec t=true∧t<P.types.size)->
  DataW.TrodAll enc P W 0 (fun _=>true) true ts vs ds ps->Below W.heap.size W W'->(∀x∈ps,x.block<W.heap.size)->DataW.TrodAll enc P W' 0 (fun b=>decide (b<W.heap.size)) true ts vs ds ps
 | [],[],[],_,_,h,_,_=>h
 | _ ::_,_::_,_::_,_,hT,⟨p,q,h1,h2,e⟩,hb,hlt=>
  ⟨p,q,Below.trod hl (hT _ (List.mem_cons.2 (Or.inl rfl))).1 (hT _ (List.mem_cons.2 (Or.inl rfl))).2 h1 hb (fun x hx=>hlt x (by rw[e];exact List.mem_append_left _ hx)),
   trodAll_below hl (fun t ht=>hT t (List.mem_cons.2 (Or.inr ht))) h2 hb (fun x hx=>hlt x (by rw[e];exact List.mem_append_right _ hx)),e⟩
theorem list_of {α:Type} {p:Nat->α->Prop}: ∀n,(∀i,i<n-> ∃x,p i x)-> ∃l:List α,l.length=n∧ ∀i x,l[i]?=some x->p i x
 |0,_=>⟨[],rfl,by simp⟩
 | n + 1,h=>by
  obtain⟨l,hl,hp⟩:=list_of n (fun i hi=>h i (by omega))
  obtain⟨x,hx⟩:=h n (by omega)
  refine⟨l++[x],by simp[hl],fun i y hy=> ?_⟩
  by_cases hi:i<n
  ·rw[List.getElem?_append_left (by omega)]at hy;exact hp i y hy
  ·rw[List.getElem?_append_right (by omega)]at hy
   obtain rfl:i=n:=by
    have:=(List.getElem?_eq_some_iff.1 hy).1;simp at this;omega
   simp[hl]at hy;subst hy;exact hx
theorem plain_at {w:World}{a:Addr}{v:Value}(h:w.cell? (a.add 0)=some v): ∃b off,a=⟨b,off,none⟩:=by
 obtain⟨b,off,spot⟩:=a
 have hspot:spot=none:=by simpa [Addr.add]using World.cell?_spot h
 subst hspot
 exact⟨b,off,rfl⟩
theorem seg_of {P:Program}{α:Type}{AZ:α->List Value}{n:Nat}{t e:TypeId}{fuel:Nat}{cs:List Value}{y:DataW H×List MemPlace}(ht:P.underlying t=some (.slice e))(hc:P.cellsOf e=n)(hn:0<n)
  (hel: ∀fuel cs y,DataW.trod enc P W 0 (fun _=>true) true fuel e cs=some y-> ∃x:α,cs=AZ x)
  (hsz: ∀x,(AZ x).length=n)
  (hf:DataW.trod enc P W 0 (fun _=>true) true fuel t cs=some y):
  ∃(A:Option Addr) (l:List α) (c:Nat),cs=[.slice A l.length c]∧Seg AZ n W W.heap.size A l∧l.length<=c∧c<=maxLen:=by
 rcases open_slice ht hf with ⟨hcs,hx⟩|⟨a,len,cap,m,n',D,Pl,hcs,hb,hl,hm,hmm,hx,hi⟩
 ·exact⟨none,[],0,hcs,.inl rfl,by simp,by simp⟩
 ·have hm2:m=cap:=by simpa using hmm
  obtain⟨l,hll,hp⟩:=list_of (p:=fun i (x:α)=> ∀j u,(AZ x)[j]?=some u->W.cell? (a.add (i*n+j))=some u) len (by
   intro i hi'
   obtain⟨cs',hc',ht'⟩:=hi i (by omega)
   obtain⟨x,rfl⟩:=hel _ _ _ ht'
   obtain⟨_,hcl,hat⟩:=World.cells?_some hc'
   refine⟨x,fun j u hu=> ?_⟩
   have hj:j<n:=by have:=(List.getElem?_eq_some_iff.1 hu).1;rw[hsz]at this;exact this
   rw[hc]at hat
   rw[<-add_add,hat j hj,hu])
  subst hll
  refine⟨some a,l,cap,hcs,?_,hl,hm⟩
  cases l with
  |nil=>exact .inl rfl
  | cons x l=>
   have h0:=hp 0 x rfl 0 ((AZ x)[0]'(by rw[hsz];exact hn)) (List.getElem?_eq_getElem _)
   rw[Nat.zero_mul,Nat.add_zero]at h0
   obtain⟨b,off,rfl⟩:=plain_at h0
   have hblk:=block_lt_of_cell h0
   refine .inr ⟨b,off,rfl,by simpa [Addr.add]using hblk,fun k y hy j u hu=> ?_⟩
   have:=hp k y hy j u hu
   rw[Go.WideShapes.add_plain]at this
   rw[Nat.add_assoc];exact this
theorem trod_nm {sp:Nat->Bool}{held:Bool}(fuel:Nat)(cs:List Value)(y:DataW H×List MemPlace)(h:DataW.trod enc Tryz.prog W 0 sp held fuel 9 cs=some y): ∃x:ByteArray,cs=fU x:=by
 obtain⟨s,e,_,_⟩:=DataW.trod_string Tryz.underlying9 h
 exact⟨s,e⟩
theorem trod_var {sp:Nat->Bool}{held:Bool}(fuel:Nat)(cs:List Value)(y:DataW H×List MemPlace)(h:DataW.trod enc Tryz.prog W 0 sp held fuel 114 cs=some y): ∃x:Int×Int,cs=oF x:=by
 obtain⟨xs,n,rfl,hx,hlen,hxl,hf⟩:=DataW.trod_struct Tryz.underlying114 h
 rw[show Tryz.prog.cellsOf 114=2 by kernel_rfl]at hlen
 have k:Tryz.prog.cellsOf 3=1:=by kernel_rfl
 match cs,hlen,xs,hxl with
 | [c0,c1],_,[x0,x1],_=>
  have h0:=hf 0 _ rfl
  have h1:=hf 1 _ rfl
  simp[k]at h0 h1
  obtain⟨a0,e0,_,_⟩:=DataW.trod_int Tryz.underlying3 h0
  obtain⟨a1,e1,_,_⟩:=DataW.trod_int Tryz.underlying3 h1
  simp at e0 e1
  exact⟨(a0,a1),by simp[oF,e0,e1]⟩
theorem trod_sta {sp:Nat->Bool}{held:Bool}(fuel:Nat)(cs:List Value)(y:DataW H×List MemPlace)(h:DataW.trod enc Tryz.prog W 0 sp held fuel 50 cs=some y): ∃x:ByteArray×Int,cs=nA x:=by
 obtain⟨xs,n,rfl,hx,hlen,hxl,hf⟩:=DataW.trod_struct Tryz.underlying50 h
 rw[show Tryz.prog.cellsOf 50=2 by kernel_rfl]at hlen
 have k:Tryz.prog.cellsOf 3=1:=by kernel_rfl
 have k2:Tryz.prog.cellsOf 9=1:=by kernel_rfl
 match cs,hlen,xs,hxl with
 | [c0,c1],_,[x0,x1],_=>
  have h0:=hf 0 _ rfl
  have h1:=hf 1 _ rfl
  simp[k,k2]at h0 h1
  obtain⟨a0,e0,_,_⟩:=DataW.trod_string Tryz.underlying9 h0
  obtain⟨a1,e1,_,_⟩:=DataW.trod_int Tryz.underlying3 h1
  simp at e0 e1
  exact⟨(a0,a1),by simp[nA,e0,e1]⟩
theorem trod_par {sp:Nat->Bool}{held:Bool}(fuel:Nat)(cs:List Value)(y:DataW H×List MemPlace)(h:DataW.trod enc Tryz.prog W 0 sp held fuel 112 cs=some y): ∃x:Pl.oz,cs=mG x:=by
 obtain⟨xs,n,rfl,hx,hlen,hxl,hf⟩:=DataW.trod_struct Tryz.underlying112 h
 rw[show Tryz.prog.cellsOf 112=4 by kernel_rfl]at hlen
 have k:Tryz.prog.cellsOf 3=1:=by kernel_rfl
 have k2:Tryz.prog.cellsOf 9=1:=by kernel_rfl
 match cs,hlen,xs,hxl with
 | [c0,c1,c2,c3],_,[x0,x1,x2,x3],_=>
  have h0:=hf 0 _ rfl
  have h1:=hf 1 _ rfl
  have h2:=hf 2 _ rfl
  have h3:=hf 3 _ rfl
  simp[k,k2]at h0 h1 h2 h3
  obtain⟨a0,e0,_,_⟩:=DataW.trod_string Tryz.underlying9 h0
  obtain⟨a1,e1,_,_⟩:=DataW.trod_int Tryz.underlying3 h1
  obtain⟨a2,e2,_,_⟩:=DataW.trod_int Tryz.underlying3 h2
  obtain⟨a3,e3,_,_⟩:=DataW.trod_int Tryz.underlying3 h3
  simp at e0 e1 e2 e3
  exact⟨⟨a0,a1,a2,a3⟩,by simp[mG,e0,e1,e2,e3]⟩
theorem open_fld {v:Value}{d:DataW H}{p:List MemPlace}(hval:Value.okWide Tryz.prog W r base 28 v)(h:DataW.Trod enc Tryz.prog W 0 (fun _=>true) true 28 v d p):
  ∃(A1 A2 A3 A4:Option Addr) (c1 c2 c3 c4:Nat) (f:Pl.aL),v=.agg (fq A1 A2 A3 A4 c1 c2 c3 c4 f)∧bB W W.heap.size A1 A2 A3 A4 f∧dY c1 c2 c3 c4 f:=by
 obtain⟨cs,rfl,hsz⟩:=okWide_struct Tryz.underlying28 hval
 obtain⟨fuel,hf⟩:=h
 obtain⟨xs,n,e,hx,hlen,hxl,hf⟩:=DataW.trod_struct Tryz.underlying28 hf
 simp only[Value.cells]at hlen hf
 rw[show Tryz.prog.cellsOf 28=4 by kernel_rfl]at hlen
 have k1:Tryz.prog.cellsOf 23=1:=by kernel_rfl
 have k2:Tryz.prog.cellsOf 24=1:=by kernel_rfl
 have k3:Tryz.prog.cellsOf 25=1:=by kernel_rfl
 have k4:Tryz.prog.cellsOf 26=1:=by kernel_rfl
 obtain⟨cs⟩:=cs
 match cs,hlen,xs,hxl with
 | [d0,d1,d2,d3],_,[x0,x1,x2,x3],_=>
  have h0:=hf 0 _ rfl
  have h1:=hf 1 _ rfl
  have h2:=hf 2 _ rfl
  have h3:=hf 3 _ rfl
  simp[k1,k2,k3,k4]at h0 h1 h2 h3
  obtain⟨A1,l1,c1,e1,s1,m1,_⟩:=seg_of (AZ:=nA) (n:=2) Tryz.underlying23 (by kernel_rfl) (by decide) trod_sta (fun _=>rfl) h0
  obtain⟨A2,l2,c2,e2,s2,m2,_⟩:=seg_of (AZ:=fU) (n:=1) Tryz.underlying24 (by kernel_rfl) (by decide) trod_nm (fun _=>rfl) h1
  obtain⟨A3,l3,c3,e3,s3,m3,_⟩:=seg_of (AZ:=mG) (n:=4) Tryz.underlying25 (by kernel_rfl) (by decide) trod_par (fun _=>rfl) h2
  obtain⟨A4,l4,c4,e4,s4,m4,_⟩:=seg_of (AZ:=oF) (n:=2) Tryz.underlying26 (by kernel_rfl) (by decide) trod_var (fun _=>rfl) h3
  simp at e1 e2 e3 e4
  subst e1 e2 e3 e4
  exact⟨A1,A2,A3,A4,c1,c2,c3,c4,⟨l1,l2,l3,l4⟩,rfl,⟨s1,s2,s3,s4⟩,⟨m1,m2,m3,m4⟩⟩
end
end Go.Proofs.YtgbpekeoegfjpaaGreatDoor
