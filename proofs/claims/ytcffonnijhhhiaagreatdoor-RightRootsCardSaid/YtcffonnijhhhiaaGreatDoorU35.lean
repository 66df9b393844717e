/- Part U35 of the proof: Op. -/
import Derived.Deep.Slices
import Derived.OpenShut
import Derived.Carry
import Derived.ChangeMaps5
import Derived.Test.YtcffonnijhhhiaaGreatDoorU34
import Derived.Test.YtcffonnijhhhiaaGreatDoorU32
set_option linter.all false
set_option linter.unusedSimpArgs false
set_option linter.unusedVariables false
set_option linter.unusedSectionVars false
namespace Go.Proofs.YtcffonnijhhhiaaGreatDoor
open Go.RowKit Go.ChangeShapes Go.WideShapes Go.Deep
section
variable {H : Type} {enc : TypeId × Value → H} {W W' : World} {base : Nat} {r : Reach}
theorem trodAll_below {P:Program}(hl:laidOutB P=true): ∀ {ts:List TypeId} {vs:List Value} {ds:List (DataW H)} {ps:List MemPlace},(∀t∈ts,P.readableRec t=true∧t<P.types.size)→
  DataW.TrodAll enc P W 0 (fun _=>true) true ts vs ds ps→Below W.heap.size W W'→(∀x∈ps,x.block<W.heap.size)→DataW.TrodAll enc P W' 0 (fun b=>decide (b<W.heap.size)) true ts vs ds ps
 | [],[],[],_,_,h,_,_=>h
 |_::_,_::_,_::_,_,hT,⟨p,q,h1,h2,e⟩,hb,hlt=>
  ⟨p,q,Below.trod hl (hT _ (List.mem_cons.2 (Or.inl rfl))).1 (hT _ (List.mem_cons.2 (Or.inl rfl))).2 h1 hb (fun x hx=>hlt x (by rw[e];exact List.mem_append_left _ hx)),
   trodAll_below hl (fun t ht=>hT t (List.mem_cons.2 (Or.inr ht))) h2 hb (fun x hx=>hlt x (by rw[e];exact List.mem_append_right _ hx)),e⟩
theorem list_of {α:Type}{p:Nat→α→Prop}: ∀n,(∀i,i<n→ ∃x,p i x)→ ∃l:List α,l.length=n∧ ∀i x,l[i]?=some x→p i x
 |0,_=>⟨[],rfl,by simp⟩
 |n+1,h=>by
  obtain⟨l,hl,hp⟩:=list_of n (fun i hi=>h i (by omega))
  obtain⟨x,hx⟩:=h n (by omega)
  refine⟨l++[x],by simp[hl],fun i y hy=> ?_⟩
  by_cases hi:i<n
  ·rw[List.getElem?_append_left (by omega)]at hy;exact hp i y hy
  ·rw[List.getElem?_append_right (by omega)]at hy
   obtain rfl:i=n:=by
    have:=(List.getElem?_eq_some_iff.1 hy).1;simp at this;omega
   simp[hl]at hy;subst hy;exact hx
theorem plain_at {w:World}{a:Addr}{v:Value}(h:w.cell? (a.add 0)=some v): ∃b off,a=⟨b,off,none⟩:=by
 obtain⟨b,off,spot⟩:=a
 have hspot:spot=none:=by simpa [Addr.add]using World.cell?_spot h
 subst hspot
 exact⟨b,off,rfl⟩
theorem seg_of {P:Program}{α:Type}{encE:α→List Value}{n:Nat}{t e:TypeId}{fuel:Nat}{cs:List Value}{y:DataW H×List MemPlace}(ht:P.underlying t=some (.slice e))(hc:P.cellsOf e=n)(hn:0<n)
  (hel: ∀fuel cs y,DataW.trod enc P W 0 (fun _=>true) true fuel e cs=some y→ ∃x:α,cs=encE x)
  (hsz: ∀x,(encE x).length=n)
  (hf:DataW.trod enc P W 0 (fun _=>true) true fuel t cs=some y):
  ∃(A:Option Addr) (l:List α) (c:Nat),cs=[.slice A l.length c]∧Seg encE n W W.heap.size A l∧l.length≤c∧c≤maxLen:=by
 rcases open_slice ht hf with ⟨hcs,hx⟩|⟨a,len,cap,m,n',D,Pl,hcs,hb,hl,hm,hmm,hx,hi⟩
 ·exact⟨none,[],0,hcs,.inl rfl,by simp,by simp⟩
 ·have hm2:m=cap:=by simpa using hmm
  obtain⟨l,hll,hp⟩:=list_of (p:=fun i (x:α)=> ∀j u,(encE x)[j]?=some u→W.cell? (a.add (i*n+j))=some u) len (by
   intro i hi'
   obtain⟨cs',hc',ht'⟩:=hi i (by omega)
   obtain⟨x,rfl⟩:=hel _ _ _ ht'
   obtain⟨_,hcl,hat⟩:=World.cells?_some hc'
   refine⟨x,fun j u hu=> ?_⟩
   have hj:j<n:=by have:=(List.getElem?_eq_some_iff.1 hu).1;rw[hsz]at this;exact this
   rw[hc]at hat
   rw[←add_add,hat j hj,hu])
  subst hll
  refine⟨some a,l,cap,hcs,?_,hl,hm⟩
  cases l with
  |nil=>exact .inl rfl
  |cons x l=>
   have h0:=hp 0 x rfl 0 ((encE x)[0]'(by rw[hsz];exact hn)) (List.getElem?_eq_getElem _)
   rw[Nat.zero_mul,Nat.add_zero]at h0
   obtain⟨b,off,rfl⟩:=plain_at h0
   have hblk:=block_lt_of_cell h0
   refine .inr ⟨b,off,rfl,by simpa [Addr.add]using hblk,fun k y hy j u hu=> ?_⟩
   have:=hp k y hy j u hu
   rw[Go.WideShapes.add_plain]at this
   rw[Nat.add_assoc];exact this
theorem trod_in {sp:Nat→Bool}{held:Bool}(fuel:Nat)(cs:List Value)(y:DataW H×List MemPlace)(h:DataW.trod enc Tryz.prog W 0 sp held fuel 3 cs=some y): ∃x:Int,cs=encInt x:=by
 obtain⟨n,e,_,_⟩:=DataW.trod_int Tryz.underlying3 h
 exact⟨n,e⟩
theorem seg_ofP {P:Program}{α:Type}{Q:α→Prop}{encE:α→List Value}{n:Nat}{t e:TypeId}{fuel:Nat}{cs:List Value}{y:DataW H×List MemPlace}(ht:P.underlying t=some (.slice e))(hc:P.cellsOf e=n)(hn:0<n)
  (hel: ∀fuel cs y,DataW.trod enc P W 0 (fun _=>true) true fuel e cs=some y→ ∃x:α,cs=encE x∧Q x)
  (hsz: ∀x,(encE x).length=n)
  (hf:DataW.trod enc P W 0 (fun _=>true) true fuel t cs=some y):
  ∃(A:Option Addr) (l:List α) (c:Nat),cs=[.slice A l.length c]∧Seg encE n W W.heap.size A l∧l.length≤c∧c≤maxLen∧ ∀x∈l,Q x:=by
 obtain⟨A,l,c,e1,hs,h1,h2⟩:=seg_of (α:= {x:α//Q x}) (encE:=fun x=>encE x.1) (n:=n) ht hc hn (fun f c y h=>by obtain⟨x,e,hq⟩:=hel f c y h;exact⟨⟨x,hq⟩,e⟩) (fun x=>hsz x.1) hf
 refine ⟨A, l.map (·.1), c, by simpa using e1, ?_, by simpa using h1, h2, fun x hx => ?_⟩
 ·rcases hs with h|⟨b,off,hA,hb,hx⟩
  ·exact .inl (by rw[h];rfl)
  ·refine .inr ⟨b,off,hA,hb,fun k x hk j v hv=> ?_⟩
   rw[List.getElem?_map]at hk
   obtain⟨x',hx',rfl⟩:=Option.map_eq_some_iff.1 hk
   exact hx k x' hx' j v hv
 ·obtain⟨x',_,rfl⟩:=List.mem_map.1 hx
  exact x'.2
set_option maxRecDepth 100000 in
theorem trod_deal (fuel:Nat)(cs:List Value)(y:DataW H×List MemPlace)(h:DataW.trod enc Tryz.prog W 0 (fun _=>true) true fuel 24 cs=some y):
  ∃p:Dp,cs=encD p∧(Ints W W.heap.size p.A1 p.x.into∧Ints W W.heap.size p.A2 p.x.sizes∧p.x.into.length≤p.c1∧p.x.sizes.length≤p.c2):=by
 obtain⟨xs,n,rfl,hx,hlen,hxl,hf⟩:=DataW.trod_struct Tryz.underlying24 h
 rw[show Tryz.prog.cellsOf 24=11 by kernel_rfl]at hlen
 have k:Tryz.prog.cellsOf 3=1:=by kernel_rfl
 have k2:Tryz.prog.cellsOf 5=1:=by kernel_rfl
 have k3:Tryz.prog.cellsOf 22=1:=by kernel_rfl
 match cs,hlen,xs,hxl with
 | [c0,c1,c2,c3,c4,c5,c6,c7,c8,c9,c10],_,[x0,x1,x2,x3,x4,x5,x6,x7,x8,x9,x10],_=>
  have h0:=hf 0 _ rfl
  have h1:=hf 1 _ rfl
  have h2:=hf 2 _ rfl
  have h3:=hf 3 _ rfl
  have h4:=hf 4 _ rfl
  have h5:=hf 5 _ rfl
  have h6:=hf 6 _ rfl
  have h7:=hf 7 _ rfl
  have h8:=hf 8 _ rfl
  have h9:=hf 9 _ rfl
  have h10:=hf 10 _ rfl
  simp[k,k2,k3]at h0 h1 h2 h3 h4 h5 h6 h7 h8 h9 h10
  obtain⟨a0,e0,_,_⟩:=DataW.trod_int Tryz.underlying3 h0
  obtain⟨a1,e1,_,_⟩:=DataW.trod_int Tryz.underlying3 h1
  obtain⟨a2,e2,_,w2⟩:=DataW.trod_int Tryz.underlying5 h2
  obtain⟨a3,e3,_,_⟩:=DataW.trod_int Tryz.underlying3 h3
  obtain⟨a4,e4,_,_⟩:=DataW.trod_int Tryz.underlying3 h4
  obtain⟨a5,e5,_,_⟩:=DataW.trod_int Tryz.underlying3 h5
  obtain⟨a6,e6,_,_⟩:=DataW.trod_int Tryz.underlying3 h6
  obtain⟨a7,e7,_,_⟩:=DataW.trod_int Tryz.underlying3 h7
  obtain⟨a8,e8,_,_⟩:=DataW.trod_int Tryz.underlying3 h8
  obtain⟨A9,l9,d9,e9,s9,m9,_⟩:=seg_of (encE:=encInt) (n:=1) Tryz.underlying22 (by kernel_rfl) (by decide) trod_in (fun _=>rfl) h9
  obtain⟨A10,l10,d10,e10,s10,m10,_⟩:=seg_of (encE:=encInt) (n:=1) Tryz.underlying22 (by kernel_rfl) (by decide) trod_in (fun _=>rfl) h10
  simp at e0 e1 e2 e3 e4 e5 e6 e7 e8 e9 e10
  have hw:0≤a2∧a2≤255:=by
   have:=w2
   unfold Lit.wf at this
   rw[Bool.and_eq_true,decide_eq_true_eq,decide_eq_true_eq]at this
   exact this
  obtain⟨m,rfl⟩:=Int.eq_ofNat_of_zero_le hw.1
  exact⟨⟨⟨a0,a1,m,a3,a4,a5,a6,a7,a8,l9,l10⟩,A9,A10,d9,d10⟩,by simp[encD,xcs,e0,e1,e2,e3,e4,e5,e6,e7,e8,e9,e10],s9,s10,m9,m10⟩
set_option maxRecDepth 100000 in
theorem open_deals {v:Value}{d:DataW H}{p:List MemPlace}(hval:Value.okWide Tryz.prog W r base 34 v)(h:DataW.Trod enc Tryz.prog W 0 (fun _=>true) true 34 v d p):
  ∃(A:Option Addr) (L:List Dp) (c:Nat),v=.slice A L.length c∧Dlo W W.heap.size A L∧L.length≤c∧c≤maxLen:=by
 obtain⟨a0,len,cap,rfl⟩:=okWide_slice Tryz.underlying34 hval
 obtain⟨fuel,hf⟩:=h
 obtain⟨A,l,c,e,h1,h2,h3,h4⟩:=seg_ofP (encE:=encD) (n:=11) Tryz.underlying34 (by kernel_rfl) (by decide) trod_deal (fun _=>rfl) hf
 simp[Value.cells]at e
 obtain⟨rfl,rfl,rfl⟩:=e
 exact⟨_,l,_,rfl,⟨h1,h4⟩,h2,h3⟩
end
end Go.Proofs.YtcffonnijhhhiaaGreatDoor
