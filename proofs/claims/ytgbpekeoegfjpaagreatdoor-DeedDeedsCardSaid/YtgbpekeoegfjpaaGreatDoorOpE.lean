/- Arguments of the laws, opened: lists of deeds. -/
import Derived.Test.YtgbpekeoegfjpaaGreatDoorOp
import Derived.Test.YtgbpekeoegfjpaaGreatDoorP7
set_option maxRecDepth 100000
namespace Go.Proofs.YtgbpekeoegfjpaaGreatDoor
open Go.RowKit Go.ChangeShapes Go.WideShapes Go.Deep
section
variable {H : Type} {enc : TypeId × Value -> H} {W : World} {base : Nat} {r : Reach}
theorem seg_ofP {P:Program}{α:Type}{Q:α->Prop}{encE:α->List Value}{n:Nat}{t e:TypeId}{fuel:Nat}{cs:List Value}{y:DataW H×List MemPlace}(ht:P.underlying t=some (.slice e))(hc:P.cellsOf e=n)(hn:0<n)
    (hel: ∀fuel cs y,DataW.trod enc P W 0 (fun _=>true) true fuel e cs=some y-> ∃x:α,cs=encE x∧Q x)
    (hsz: ∀x,(encE x).length=n)
    (hf:DataW.trod enc P W 0 (fun _=>true) true fuel t cs=some y):
    ∃(A:Option Addr) (l:List α) (c:Nat),cs=[.slice A l.length c]∧Seg encE n W W.heap.size A l∧l.length<=c∧c<=maxLen∧ ∀x∈l,Q x:=by
  obtain⟨A,l,c,e1,hs,h1,h2⟩:=seg_of (α:= {x:α//Q x}) (encE:=fun x=>encE x.1) (n:=n) ht hc hn (fun f c y h=>by obtain⟨x,e,hq⟩:=hel f c y h;exact⟨⟨x,hq⟩,e⟩) (fun x=>hsz x.1) hf
  refine⟨A,l.map (·.1),c,by simpa using e1,?_,by simpa using h1,h2,fun x hx=> ?_⟩
  · rcases hs with h|⟨b,off,hA,hb,hx⟩
    ·exact .inl (by rw[h];rfl)
    · refine .inr ⟨b,off,hA,hb,fun k x hk j v hv=> ?_⟩
      rw[List.getElem?_map]at hk
      obtain⟨x',hx',rfl⟩:=Option.map_eq_some_iff.1 hk
      exact hx k x' hx' j v hv
  · obtain⟨x',_,rfl⟩:=List.mem_map.1 hx
    exact x'.2
theorem trod_ded (fuel:Nat)(cs:List Value)(y:DataW H×List MemPlace)(h:DataW.trod enc Tryz.prog W 0 (fun _=>true) true fuel 90 cs=some y):
    ∃x:Pl.Ded×Option Addr×Nat,cs=encDd x∧(Cals W W.heap.size x.2.1 x.1.calls∧ ∀c∈x.1.calls,c.kind<=255):=by
  obtain⟨xs,n,rfl,hx,hlen,hxl,hf⟩:=DataW.trod_struct Tryz.underlying90 h
  rw[show Tryz.prog.cellsOf 90=4 by kernel_rfl]at hlen
  have k:Tryz.prog.cellsOf 3=1:=by kernel_rfl
  have k2:Tryz.prog.cellsOf 9=1:=by kernel_rfl
  have k3:Tryz.prog.cellsOf 88=1:=by kernel_rfl
  match cs,hlen,xs,hxl with
  | [c0,c1,c2,c3],_,[x0,x1,x2,x3],_=>
    have h0:=hf 0 _ rfl
    have h1:=hf 1 _ rfl
    have h2:=hf 2 _ rfl
    have h3:=hf 3 _ rfl
    simp[k,k2,k3]at h0 h1 h2 h3
    obtain⟨a0,e0,_,_⟩:=DataW.trod_string Tryz.underlying9 h0
    obtain⟨a1,e1,_,_⟩:=DataW.trod_int Tryz.underlying3 h1
    obtain⟨a2,e2,_,_⟩:=DataW.trod_int Tryz.underlying3 h2
    obtain⟨A3,l3,d3,e3,s3,m3,_,q3⟩:=seg_ofP (encE:=encCl) (Q:=fun c=>c.kind<=255) (n:=13) Tryz.underlying88 (by kernel_rfl) (by decide) trod_cal (fun _=>rfl) h3
    simp at e0 e1 e2 e3
    exact⟨(⟨a0,a1,a2,l3⟩,A3,d3),by simp[encDd,slv,e0,e1,e2,e3],s3,q3⟩
theorem open_deds {v:Value}{d:DataW H}{p:List MemPlace}(hval:Value.okWide Tryz.prog W r base 38 v)(h:DataW.Trod enc Tryz.prog W 0 (fun _=>true) true 38 v d p):
    ∃(A:Option Addr) (l:List (Pl.Ded×Option Addr×Nat)) (c:Nat),v=.slice A l.length c∧DedS W W.heap.size A l∧l.length<=c∧ ∀x∈l,∀c∈x.1.calls,c.kind<=255:=by
  obtain⟨a0,len,cap,rfl⟩:=okWide_slice Tryz.underlying38 hval
  obtain⟨fuel,hf⟩:=h
  obtain⟨A,l,c,e,h1,h2,_,h4⟩:=seg_ofP (encE:=encDd) (n:=4) Tryz.underlying38 (by kernel_rfl) (by decide) trod_ded (fun _=>rfl) hf
  simp[Value.cells]at e
  obtain⟨rfl,rfl,rfl⟩:=e
  exact⟨_,l,_,rfl,⟨h1,fun x hx=>(h4 x hx).1⟩,h2,fun x hx=>(h4 x hx).2⟩
end
end Go.Proofs.YtgbpekeoegfjpaaGreatDoor
