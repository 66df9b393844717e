/- Texts of mine, merged: Hi, PlD, PlB, PlE, PlF, PlG, PlH, Pl10, Pl11, PlT, Pl9. -/
import Derived.OrdersHeld
import Derived.OrdersIn
import Derived.Deep.RegionHeld
import Derived.Lib.ItoaNum
import Derived.Lib.ItoaLen
import Derived.Lib.Join
import Derived.Lib.AtoiAll
import Derived.Lib.AtoiAllCases
import Derived.Lib.Split
import Derived.Lib.SplitLaws
import Derived.Test.YtgbpekeoegfjpaaGreatDoorZ00
/- Laws: within a fence, a region that draws its order, with a condition on memory that holds behind each operation: what reads under the condition may be taken first. -/
namespace Go.Proofs.YtgbpekeoegfjpaaGreatDoor
open Go
section
variable {F : Fence} {n : Nat} {P : Program} {ops : Array Oper} {Q : Exit -> Act -> World -> Prop} {md : Region.Mode} {S : World -> Prop}
def YieldsHI (P:Program)(ops:Array Oper)(S:World->Prop)(o:Oper)(v:Value)(a:Act):Prop:=YieldsIf P ops S o v a∧ ∀w,o.about P w a.eval=none
def wpAnyHI (F:Fence)(n:Nat)(P:Program)(md:Region.Mode)(ops:Array Oper)(Q:Exit->Act->World->Prop)(S:World->Prop):Nat->Array Bool->Act->World->Prop
 |0,listed,a,w=>Region.ready md ops listed=[]∧Q .normal a w
 |fuel+1,listed,a,w=>
  (Region.ready md ops listed=[]->Q .normal a w)∧
  ∀i∈Region.ready md ops listed,wpOpIn F n P ops Q i (fun a' w'=>S w'∧wpAnyHI F n P md ops Q S fuel (listed.setIfInBounds i true) a' w') a w
theorem anyIn_of_HI : ∀(fuel:Nat) (listed:Array Bool) (a:Act) (w:World),wpAnyHI F n P md ops Q S fuel listed a w->wpAnyIn F n P md ops Q fuel listed a w
 |0,_,_,_,h=>h
 |fuel+1,_,_,_,h=>⟨h.1,fun i hi=>wpOpIn_mono (fun a' w' h'=>anyIn_of_HI fuel _ a' w' h'.2) (h.2 i hi)⟩
theorem YieldsHI.op {i:Nat}{o:Oper}{v:Value}{a:Act}(hro:F.round=none)(hi:ops[i]?=some o)(hy:YieldsHI P ops S o v a){K:Act->World->Prop}{w:World}(hS:S w)(h:K (a.put o.dst v) w):wpOpIn F n P ops Q i K a w:=by
 have hab: ∀f,o.about P w a.eval=some f->F.fn f:=fun f hf=>by rw[hy.2 w]at hf;cases hf
 unfold wpOpIn
 simp only[hi]
 rcases hy.1 with ⟨hw,hv⟩|⟨hw,rfl⟩
 ·simp only[hw,if_true,Oper.wpIn,hro,Oper.semAt_none,hv w hS,Oper.uponIn]
  exact⟨hab,h⟩
 ·simp only[hw,Bool.false_eq_true,if_false]
  exact⟨hab,h⟩
theorem YieldsHI.same {o:Oper}{v:Value}{a a':Act}(hy:YieldsHI P ops S o v a)(he:execOp a'.eval o=execOp a.eval o)(hw:Region.wanted o (yielded ops a'.tmps)=Region.wanted o (yielded ops a.tmps))(hb: ∀w,o.about P w a'.eval=o.about P w a.eval):YieldsHI P ops S o v a':=
 ⟨hy.1.of_same he hw,fun w=>(hb w).trans (hy.2 w)⟩
theorem op_apart {j:Nat}{oi oj:Oper}{v:Value}(hro:F.round=none)(hj:ops[j]?=some oj)(hap:oi.apart ops oj=true)(hsi: ∀cs b,oi.op≠ .select cs b)(hsj: ∀cs b,oj.op≠ .select cs b)
  (hQ: ∀c a w,Q (.panic c) (a.put oi.dst v) w->Q (.panic c) a w) {K:Act->World->Prop} {a:Act} {w:World} (hy:YieldsHI P ops S oi v a) (h:wpOpIn F n P ops Q j K (a.put oi.dst v) w):
  wpOpIn F n P ops Q j (fun a' w'=>YieldsHI P ops S oi v a'∧K (a'.put oi.dst v) w') a w:=by
 obtain⟨h1,h2,h3⟩:=Oper.apart_spec hap
 have keep: ∀b:Act,YieldsHI P ops S oi v b-> ∀u,YieldsHI P ops S oi v (b.put oj.dst u):=fun b hb u=>hb.same (execOp_put oi hsi b oj.dst u h3) (wanted_put oi b oj.dst u h3) (fun w=>about_put oi w b oj.dst u h3)
 have back: ∀(b:Act) u W,K ((b.put oi.dst v).put oj.dst u) W->K ((b.put oj.dst u).put oi.dst v) W:=fun b u W hk=>by rw[<-Act.put_comm b v u h2];exact hk
 unfold wpOpIn at*
 simp only[hj]at*
 rw[wanted_put oj a oi.dst v h1,about_put oj w a oi.dst v h1]at h
 by_cases hw:Region.wanted oj (yielded ops a.tmps)=true
 ·rw[if_pos hw]at h ⊢
  unfold Oper.wpIn at*
  rw[about_put oj w a oi.dst v h1,hro,Oper.semAt_none,execOp_put oj hsj a oi.dst v h1]at h
  rw[hro,Oper.semAt_none]
  refine⟨h.1,?_⟩
  have h:=h.2
  generalize (execOp a.eval oj).run P w=r at h ⊢
  cases r with
  | ok x w'=>
   cases x with
   |value u=>exact⟨keep a hy u,back a u w' h⟩
   |skip=>exact⟨keep a hy _,back a _ w' h⟩
   |defer d=>
    refine⟨keep {a with defers:=d::a.defers} (hy.same rfl rfl (fun _=>rfl)) _,?_⟩
    simp only[Oper.uponIn]at h ⊢
    rw[<-Act.put_comm _ v undef h2,<-Act.put_defers]
    exact h
   |enter f args=>
    refine⟨h.1,CallsIn.mono h.2 fun e w'' he=> ?_⟩
    cases e with
    |returned u=>exact⟨keep a hy u,back a u w'' he⟩
    |panicked c=>exact hQ _ _ _ he
    |outgrown=>exact he
   |row row args=>exact⟨h.1,RowsIn.mono h.2 fun u w'' he=>⟨keep a hy u,back a u w'' he⟩⟩
   |round l f tmps assign body=>
    refine⟨h.1,RoundIn.mono h.2 fun e w'' he=> ?_⟩
    cases e with
    |returned u=>exact⟨keep a hy u,back a u w'' he⟩
    |panicked c=>exact hQ _ _ _ he
    |outgrown=>exact he
   |_=>exact h
  |halt x w'=>
   cases x with
   |panic u=>exact hQ _ _ _ h
   |_=>exact h
 ·rw[if_neg hw]at h ⊢
  exact⟨h.1,keep a hy _,back a _ w h.2⟩
theorem firstHI {i:Nat}{oi:Oper}{v:Value}(hro:F.round=none)(hi:ops[i]?=some oi)(hsel: ∀(j:Nat) (o:Oper) cs b,ops[j]?=some o->o.op≠ .select cs b)(hQ: ∀c a w,Q (.panic c) (a.put oi.dst v) w->Q (.panic c) a w):
  ∀(fuel:Nat) (listed:Array Bool) (a:Act) (w:World),
   (∀j oj,ops[j]?=some oj->j≠i->listed.getD j true=false->(∀e∈oj.after,Region.binds md e=true->e.on≠i)->oi.apart ops oj=true)->
   i∈Region.ready md ops listed->YieldsHI P ops S oi v a->S w->wpAnyHI F n P md ops Q S fuel (listed.setIfInBounds i true) (a.put oi.dst v) w->wpAnyHI F n P md ops Q S (fuel+1) listed a w
 |0,listed,a,w,_,hr,hy,hS,H=>by
  refine⟨fun h=>absurd hr (by rw[h];simp),fun j hj=> ?_⟩
  by_cases hji:j=i
  ·subst hji;exact hy.op hro hi hS ⟨hS,H⟩
  ·exact absurd (ready_mono hj hji) (by rw[H.1];simp)
 | fuel+1,listed,a,w,hfree,hr,hy,hS,H=>by
  refine⟨fun h=>absurd hr (by rw[h];simp),fun j hj=> ?_⟩
  by_cases hji:j=i
  ·subst hji;exact hy.op hro hi hS ⟨hS,H⟩
  obtain⟨hjun,oj,hoj,hall⟩:=mem_ready.1 hj
  have hnot: ∀e∈oj.after,Region.binds md e=true->e.on≠i:=by
   intro e he hb heq
   have g1:=hall e he hb
   have g0:=(mem_ready.1 hr).1
   rw[heq]at g1
   rcases Nat.lt_or_ge i listed.size with hlt|hge
   ·simp[hlt]at g0 g1;rw[g0]at g1;cases g1
   ·simp[Array.getElem?_eq_none hge]at g1
  have h2:=op_apart hro hoj (hfree j oj hoj hji hjun hnot) (fun cs b=>hsel i oi cs b hi) (fun cs b=>hsel j oj cs b hoj) hQ hy (H.2 j (ready_mono hj hji))
  refine wpOpIn_mono (fun a' w' h3=>⟨h3.2.1,firstHI hro hi hsel hQ fuel (listed.setIfInBounds j true) a' w' ?_ (ready_mono hr (Ne.symm hji)) h3.1 h3.2.1 ?_⟩) h2
  ·intro k ok hk hki hun hno
   refine hfree k ok hk hki ?_ hno
   by_cases hjk:j=k
   ·subst hjk;exact hjun
   ·rw[getD_set_ne true hjk]at hun;exact hun
  ·rw[Array.setIfInBounds_comm _ _ hji]
   exact h3.2.2
theorem takeHI {oi:Oper}{v:Value}{fuel:Nat}{listed:Array Bool}{a:Act}{w:World}(i:Nat)(d:Option Tmp)(hro:F.round=none)(hi:ops[i]?=some oi)(hd:oi.dst=d)
  (hs:Region.noSelect ops=true) (hf:Region.free md ops listed i=true) (hr:(Region.ready md ops listed).contains i=true) (hQ: ∀c a w,Q (.panic c) (a.put d v) w->Q (.panic c) a w)
  (hy:YieldsIf P ops S oi v a) (hab: ∀w,oi.about P w a.eval=none) (hS:S w) (h:wpAnyHI F n P md ops Q S fuel (listed.setIfInBounds i true) (a.put d v) w):wpAnyHI F n P md ops Q S (fuel+1) listed a w:=by
 subst hd
 exact firstHI hro hi (Region.noSelect_spec hs) hQ fuel listed a w (Region.free_spec hi hf) (by simpa using hr) ⟨hy,hab⟩ hS h
theorem tI {oi:Oper}{v:Value}{fuel:Nat}{listed:Array Bool}{a:Act}{w:World}(i:Nat)(d:Option Tmp)(hro:F.round=none)(hi:ops[i]?=some oi)(hd:oi.dst=d)
  (hy: ∀W,S W->(execOp a.eval oi).run P W=.ok (.value v) W) (h:wpAnyHI F n P md ops Q S fuel (listed.setIfInBounds i true) (a.put d v) w)
  (hs:Region.noSelect ops=true:=by kernel_rfl) (hf:Region.free md ops listed i=true:=by kernel_rfl) (hr:(Region.ready md ops listed).contains i=true:=by kernel_rfl)
  (hQ: ∀c a w,Q (.panic c) (a.put d v) w->Q (.panic c) a w:=by exact fun _ _ _ h=>h) (hw:Region.wanted oi (yielded ops a.tmps)=true:=by rfl)
  (hab: ∀w,oi.about P w a.eval=none:=by exact fun _=>rfl) (hS:S w:=by assumption):wpAnyHI F n P md ops Q S (fuel+1) listed a w:=
 takeHI i d hro hi hd hs hf hr hQ (Or.inl ⟨hw,hy⟩) hab hS h
def AllHI (F:Fence)(n:Nat)(P:Program)(md:Region.Mode)(ops:Array Oper)(Q:Exit->Act->World->Prop)(S:World->Prop)(fuel:Nat)(listed:Array Bool)(a:Act)(w:World)(rs:List Nat):Prop:=
 ∀i∈rs,wpOpIn F n P ops Q i (fun a' w'=>S w'∧wpAnyHI F n P md ops Q S fuel (listed.setIfInBounds i true) a' w') a w
theorem AllHI.nil {fuel:Nat}{listed:Array Bool}{a:Act}{w:World}:AllHI F n P md ops Q S fuel listed a w []:=fun _ h=>by cases h
theorem AllHI.cons {fuel:Nat}{listed:Array Bool}{a:Act}{w:World}{i:Nat}{o:Oper}{rs:List Nat}(d:Option Tmp)(ho:ops[i]?=some o)(hd:o.dst=d)
  (h: ∀K':Act->World->Prop,Shut (∀a w,S w->(S w->wpAnyHI F n P md ops Q S fuel (listed.setIfInBounds i true) a w)->K' a w)->if Region.wanted o (yielded ops a.tmps)=true then Oper.wpIn F n P o a w K' Q else (∀f,o.about P w a.eval=some f->F.fn f)∧K' (a.put d undef) w)
  (hs:AllHI F n P md ops Q S fuel listed a w rs):AllHI F n P md ops Q S fuel listed a w (i::rs):=by
 subst hd
 intro j hj
 rcases List.mem_cons.1 hj with rfl|hj
 ·exact wpOpIn_step ho fun K' hK=>h K' fun a w hS hW=>hK a w ⟨hS,hW hS⟩
 ·exact hs j hj
theorem readyHI {rs:List Nat}{fuel:Nat}{listed:Array Bool}{a:Act}{w:World}(hr:Region.ready md ops listed=rs)(hne:rs≠ [])(h:AllHI F n P md ops Q S fuel listed a w rs):wpAnyHI F n P md ops Q S (fuel+1) listed a w:=
 ⟨fun h0=>absurd (hr▸h0) hne,hr▸h⟩
theorem doneHI {listed:Array Bool}{a:Act}{w:World}(hr:Region.ready md ops listed=[])(h:Q .normal a w): ∀fuel,wpAnyHI F n P md ops Q S fuel listed a w
 |0=>⟨hr,h⟩
 |_+1=>⟨fun _=>h,by rw[hr];simp⟩
theorem region_HI {id:Nat}{a:Act}{w:World}(hm:P.follows .mixedOrders=true)(hS:S w.drew)(h:S w.drew->wpAnyHI F n P .any ops Q S ops.size (Array.replicate ops.size false) a w.drew):(Code.region id ops true).wpIn F n P Q a w:=
 wpIn_region_any hm (anyIn_of_HI _ _ _ _ (h hS))
end
end Go.Proofs.YtgbpekeoegfjpaaGreatDoor
/- Plain laws of chapter 03: fields, points, bounds by nature, drawings. No program. -/
namespace Go.Proofs.YtgbpekeoegfjpaaGreatDoor
namespace Pl
structure Par where
 name:ByteArray
 south:Int
 fr:Int
 till:Int
structure Fld where
 st:List (ByteArray×Int)
 li:List ByteArray
 pa:List Par
 va:List (Int×Int)
def nameC (b:UInt8):Bool:=(decide (97<=b.toNat)&&decide (b.toNat<=122))||(decide (48<=b.toNat)&&decide (b.toNat<=57))||b==45
def isName (s:ByteArray):Bool:=match s.data.toList with
 | []=>false
 |b::l=>decide (97<=b.toNat)&&decide (b.toNat<=122)&&decide (l.length<24)&&l.all nameC
def twice {α:Type}[DecidableEq α]:List α->Bool
 | []=>false
 |a::l=>decide (a∈l)||twice l
theorem twice_iff {α:Type}[DecidableEq α](l:List α):twice l=false↔l.Nodup:=by
 induction l with
 |nil=>simp[twice]
 |cons a l ih=>simp[twice,List.nodup_cons,ih]
def com2 (p q:Par):Int:=min p.till q.till-max p.fr q.fr
def pointN (S l s:Nat):Nat:=1+l*S+s
theorem point_lt {S L l s:Nat}(hl:l<L)(hs:s<S):pointN S l s<1+L*S:=by
 unfold pointN
 have:(l+1)*S<=L*S:=Nat.mul_le_mul_right _ hl
 rw[Nat.add_mul,Nat.one_mul]at this
 omega
theorem point_div {S l s:Nat}(hs:s<S):(pointN S l s-1)/S=l∧(pointN S l s-1)%S=s:=by
 have h:pointN S l s-1=s+S*l:=by unfold pointN;rw[Nat.mul_comm S l];omega
 rw[h]
 exact⟨by rw[Nat.add_mul_div_left _ _ (by omega),Nat.div_eq_of_lt hs,Nat.zero_add],by rw[Nat.add_mul_mod_self_left,Nat.mod_eq_of_lt hs]⟩
theorem corner_point {S L p:Nat}(h1:1<=p)(h2:p<1+L*S):(p-1)/S<L∧(p-1)%S<S∧pointN S ((p-1)/S) ((p-1)%S)=p:=by
 have hS:0<S:=by
  rcases Nat.eq_zero_or_pos S with h|h
  ·subst h;simp at h2;omega
  ·exact h
 refine⟨?_,Nat.mod_lt _ hS,?_⟩
 ·rw[Nat.div_lt_iff_lt_mul hS];omega
 ·have:=Nat.div_add_mod (p-1) S
  unfold pointN
  rw[Nat.mul_comm ((p-1)/S) S];omega
theorem point_inj {S l s m t:Nat}(hs:s<S)(ht:t<S)(h:pointN S l s=pointN S m t):l=m∧s=t:=by
 have a:=point_div (l:=l) hs
 have b:=point_div (l:=m) ht
 rw[h]at a
 exact⟨a.1.symm.trans b.1,a.2.symm.trans b.2⟩
structure Bd where
 fr:Nat
 till:Nat
 most:Int
 record:Int
 deriving DecidableEq
def natOne (p:Nat):List Bd:=[⟨0,p,100000,0⟩,⟨p,0,0,0⟩]
def nature (S L:Nat):List Bd:=(List.range (L*S)).flatMap (fun p=>natOne (p+1))++(List.range (L-1)).flatMap (fun l=>(List.range S).map (fun s=>⟨pointN S (l+1) s,pointN S l s,0,0⟩))
def keeps (l:List Bd)(y:List Int):Prop:= ∀b∈l,(y[b.till]?.getD 0)-(y[b.fr]?.getD 0)<=b.most
def drawnR (S L:Nat)(y:List Int):Prop:=y.length=1+L*S∧y[0]?.getD 0=0∧ ∀l s,l<L->s<S->(0<=y[pointN S l s]?.getD 0∧y[pointN S l s]?.getD 0<=100000)∧(0<l->y[pointN S (l-1) s]?.getD 0<=y[pointN S l s]?.getD 0)
theorem keeps_append {a b:List Bd}{y:List Int}:keeps (a++b) y↔keeps a y∧keeps b y:=by
 simp[keeps,or_imp,forall_and]
theorem drawn_iff (S L:Nat)(y:List Int):(y.length=1+L*S∧y[0]?.getD 0=0∧keeps (nature S L) y)↔drawnR S L y:=by
 constructor
 ·rintro⟨h1,h2,h3⟩
  refine⟨h1,h2,fun l s hl hs=> ?_⟩
  obtain⟨k1,k2⟩:=keeps_append.1 h3
  have hp:=point_lt hl hs
  have h1p:1<=pointN S l s:=by unfold pointN;omega
  refine⟨⟨?_,?_⟩,fun h0=> ?_⟩
  ·have:=k1 ⟨pointN S l s,0,0,0⟩ (List.mem_flatMap.2 ⟨pointN S l s-1,List.mem_range.2 (by omega),by simp[natOne];omega⟩)
   simp only[h2]at this;omega
  ·have:=k1 ⟨0,pointN S l s,100000,0⟩ (List.mem_flatMap.2 ⟨pointN S l s-1,List.mem_range.2 (by omega),by simp[natOne];omega⟩)
   simp only[h2]at this;omega
  ·have:=k2 ⟨pointN S (l-1+1) s,pointN S (l-1) s,0,0⟩ (List.mem_flatMap.2 ⟨l-1,List.mem_range.2 (by omega),List.mem_map.2 ⟨s,List.mem_range.2 hs,rfl⟩⟩)
   simp only[Nat.sub_add_cancel h0]at this;omega
 ·rintro⟨h1,h2,h3⟩
  refine⟨h1,h2,keeps_append.2 ⟨?_,?_⟩⟩
  ·intro b hb
   obtain⟨p,hp,hb⟩:=List.mem_flatMap.1 hb
   have hp:=List.mem_range.1 hp
   obtain⟨c1,c2,c3⟩:=corner_point (S:=S) (L:=L) (p:=p+1) (by omega) (by omega)
   obtain⟨⟨a1,a2⟩,-⟩:=h3 _ _ c1 c2
   rw[c3]at a1 a2
   simp only[natOne,List.mem_cons,List.not_mem_nil,or_false]at hb
   rcases hb with rfl|rfl<;>simp only[h2]<;>omega
  ·intro b hb
   obtain⟨l,hl,hb⟩:=List.mem_flatMap.1 hb
   obtain⟨s,hs,rfl⟩:=List.mem_map.1 hb
   have:=(h3 (l+1) s (by have:=List.mem_range.1 hl;omega) (List.mem_range.1 hs)).2 (by omega)
   simp only[Nat.add_sub_cancel]at this
   simp only;omega
end Pl
namespace Pl
theorem commonE_single (v:List (Int×Int))(c:Crs):commonE v [c]=if vars v≠0 then vars v else if c.ok=true then (if (decl v c.y).2=true then 0 else 20)else 1:=by
 unfold commonE;simp only[List.all_cons,List.all_nil,Bool.and_true]
theorem stepOk_any {dx y:Int}(y0: -100000<=y)(y1:y<=100000):stepOk dx y=stepOk dx 0:=by
 unfold stepOk;rw[decide_eq_decide];omega
theorem stepE_any {v:List (Int×Int)}{c:Crs}{dx y:Int}(y0: -100000<=y)(y1:y<=100000):stepE v c dx y=stepE v c dx 0:=by
 unfold stepE;rw[stepOk_any y0 y1]
theorem step_facts {v:List (Int×Int)}{c:Crs}{dx y:Int}(h:stepE v c dx y=0):vars v=0∧c.ok=true∧(decl v c.y).2=true∧dx≠0∧ -100000<=dx∧dx<=100000∧ -100000<=y∧y<=100000:=by
 obtain⟨h1,h2⟩:=stepE_zero h
 obtain⟨k0,k1,k2⟩:=commonE_one h1
 exact⟨k0,k1,k2,stepOk_iff h2⟩
def inIvl (r:Int×Int×Bool)(y:Int):Prop:=r.2.2=true∧r.1<=y∧y<=r.2.1
theorem fit_exact {v:List (Int×Int)}{c:Crs}{dx y:Int}(h:stepE v c dx y=0):fitR v c dx y=0↔inIvl (ivlC v c dx) y:=by
 obtain⟨_,k1,_,j0,j1,j2,y0,y1⟩:=step_facts h
 unfold fitR fitv ivlC inIvl
 rw[if_pos h]
 by_cases hd:dx<0
 ·rw[if_pos hd,if_pos hd]
  have q:=c.back.qok (v:=v) (dx:= -dx) (Crs.back_ok k1) (by omega) (by omega)
  have:=fit_iff (y:= -y) q (by omega) (by omega)
  show misfit (c.back.lo v) (c.back.hi v) (-dx) c.back.ne c.back.fa (-y)=0↔_
  rw[this]
  unfold flip ivlE
  simp only[]
  constructor
  ·rintro⟨a,b,d⟩;exact⟨a,by omega,by omega⟩
  ·rintro⟨a,b,d⟩;exact⟨a,by omega,by omega⟩
 ·rw[if_neg hd,if_neg hd]
  have q:=c.qok (v:=v) (dx:=dx) k1 (by omega) (by omega)
  exact fit_iff q y0 y1
theorem fits_exact {v:List (Int×Int)}{c:Crs}{dx y:Int}(h:stepE v c dx 0=0)(y0: -100000<=y)(y1:y<=100000):
  decide (stepE v c dx y=0∧fitR v c dx y=0)=((com v [c] dx).2.2&&decide ((com v [c] dx).1<=y)&&decide (y<=(com v [c] dx).2.1)):=by
 have e:stepE v c dx y=0:=by rw[stepE_any y0 y1];exact h
 rw[com_one,if_pos h]
 have:=fit_exact e
 unfold inIvl at this
 rw[Bool.eq_iff_iff]
 simp only[decide_eq_true_eq,Bool.and_eq_true]
 rw[this]
 constructor
 ·rintro⟨_,a,b,d⟩;exact⟨⟨a,b⟩,d⟩
 ·rintro⟨⟨a,b⟩,d⟩;exact⟨e,a,b,d⟩
theorem com_one_bd (v:List (Int×Int))(c:Crs)(dx:Int): -100000<=(com v [c] dx).1∧(com v [c] dx).1<=(com v [c] dx).2.1∧(com v [c] dx).2.1<=100000:=by
 rw[com_one]
 split
 ·exact ivlC_bd v c dx
 ·decide
/-! ### Needles -/
theorem len_nonneg {c:Crs}(h:c.ok=true):0<=c.ne∧0<=c.fa:=by
 obtain⟨_,_,⟨g4,g5⟩,_,⟨g8,g9⟩,g10,g11⟩:=c.ok_iff h
 have l:=len_bd g4 g5 g8 g9 g10 g11
 unfold Crs.ne Crs.fa near far
 exact⟨l.1.1,l.2.1⟩
/-! ### The way back -/
theorem back_back {c:Crs}(h:c.ok=true):c.back.back=c:=by
 obtain⟨⟨g0,g1⟩,_⟩:=c.ok_iff h
 unfold Crs.back
 cases c
 simp only[Crs.mk.injEq,and_self,and_true]at*
 omega
theorem commonE_back {v:List (Int×Int)}{c:Crs}(h:c.ok=true):commonE v [c.back]=commonE v [c]:=by
 rw[commonE_single,commonE_single,Crs.back_ok h,h]
 rfl
theorem stepOk_neg (dx dy:Int):stepOk (-dx) (-dy)=stepOk dx dy:=by unfold stepOk;rw[decide_eq_decide];omega
theorem stepE_back {v:List (Int×Int)}{c:Crs}{dx dy:Int}(h:c.ok=true):stepE v c.back (-dx) (-dy)=stepE v c dx dy:=by
 unfold stepE;rw[commonE_back h,stepOk_neg]
theorem fitR_back {v:List (Int×Int)}{c:Crs}{dx dy:Int}(h:c.ok=true):fitR v c.back (-dx) (-dy)=fitR v c dx dy:=by
 unfold fitR
 rw[stepE_back h]
 split
 ·rename_i hs
  obtain⟨_,_,_,j0,_⟩:=step_facts hs
  unfold fitv
  by_cases hd:dx<0
  ·rw[if_neg (by omega),if_pos hd]
  ·rw[if_pos (by omega),if_neg hd,back_back h,Int.neg_neg,Int.neg_neg]
 ·rfl
/-! ### What several share -/
theorem comGo_bd {v:List (Int×Int)}{dx:Int}: ∀ {cs:List Crs} {lo hi:Int},-100000<=lo->hi<=100000->lo<=hi-> -100000<=(comGo v dx lo hi cs).1∧(comGo v dx lo hi cs).1<=(comGo v dx lo hi cs).2.1∧(comGo v dx lo hi cs).2.1<=100000
 | [],lo,hi,h0,h1,h2=>by unfold comGo;exact⟨h0,h2,h1⟩
 | c::cs,lo,hi,h0,h1,h2=>by
  unfold comGo
  split
  ·decide
  ·rename_i hc
   exact comGo_bd (by omega) (by omega) (by omega)
theorem com_bd (v:List (Int×Int))(cs:List Crs)(dx:Int): -100000<=(com v cs dx).1∧(com v cs dx).1<=(com v cs dx).2.1∧(com v cs dx).2.1<=100000:=by
 unfold com
 split
 ·exact comGo_bd (by omega) (by omega) (by omega)
 ·decide
/-! ### A narrower course -/
theorem narrower_iff {a b:Crs}(h:narrower a b=true):a.ok=true∧b.ok=true∧a.b=b.b∧a.l=b.l∧a.y=b.y∧a.n<=b.n∧b.x-b.s<=a.x-a.s∧a.x+a.s<=b.x+b.s:=by
 unfold narrower at h
 simp only[Bool.and_eq_true,decide_eq_true_eq]at h
 obtain⟨⟨h1,h2⟩,h3⟩:=h
 exact⟨h1,h2,h3⟩
theorem narrower_E {v:List (Int×Int)}{a b:Crs}(h:narrower a b=true)(dx y:Int):stepE v a dx y=stepE v b dx y:=by
 obtain⟨h1,h2,_,_,h5,_⟩:=narrower_iff h
 unfold stepE
 rw[commonE_single,commonE_single,h1,h2,h5]
theorem narrower_fit {v:List (Int×Int)}{a b:Crs}{dx y:Int}(h:narrower a b=true)(hs:stepE v a dx y=0)(hf:fitR v a dx y=0):fitR v b dx y=0:=by
 obtain⟨h1,h2,h3,h4,h5,h6,h7,h8⟩:=narrower_iff h
 obtain⟨_,_,_,j0,_⟩:=step_facts hs
 have hs':stepE v b dx y=0:=by rw[<-narrower_E h];exact hs
 unfold fitR at hf ⊢
 rw[if_pos hs]at hf
 rw[if_pos hs']
 rw[fitv_eq]at hf ⊢
 rw[<-h5]
 obtain⟨l0,l1⟩:=narrower_len h4 (by obtain⟨_,_,⟨g4,_⟩,_⟩:=a.ok_iff h1;omega) h7 h8
 exact fitD_wider h3 h6 (len_nonneg h2).1 l0 (len_nonneg h1).2 l1 j0 hf
theorem narrower_ivl {v:List (Int×Int)}{a b:Crs}{dx:Int}(h:narrower a b=true)(hs:(com v [a] dx).2.2=true):(com v [b] dx).2.2=true∧(com v [b] dx).1<=(com v [a] dx).1∧(com v [a] dx).2.1<=(com v [b] dx).2.1:=by
 have hz:stepE v a dx 0=0:=by
  rw[com_one]at hs;split at hs
  ·assumption
  ·cases hs
 have hz':stepE v b dx 0=0:=by rw[<-narrower_E h];exact hz
 rw[com_one v a,if_pos hz]at hs
 rw[com_one v a,com_one v b,if_pos hz,if_pos hz']
 obtain⟨b0,b1,b2⟩:=ivlC_bd v a dx
 have key: ∀y,-100000<=y->y<=100000->inIvl (ivlC v a dx) y->inIvl (ivlC v b dx) y:=by
  intro y y0 y1 hy
  have e:stepE v a dx y=0:=by rw[stepE_any y0 y1];exact hz
  have e':stepE v b dx y=0:=by rw[stepE_any y0 y1];exact hz'
  exact(fit_exact e').1 (narrower_fit h e ((fit_exact e).2 hy))
 obtain⟨p0,p1,p2⟩:=key (ivlC v a dx).1 (by omega) (by omega) ⟨hs,by omega,by omega⟩
 obtain⟨q0,q1,q2⟩:=key (ivlC v a dx).2.1 (by omega) (by omega) ⟨hs,by omega,by omega⟩
 exact⟨p0,p1,q2⟩
end Pl
namespace Pl
structure Cal where
 kind:Nat
 lim:Int
 oth:Int
 fr:Int
 till:Int
 size:Int
 er:Int
 crs:Crs
def Crs.zero :Crs:=⟨0,0,0,0,0,0⟩
def inN (x:Int)(n:Nat):Prop:=0<=x∧x<n
instance (x : Int) (n : Nat) : Decidable (inN x n) := by unfold inN; infer_instance
def Cal.tab (S L:Nat)(c:Cal):Prop:=
 inN c.lim L∧inN c.fr S∧
 ((c.kind=1∧c.crs=Crs.zero∧c.oth=0∧c.till=0∧(0<=c.size∧c.size<=100000)∧0<=c.er∧c.er<=100000)
 ∨(c.kind=2∧c.crs=Crs.zero∧(c.lim<c.oth∧c.oth<L)∧c.till=0∧(0<=c.size∧c.size<=100000)∧0<=c.er∧c.er<=100000)
 ∨(c.kind=3∧c.oth=0∧c.size=0∧c.er=0∧inN c.till S∧c.till≠c.fr)
 ∨(c.kind=4∧c.crs=Crs.zero∧(c.lim<c.oth∧c.oth<L)∧c.size=0∧c.er=0∧c.fr<c.till∧c.till<S)
 ∨(c.kind=5∧c.crs=Crs.zero∧c.oth=0∧inN c.till S∧c.till≠c.fr∧(-100000<=c.size∧c.size<=100000)∧0<=c.er∧c.er<=100000))
def xAt (st:List (ByteArray×Int))(i:Int):Int:=(st[i.toNat]?.map Prod.snd).getD 0
def runC (st:List (ByteArray×Int))(c:Cal):Int:=xAt st c.till-xAt st c.fr
open Classical in
noncomputable def callE (f:Fld)(c:Cal):Int:=
 if ¬c.tab f.st.length f.li.length then 1
 else if c.kind≠3 then 0
 else if c.crs.ok=false then 1
 else if comE f.va [c.crs] (runC f.st c)≠0 then comE f.va [c.crs] (runC f.st c)
 else if (com f.va [c.crs] (runC f.st c)).2.2=true then 0 else 5
structure Sp where
 fr:Nat
 till:Nat
 lo:Int
 hi:Int
def ptC (f:Fld)(l s:Int):Nat:=pointN f.st.length l.toNat s.toNat
def spans (f:Fld)(c:Cal):List Sp:=
 match c.kind with
 |1=>[⟨0,ptC f c.lim c.fr,c.size-c.er,c.size+c.er⟩]
 |2=>[⟨ptC f c.lim c.fr,ptC f c.oth c.fr,c.size-c.er,c.size+c.er⟩]
 |3=>[⟨ptC f c.lim c.fr,ptC f c.lim c.till,(com f.va [c.crs] (runC f.st c)).1,(com f.va [c.crs] (runC f.st c)).2.1⟩]
 |4=>(List.range (c.till-c.fr+1).toNat).map (fun k:Nat=>⟨ptC f c.lim (c.fr+k),ptC f c.oth (c.fr+k),0,0⟩)
 |5=>[⟨ptC f c.lim c.fr,ptC f c.lim c.till,c.size-c.er,c.size+c.er⟩]
 |_=>[]
def spB (r:Int)(x:Sp):List Bd:=[⟨x.fr,x.till,x.hi,r⟩,⟨x.till,x.fr,-x.lo,r⟩]
def boundsC (f:Fld)(c:Cal)(r:Int):List Bd:=(spans f c).flatMap (spB r)
def at0 (y:List Int)(p:Nat):Int:=y[p]?.getD 0
theorem keeps_spans (f:Fld)(c:Cal)(r:Int)(y:List Int):keeps (boundsC f c r) y↔ ∀x∈spans f c,x.lo<=at0 y x.till-at0 y x.fr∧at0 y x.till-at0 y x.fr<=x.hi:=by
 unfold keeps boundsC at0
 constructor
 ·intro h x hx
  have h1:=h ⟨x.fr,x.till,x.hi,r⟩ (List.mem_flatMap.2 ⟨x,hx,by simp[spB]⟩)
  have h2:=h ⟨x.till,x.fr,-x.lo,r⟩ (List.mem_flatMap.2 ⟨x,hx,by simp[spB]⟩)
  simp only at h1 h2
  omega
 ·intro h b hb
  obtain⟨x,hx,hb⟩:=List.mem_flatMap.1 hb
  have:=h x hx
  simp only[spB,List.mem_cons,List.not_mem_nil,or_false]at hb
  rcases hb with rfl|rfl<;>simp only<;>omega
def allowsC (f:Fld)(c:Cal)(y:List Int):Prop:=
 match c.kind with
 |1=>at0 y (ptC f c.lim c.fr)-c.size<=c.er∧c.size-at0 y (ptC f c.lim c.fr)<=c.er
 |2=>at0 y (ptC f c.oth c.fr)-at0 y (ptC f c.lim c.fr)-c.size<=c.er∧c.size-(at0 y (ptC f c.oth c.fr)-at0 y (ptC f c.lim c.fr))<=c.er
 |3=>stepE f.va c.crs (runC f.st c) (at0 y (ptC f c.lim c.till)-at0 y (ptC f c.lim c.fr))=0∧fitR f.va c.crs (runC f.st c) (at0 y (ptC f c.lim c.till)-at0 y (ptC f c.lim c.fr))=0
 |4=> ∀k:Nat,(k:Int)<=c.till-c.fr->at0 y (ptC f c.lim (c.fr+k))=at0 y (ptC f c.oth (c.fr+k))
 |5=>at0 y (ptC f c.lim c.till)-at0 y (ptC f c.lim c.fr)-c.size<=c.er∧c.size-(at0 y (ptC f c.lim c.till)-at0 y (ptC f c.lim c.fr))<=c.er
 |_=>False
theorem allows_fixed (f:Fld)(c:Cal)(y:List Int)(h0:at0 y 0=0)(hk:c.kind=1∨c.kind=2∨c.kind=5):(∀x∈spans f c,x.lo<=at0 y x.till-at0 y x.fr∧at0 y x.till-at0 y x.fr<=x.hi)↔allowsC f c y:=by
 unfold spans allowsC
 rcases hk with h|h|h<;>rw[h]<;>simp only[List.mem_singleton,forall_eq,h0]<;>omega
theorem allows_along (f:Fld)(c:Cal)(y:List Int)(hk:c.kind=4):(∀x∈spans f c,x.lo<=at0 y x.till-at0 y x.fr∧at0 y x.till-at0 y x.fr<=x.hi)↔allowsC f c y:=by
 unfold spans allowsC
 rw[hk]
 simp only[List.mem_map,List.mem_range]
 constructor
 ·intro h k hk
  have:=h _ ⟨k,by omega,rfl⟩
  simp only at this
  omega
 ·rintro h x ⟨k,hk,rfl⟩
  have:=h k (by omega)
  simp only
  omega
theorem allows_course (f:Fld)(c:Cal)(y:List Int)(hk:c.kind=3)(hE:comE f.va [c.crs] (runC f.st c)=0)(hY:(com f.va [c.crs] (runC f.st c)).2.2=true)
  (b0: -100000<=at0 y (ptC f c.lim c.till)-at0 y (ptC f c.lim c.fr)) (b1:at0 y (ptC f c.lim c.till)-at0 y (ptC f c.lim c.fr)<=100000):
  (∀x∈spans f c,x.lo<=at0 y x.till-at0 y x.fr∧at0 y x.till-at0 y x.fr<=x.hi)↔allowsC f c y:=by
 have hz:stepE f.va c.crs (runC f.st c) 0=0:=by rw[<-comE_one];exact hE
 have key:=fits_exact hz b0 b1
 have hzy:stepE f.va c.crs (runC f.st c) (at0 y (ptC f c.lim c.till)-at0 y (ptC f c.lim c.fr))=0:=by rw[stepE_any b0 b1];exact hz
 unfold spans allowsC
 rw[hk]
 simp only[List.mem_singleton,forall_eq]
 rw[hY,Bool.true_and,<-Bool.decide_and,decide_eq_decide]at key
 exact key.symm
end Pl
end Go.Proofs.YtgbpekeoegfjpaaGreatDoor
/- Plain laws of chapter 03: what is wrong with a field. No program. -/
namespace Go.Proofs.YtgbpekeoegfjpaaGreatDoor
namespace Pl
def Fld.sn (f:Fld):List ByteArray:=f.st.map Prod.fst
def Fld.pn (f:Fld):List ByteArray:=f.pa.map Par.name
def parIn (S L:Nat)(p:Par):Bool:=decide (0<=p.south∧p.south<=(L:Int)-2)&&decide (0<=p.fr∧p.fr<=(S:Int)-1)&&decide (0<=p.till∧p.till<=(S:Int)-1)
def rising :List Int->Bool
 | []=>true
 | [_]=>true
 |a::b::l=>decide (a<b)&&rising (b::l)
def over (p q:Par):Bool:=decide (p.south=q.south)&&decide (0<com2 p q)
def apart (done:List Par):List Par->Bool
 | []=>true
 |p::l=>decide (p.fr<p.till)&& !(done.any (over p))&&apart (done++[p]) l
def fieldE (f:Fld):Int:=
 if 12<f.st.length∨10<f.li.length∨40<f.pa.length then 2
 else if f.st.length<2∨f.li.length<1 then 5
 else if vars f.va≠0 then vars f.va
 else if (f.sn.all isName&&f.li.all isName&&f.pn.all isName)=false then 4
 else if (twice f.sn||twice f.li||twice f.pn)=true then 6
 else if (f.st.all (fun s=>decide (0<=s.2∧s.2<=100000))&&f.pa.all (parIn f.st.length f.li.length))=false then 1
 else if (rising (f.st.map Prod.snd)&&apart [] f.pa)=false then 30
 else 0
structure FieldOk (f:Fld):Prop where
 st2:2<=f.st.length
 st12:f.st.length<=12
 li1:1<=f.li.length
 li10:f.li.length<=10
 pa40:f.pa.length<=40
 va:vars f.va=0
 sn:f.sn.all isName=true
 ln:f.li.all isName=true
 pn:f.pn.all isName=true
 s2:f.sn.Nodup
 l2:f.li.Nodup
 p2:f.pn.Nodup
 x: ∀s∈f.st,0<=s.2∧s.2<=100000
 par: ∀p∈f.pa,parIn f.st.length f.li.length p=true
 rise:rising (f.st.map Prod.snd)=true
 ap:apart [] f.pa=true
theorem fieldE_ok {f:Fld}(h:fieldE f=0):FieldOk f:=by
 unfold fieldE at h
 split at h
 ·omega
 rename_i h1
 split at h
 ·omega
 rename_i h2
 split at h
 ·exact absurd h ‹_›
 rename_i h3
 split at h
 ·omega
 rename_i h4
 split at h
 ·omega
 rename_i h5
 split at h
 ·omega
 rename_i h6
 split at h
 ·omega
 rename_i h7
 simp only[Bool.not_eq_false,Bool.and_eq_true]at h4 h6 h7
 rw[Bool.not_eq_true,Bool.or_eq_false_iff,Bool.or_eq_false_iff]at h5
 exact⟨by omega,by omega,by omega,by omega,by omega,by simpa using h3,h4.1.1,h4.1.2,h4.2,(twice_iff _).1 h5.1.1,(twice_iff _).1 h5.1.2,(twice_iff _).1 h5.2,fun s hs=>by simpa using List.all_eq_true.1 h6.1 s hs,fun p hp=>List.all_eq_true.1 h6.2 p hp,h7.1,h7.2⟩
theorem points_bd {f:Fld}(h:FieldOk f):f.li.length*f.st.length<=120:=by
 have:=Nat.mul_le_mul h.li10 h.st12
 omega
end Pl
namespace Pl
theorem com_nil {v:List (Int×Int)}{c:Crs}{dx:Int}(h:(com v [c] dx).2.2=false):com v [c] dx=(0,0,false):=by
 rw[com_one]at h ⊢
 split
 ·rename_i hz
  rw[if_pos hz]at h
  exact ivlC_empty h
 ·rfl
theorem com_back {v:List (Int×Int)}{c:Crs}{dx:Int}(h:c.ok=true)(hz:stepE v c dx 0=0):
  com v [c.back] (-dx)=(-(com v [c] dx).2.1,-(com v [c] dx).1,(com v [c] dx).2.2):=by
 have hz':stepE v c.back (-dx) 0=0:=by have:=stepE_back (v:=v) (dx:=dx) (dy:=0) h;rw[Int.neg_zero]at this;rw[this];exact hz
 obtain⟨a0,a1,a2⟩:=com_one_bd v c dx
 obtain⟨b0,b1,b2⟩:=com_one_bd v c.back (-dx)
 have E: ∀y:Int,-100000<=y->y<=100000->(((com v [c.back] (-dx)).2.2&&decide ((com v [c.back] (-dx)).1<= -y)&&decide (-y<=(com v [c.back] (-dx)).2.1))=((com v [c] dx).2.2&&decide ((com v [c] dx).1<=y)&&decide (y<=(com v [c] dx).2.1))):=by
  intro y y0 y1
  rw[<-fits_exact hz y0 y1,<-fits_exact hz' (show-100000<= -y by omega) (show-y<=100000 by omega),stepE_back h,fitR_back h]
 cases hA:(com v [c] dx).2.2 with
 |false=>
  have:=E (-(com v [c.back] (-dx)).1) (by omega) (by omega)
  rw[hA]at this
  simp only[Int.neg_neg,Int.le_refl,decide_true,Bool.and_true,Bool.false_and,b1]at this
  rw[com_nil this,com_nil hA]
  rfl
 |true=>
  have e1:=E (com v [c] dx).1 (by omega) (by omega)
  have e2:=E (com v [c] dx).2.1 (by omega) (by omega)
  have e3:=E (-(com v [c.back] (-dx)).1) (by omega) (by omega)
  have e4:=E (-(com v [c.back] (-dx)).2.1) (by omega) (by omega)
  rw[hA]at e1 e2 e3 e4
  simp only[Int.neg_neg,Int.le_refl,decide_true,Bool.and_true,Bool.true_and,a1,b1,Bool.and_eq_true,decide_eq_true_eq]at e1 e2 e3 e4
  rw[e1.1.1]at e3 e4
  simp only[Bool.true_eq,Bool.and_eq_true,decide_eq_true_eq]at e3 e4
  generalize com v [c.back] (-dx)=B at*
  generalize com v [c] dx=A at*
  obtain⟨p,q,r⟩:=B
  obtain⟨s,t,u⟩:=A
  simp only at*
  obtain⟨⟨k0,k1⟩,k2⟩:=e1
  rw[k0,show p= -t by omega,show q= -s by omega]
def Cal.back (c:Cal):Cal:=
 if c.kind=5 then {c with fr:=c.till,till:=c.fr,size:= -c.size}
 else if c.kind=3 then {c with fr:=c.till,till:=c.fr,crs:=c.crs.back}
 else c
theorem run_back (f:Fld)(c:Cal)(h:c.kind=3):runC f.st c.back= -(runC f.st c):=by
 unfold Cal.back
 rw[if_neg (by omega),if_pos h]
 unfold runC;simp only;omega
theorem allows_back (f:Fld)(c:Cal)(y:List Int)(hok:c.kind=3->c.crs.ok=true):allowsC f c.back y↔allowsC f c y:=by
 by_cases h3:c.kind=3
 ·have hr:=run_back f c h3
  have hb:c.back= {c with fr:=c.till,till:=c.fr,crs:=c.crs.back}:=by unfold Cal.back;rw[if_neg (by omega),if_pos h3]
  rw[hb]at hr ⊢
  unfold allowsC
  simp only[h3]at hr ⊢
  rw[hr,show at0 y (ptC f c.lim c.fr)-at0 y (ptC f c.lim c.till)= -(at0 y (ptC f c.lim c.till)-at0 y (ptC f c.lim c.fr)) by omega,stepE_back (hok h3),fitR_back (hok h3)]
 ·by_cases h5:c.kind=5
  ·unfold Cal.back
   rw[if_pos h5]
   unfold allowsC
   simp only[h5]
   omega
  ·unfold Cal.back
   rw[if_neg h5,if_neg h3]
theorem back_twice (c:Cal)(hok:c.kind=3->c.crs.ok=true):c.back.back=c:=by
 by_cases h3:c.kind=3
 ·have hb:c.back= {c with fr:=c.till,till:=c.fr,crs:=c.crs.back}:=by unfold Cal.back;rw[if_neg (by omega),if_pos h3]
  rw[hb]
  unfold Cal.back
  simp only[h3]
  rw[if_neg (by decide),if_pos trivial,back_back (hok h3)]
  cases c;simp_all
 ·by_cases h5:c.kind=5
  ·unfold Cal.back
   rw[if_pos h5]
   simp only[h5]
   rw[if_pos trivial,Int.neg_neg]
   cases c;simp_all
  ·have hb:c.back=c:=by unfold Cal.back;rw[if_neg h5,if_neg h3]
   rw[hb,hb]
end Pl
namespace Pl
def cutAt (sep:UInt8):List UInt8->List (List UInt8)
  | []=>[[]]
  | b::l=>if b=sep then []::cutAt sep l else match cutAt sep l with
    | []=>[[b]]
    |w::ws=>(b::w)::ws
theorem cutAt_ne (sep:UInt8)(l:List UInt8):cutAt sep l≠ []:=by
  cases l with
  |nil=>simp[cutAt]
  | cons b l => unfold cutAt;split;·simp
                split<;>simp
def ahead (l:List UInt8):List UInt8:=l.takeWhile (fun b=>b !=35)
def solid (l:List (List UInt8)):List (List UInt8):=l.filter (fun w=> !w.isEmpty)
def wordsOf (l:List UInt8):List (List UInt8):=solid (cutAt 32 (ahead l))
def linesOf (l:List UInt8):List (List UInt8):=cutAt 10 l
end Pl
end Go.Proofs.YtgbpekeoegfjpaaGreatDoor
/- Plain law: a number in units, as deeds write it. -/
namespace Go.Proofs.YtgbpekeoegfjpaaGreatDoor.Pl
open Go.RowKit
abbrev Unit :=Int×ByteArray×ByteArray
def word (k:Int)(u:Unit):ByteArray:=if k=1 then u.2.1 else u.2.2
def spelt (k:Int):ByteArray:=⟨(Lib.itoa k).toArray⟩
def namedL (c:Int):List Unit->List ByteArray
 | []=>[]
 |u::us=>(if c/u.1>0 then [spelt (c/u.1),word (c/u.1) u]else [])++namedL (c%u.1) us
def endC (c:Int):List Unit->Int
 | []=>c
 |u::us=>endC (c%u.1) us
theorem part_eq {c s:Int}(h0:0<=c)(h1:c<=1000000000000)(hs:1<=s):
  wrap64 (c.tdiv s)=c/s∧c.tmod s=c%s∧0<=c/s∧c/s<=1000000000000∧0<=c%s∧c%s<=1000000000000:=by
 rw[Int.tdiv_eq_ediv_of_nonneg h0,Int.tmod_eq_emod_of_nonneg h0]
 have k1:0<=c/s:=Int.ediv_nonneg h0 (by omega)
 have k2:c/s<=c:=Int.ediv_le_self _ h0
 have k3:0<=c%s:=Int.emod_nonneg _ (by omega)
 have k4:c%s<=c:=by
  have:=Int.mul_ediv_add_emod c s
  have:=Int.mul_nonneg (show(0:Int)<=s by omega) k1
  omega
 have e:wrap64 (c/s)=c/s:=IntWalk.wrap64_in _ ⟨by omega,by omega⟩
 rw[e]
 exact⟨rfl,rfl,k1,by omega,k3,by omega⟩
theorem namedL_len (c:Int)(us:List Unit):(namedL c us).length<=2*us.length:=by
 induction us generalizing c with
 |nil=>simp[namedL]
 |cons u us ih=>
  have:=ih (c%u.1)
  simp only[namedL]
  split<;>simp<;>omega
def named (c:Int)(us:List Unit):ByteArray:=
 if namedL c us=[]then ⟨#[48,32]⟩++((us.getLast?.map (·.2.2)).getD ⟨#[]⟩)else ⟨(Lib.join ((namedL c us).map (·.data.toList)) [32]).toArray⟩
theorem lens_le {xs:List (List UInt8)}{N:Nat}(h: ∀x∈xs,x.length<=N):Lib.lens xs<=N*xs.length:=by
 induction xs with
 |nil=>simp[Lib.lens]
 |cons x xs ih=>
  have:=ih (fun y hy=>h y (by simp[hy]))
  have:=h x (by simp)
  simp only[Lib.lens,List.map_cons,List.sum_cons,List.length_cons,Nat.mul_add]at*
  omega
theorem join_le {xs:List (List UInt8)}{N:Nat}(sep:List UInt8)(h: ∀x∈xs,x.length<=N):(Lib.join xs sep).length<=sep.length*xs.length+N*xs.length:=by
 cases xs with
 |nil=>simp[Lib.join_nil]
 |cons x r=>
  have:=lens_le h
  rw[Lib.join_length]
  have:sep.length*r.length<=sep.length*(x::r).length:=Nat.mul_le_mul_left _ (by simp)
  omega
theorem namedL_sizes {c:Int}{us:List Unit}(h0:0<=c)(h1:c<=1000000000000)(hpos: ∀u∈us,1<=u.1)(hs: ∀u∈us,u.2.1.size<=100∧u.2.2.size<=100): ∀x∈namedL c us,x.size<=100:=by
 induction us generalizing c with
 |nil=>simp[namedL]
 | cons u us ih=>
  obtain⟨_,_,k1,k2,k3,k4⟩:=part_eq h0 h1 (hpos u (by simp))
  have h:=ih k3 k4 (fun v hv=>hpos v (by simp[hv])) (fun v hv=>hs v (by simp[hv]))
  intro x hx
  simp only[namedL,List.mem_append]at hx
  rcases hx with hx|hx
  ·split at hx
   ·simp only[List.mem_cons,List.not_mem_nil,or_false]at hx
    rcases hx with rfl|rfl
    ·have:=Lib.itoa_length_le (c/u.1) (by omega) (by omega)
     simp only[spelt,ByteArray.size,List.size_toArray]
     omega
    ·have:=hs u (by simp)
     unfold word
     split<;>omega
   ·simp at hx
  ·exact h x hx
end Go.Proofs.YtgbpekeoegfjpaaGreatDoor.Pl
/- Plain law: reading a number in units. -/
namespace Go.Proofs.YtgbpekeoegfjpaaGreatDoor.Pl
open Go.RowKit
def numV (s:ByteArray):Option Int:=
 match Lib.atoiAll s.data.toList with
 | .ok v=>if 0<=v∧v<=1000000000000∧spelt v=s then some v else none
 |_=>none
def sizeOf (b:ByteArray):List Unit->Int->Int
 | [],sz=>sz
 |u::us,sz=>sizeOf b us (if b=u.2.1∨b=u.2.2 then u.1 else sz)
def stepV (n k sz:Int):Option Int:=if 0<sz∧k<=1000000000000/sz then (if n+k*sz<=1000000000000 then some (n+k*sz)else none)else none
def addV (us:List Unit):List ByteArray->Int->Option Int
 | [],n=>some n
 |a::b::r,n=>(numV a).bind fun k=>(stepV n k (sizeOf b us 0)).bind fun n'=>addV us r n'
 |_,_=>none
def wordsV (s:ByteArray):List ByteArray:=Lib.splitB ⟨#[32]⟩ 0 (Lib.countB s ⟨#[32]⟩) s
def readV (us:List Unit)(wr:Int->ByteArray)(s:ByteArray):Option Int:=
 if (wordsV s).length%2=0 then (addV us (wordsV s) 0).bind fun n=>if wr n=s then some n else none else none
def poles :List Unit:=[(100,⟨#[99,104,97,105,110]⟩,⟨#[99,104,97,105,110,115]⟩),(25,⟨#[112,111,108,101]⟩,⟨#[112,111,108,101,115]⟩),(1,⟨#[108,105,110,107]⟩,⟨#[108,105,110,107,115]⟩)]
def lengthV (n:Int):ByteArray:=if 0<=n∧n<=1000000 then named n poles else ⟨#[]⟩
theorem numV_bd {s:ByteArray}{v:Int}(h:numV s=some v):0<=v∧v<=1000000000000:=by
 unfold numV at h
 split at h
 ·split at h
  ·cases h;rename_i hc;exact⟨hc.1,hc.2.1⟩
  ·cases h
 ·cases h
theorem addV_some {us:List Unit}{a b:ByteArray}{r:List ByteArray}{n k n' z:Int}(hk:numV a=some k)(hz:sizeOf b us 0=z)(hs:stepV n k z=some n'):addV us (a::b::r) n=addV us r n':=by
 subst hz
 simp[addV,hk,hs]
theorem addV_none {us:List Unit}{a b:ByteArray}{r:List ByteArray}{n k z:Int}(hk:numV a=some k)(hz:sizeOf b us 0=z)(hs:stepV n k z=none):addV us (a::b::r) n=none:=by
 subst hz
 simp[addV,hk,hs]
theorem step_bd {kk z:Int}(hk0:0<=kk)(hz:0<z)(hk:kk<=1000000000000/z):0<=kk*z∧kk*z<=1000000000000:=
 ⟨Int.mul_nonneg hk0 (by omega),Int.mul_le_of_le_ediv hz hk⟩
end Go.Proofs.YtgbpekeoegfjpaaGreatDoor.Pl
/- Plain law: what is written in units is read again. -/
namespace Go.Proofs.YtgbpekeoegfjpaaGreatDoor.Pl
open Go.RowKit
/-! ### Words -/
/-! ### Numbers -/
theorem dec_digit (u:Nat): ∀c∈Lib.decDigits u,48<=c.toNat∧c.toNat<=57:=by
 induction u using Nat.strongRecOn with
 | _ u ih=>
  intro c hc
  unfold Lib.decDigits at hc
  split at hc
  ·rename_i h
   simp only[List.mem_singleton]at hc
   subst hc
   rw[UInt8.toNat_ofNat']
   omega
  ·rename_i h
   simp only[List.mem_append,List.mem_singleton]at hc
   rcases hc with hc|hc
   ·exact ih (u/10) (by omega) c hc
   ·subst hc
    rw[UInt8.toNat_ofNat']
    omega
theorem dec_ne (u:Nat):Lib.decDigits u≠ []:=by unfold Lib.decDigits;split<;>simp
theorem parse_append : ∀(l r:List UInt8) (acc u:Nat),Lib.parseUint10 acc l=.ok u->Lib.parseUint10 acc (l++r)=Lib.parseUint10 u r
 | [],r,acc,u,h=>by simp only[Lib.parseUint10]at h;injection h with h;subst h;rfl
 | c ::l,r,acc,u,h=>by
  rw[List.cons_append]
  rw[Lib.parseUint10]at h
  rw[Lib.parseUint10]
  split at h
  ·rename_i h1
   rw[if_pos h1]
   split at h
   ·cases h
   ·rename_i h2
    rw[if_neg h2]
    split at h
    ·cases h
    ·rename_i h3
     rw[if_neg h3]
     exact parse_append l r _ u h
  ·cases h
theorem parse_one {u d:Nat}(hd:d<10)(hu:u<1000000000000000000):Lib.parseUint10 u [UInt8.ofNat (48+d)]=.ok (u*10+d):=by
 have e:(UInt8.ofNat (48+d)).toNat=48+d:=by rw[UInt8.toNat_ofNat'];omega
 unfold Lib.parseUint10
 rw[e,if_pos (by omega),if_neg (by omega),if_neg (by omega)]
 unfold Lib.parseUint10
 congr 1;omega
theorem parse_dec (u:Nat)(hu:u<1000000000000000000):Lib.parseUint10 0 (Lib.decDigits u)=.ok u:=by
 induction u using Nat.strongRecOn with
 | _ u ih=>
  unfold Lib.decDigits
  split
  ·rename_i h;rw[parse_one h (by omega)];simp
  ·rename_i h
   rw[parse_append _ _ 0 (u/10) (ih (u/10) (by omega) (by omega)),parse_one (by omega) (by omega)]
   congr 1;omega
theorem atoi_dec (u:Nat)(hu:u<1000000000000000000):Lib.atoiAll (Lib.decDigits u)=.ok (u:Int):=by
 have hp:=parse_dec u hu
 have hd:=dec_digit u
 cases hl:Lib.decDigits u with
 |nil=>exact absurd hl (dec_ne u)
 |cons c r=>
  rw[hl]at hp hd
  have hc:=hd c (by simp)
  unfold Lib.atoiAll
  simp only[]
  rw[if_neg (by omega)]
  unfold Lib.parseMag
  rw[if_neg (by simp),hp]
  simp only[]
  rw[if_neg (by omega),if_neg (by omega),if_neg (by omega)]
theorem itoa_pos {k:Int}(h:0<=k):Lib.itoa k=Lib.decDigits k.toNat:=by unfold Lib.itoa;rw[if_neg (by omega)]
/-! ### Units -/
def Good (us:List Unit):Prop:= ∀u∈us,1<=u.1∧u.1<=1000000000000∧sizeOf u.2.1 us 0=u.1∧sizeOf u.2.2 us 0=u.1∧(32:UInt8)∉u.2.1.data.toList∧(32:UInt8)∉u.2.2.data.toList
instance (us : List Unit) : Decidable (Good us) := by unfold Good; infer_instance
end Go.Proofs.YtgbpekeoegfjpaaGreatDoor.Pl
/- Plain words for texts of directions. -/
namespace Go.Proofs.YtgbpekeoegfjpaaGreatDoor
namespace Pl
theorem dec_len {n:Nat}(h:n<100):(Lib.decDigits n).length<=2:=by
 unfold Lib.decDigits;split
 ·simp
 ·unfold Lib.decDigits;rw[dif_pos (by omega)];simp
def north :List UInt8:=[110,111,114,116,104]
def east :List UInt8:=[101,97,115,116]
def south :List UInt8:=[115,111,117,116,104]
def west :List UInt8:=[119,101,115,116]
def quadT (a:List UInt8)(n:Int)(b:List UInt8):List UInt8:=a++[32]++Lib.decDigits n.toNat++[32]++b
def quad (d:Int):List UInt8:=
 if d%360=0 then north else if d%360<90 then quadT north (d%360) east else if d%360=90 then east else if d%360<180 then quadT south (180-d%360) east
 else if d%360=180 then south else if d%360<270 then quadT south (d%360-180) west else if d%360=270 then west else quadT north (360-d%360) west
end Pl
end Go.Proofs.YtgbpekeoegfjpaaGreatDoor
namespace Go.Proofs.YtgbpekeoegfjpaaGreatDoor
open Go
def cq (_:Pl.Crs):CT:=.mk
instance (c : Pl.Crs) : CoeDep CT (cq c) (Array Value) := ⟨#[.int .i64 c.b, .int .i64 c.n, .int .i64 c.l, .int .i64 c.y, .int .i64 c.x, .int .i64 c.s]⟩
def fq (_ _ _ _:Option Addr)(_ _ _ _:Nat)(_:Pl.Fld):CT:=.mk
instance (A1 A2 A3 A4 : Option Addr) (c1 c2 c3 c4 : Nat) (f : Pl.Fld) : CoeDep CT (fq A1 A2 A3 A4 c1 c2 c3 c4 f) (Array Value) := ⟨#[.slice A1 f.st.length c1, .slice A2 f.li.length c2, .slice A3 f.pa.length c3, .slice A4 f.va.length c4]⟩
def kq (_:Pl.Cal):CT:=.mk
instance (c : Pl.Cal) : CoeDep CT (kq c) (Array Value) := ⟨#[.int .u8 (c.kind : Int), .int .i64 c.lim, .int .i64 c.oth, .int .i64 c.fr, .int .i64 c.till, .int .i64 c.size, .int .i64 c.er, .int .i64 c.crs.b, .int .i64 c.crs.n, .int .i64 c.crs.l, .int .i64 c.crs.y, .int .i64 c.crs.x, .int .i64 c.crs.s]⟩
def kkq (_:Int)(_:Pl.Cal):CT:=.mk
instance (k : Int) (c : Pl.Cal) : CoeDep CT (kkq k c) (Array Value) := ⟨#[.int .u8 k, .int .i64 c.lim, .int .i64 c.oth, .int .i64 c.fr, .int .i64 c.till, .int .i64 c.size, .int .i64 c.er, .int .i64 c.crs.b, .int .i64 c.crs.n, .int .i64 c.crs.l, .int .i64 c.crs.y, .int .i64 c.crs.x, .int .i64 c.crs.s]⟩
def fcq (_ _ _ _:Option Addr)(_ _ _ _:Nat)(_:Pl.Fld)(_:Pl.Cal):CT:=.mk
instance (A1 A2 A3 A4 : Option Addr) (c1 c2 c3 c4 : Nat) (f : Pl.Fld) (c : Pl.Cal) : CoeDep CT (fcq A1 A2 A3 A4 c1 c2 c3 c4 f c) (Array Value) := ⟨#[.slice A1 f.st.length c1, .slice A2 f.li.length c2, .slice A3 f.pa.length c3, .slice A4 f.va.length c4, .int .u8 (c.kind : Int), .int .i64 c.lim, .int .i64 c.oth, .int .i64 c.fr, .int .i64 c.till, .int .i64 c.size, .int .i64 c.er, .int .i64 c.crs.b, .int .i64 c.crs.n, .int .i64 c.crs.l, .int .i64 c.crs.y, .int .i64 c.crs.x, .int .i64 c.crs.s]⟩
def fkq (_ _ _ _:Option Addr)(_ _ _ _:Nat)(_:Pl.Fld)(_:Int)(_:Pl.Cal):CT:=.mk
instance (A1 A2 A3 A4 : Option Addr) (c1 c2 c3 c4 : Nat) (f : Pl.Fld) (k : Int) (c : Pl.Cal) : CoeDep CT (fkq A1 A2 A3 A4 c1 c2 c3 c4 f k c) (Array Value) := ⟨#[.slice A1 f.st.length c1, .slice A2 f.li.length c2, .slice A3 f.pa.length c3, .slice A4 f.va.length c4, .int .u8 k, .int .i64 c.lim, .int .i64 c.oth, .int .i64 c.fr, .int .i64 c.till, .int .i64 c.size, .int .i64 c.er, .int .i64 c.crs.b, .int .i64 c.crs.n, .int .i64 c.crs.l, .int .i64 c.crs.y, .int .i64 c.crs.x, .int .i64 c.crs.s]⟩
end Go.Proofs.YtgbpekeoegfjpaaGreatDoor
