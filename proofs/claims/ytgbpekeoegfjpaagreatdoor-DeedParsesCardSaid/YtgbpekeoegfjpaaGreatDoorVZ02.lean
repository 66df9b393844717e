/- Proved: parts of the walk. -/
import Derived.Lib.AtoiAllCases
import Derived.Lib.ItoaLen
import Derived.Lib.Join
import Derived.Lib.SplitLaws
import Derived.OrdersIn
import Derived.Test.YtgbpekeoegfjpaaGreatDoorVZ00
namespace Go.Proofs
open Tryz Go
section
variable {F : Fence} {n : Nat} {P : Program} {ops : Array Oper} {Q : Exit -> Act -> World -> Prop} {md : Region.Mode} {S : World -> Prop}
def iG (P:Program)(ops:Array Oper)(S:World->Prop)(o:Oper)(v:Value)(a:Act):Prop:=YieldsIf P ops S o v a∧ ∀w,o.about P w a.eval=none
def g_ (F:Fence)(n:Nat)(P:Program)(md:Region.Mode)(ops:Array Oper)(Q:Exit->Act->World->Prop)(S:World->Prop):Nat->Array Bool->Act->World->Prop
 |0,listed,a,w=>Region.ready md ops listed=[]∧Q .normal a w
 |fuel+1,listed,a,w=>
  (Region.ready md ops listed=[]->Q .normal a w)∧
  ∀i∈Region.ready md ops listed,wpOpIn F n P ops Q i (fun a' w'=>S w'∧g_ F n P md ops Q S fuel (listed.setIfInBounds i true) a' w') a w
theorem uH : ∀(fuel:Nat) (listed:Array Bool) (a:Act) (w:World),g_ F n P md ops Q S fuel listed a w->wpAnyIn F n P md ops Q fuel listed a w
 |0,_,_,_,h=>h
 |fuel+1,_,_,_,h=>⟨h.1,fun i hi=>wpOpIn_mono (fun a' w' h'=>uH fuel _ a' w' h'.2) (h.2 i hi)⟩
theorem iG.op {i:Nat}{o:Oper}{v:Value}{a:Act}(hro:F.round=none)(hi:ops[i]?=some o)(hy:iG P ops S o v a){K:Act->World->Prop}{w:World}(hS:S w)(h:K (a.put o.dst v) w):wpOpIn F n P ops Q i K a w:=by
 have hab: ∀f,o.about P w a.eval=some f->F.fn f:=fun f hf=>by rw[hy.2 w]at hf;cases hf
 unfold wpOpIn
 simp only[hi]
 rcases hy.1 with ⟨hw,hv⟩|⟨hw,rfl⟩
 ·simp only[hw,if_true,Oper.wpIn,hro,Oper.semAt_none,hv w hS,Oper.uponIn]
  exact⟨hab,h⟩
 ·simp only[hw,Bool.false_eq_true,if_false]
  exact⟨hab,h⟩
theorem iG.same {o:Oper}{v:Value}{a a':Act}(hy:iG P ops S o v a)(he:execOp a'.eval o=execOp a.eval o)(hw:Region.wanted o (yielded ops a'.tmps)=Region.wanted o (yielded ops a.tmps))(hb: ∀w,o.about P w a'.eval=o.about P w a.eval):iG P ops S o v a':=
 ⟨hy.1.of_same he hw,fun w=>(hb w).trans (hy.2 w)⟩
theorem KC {j:Nat}{oi oj:Oper}{v:Value}(hro:F.round=none)(hj:ops[j]?=some oj)(hap:oi.apart ops oj=true)(hsi: ∀cs b,oi.op≠ .select cs b)(hsj: ∀cs b,oj.op≠ .select cs b)
  (hQ: ∀c a w,Q (.panic c) (a.put oi.dst v) w->Q (.panic c) a w) {K:Act->World->Prop} {a:Act} {w:World} (hy:iG P ops S oi v a) (h:wpOpIn F n P ops Q j K (a.put oi.dst v) w):
  wpOpIn F n P ops Q j (fun a' w'=>iG P ops S oi v a'∧K (a'.put oi.dst v) w') a w:=by
 obtain⟨h1,h2,h3⟩:=Oper.apart_spec hap
 have keep: ∀b:Act,iG P ops S oi v b-> ∀u,iG P ops S oi v (b.put oj.dst u):=fun b hb u=>hb.same (execOp_put oi hsi b oj.dst u h3) (wanted_put oi b oj.dst u h3) (fun w=>about_put oi w b oj.dst u h3)
 have back: ∀(b:Act) u W,K ((b.put oi.dst v).put oj.dst u) W->K ((b.put oj.dst u).put oi.dst v) W:=fun b u W hk=>by rw[<-Act.put_comm b v u h2];exact hk
 unfold wpOpIn at*
 simp only[hj]at*
 rw[wanted_put oj a oi.dst v h1,about_put oj w a oi.dst v h1]at h
 by_cases hw:Region.wanted oj (yielded ops a.tmps)=true
 ·rw[if_pos hw]at h ⊢
  unfold Oper.wpIn at*
  rw[about_put oj w a oi.dst v h1,hro,Oper.semAt_none,execOp_put oj hsj a oi.dst v h1]at h
  rw[hro,Oper.semAt_none]
  refine⟨h.1,?_⟩
  have h:=h.2
  generalize (execOp a.eval oj).run P w=r at h ⊢
  cases r with
  | ok x w'=>
   cases x with
   |value u=>exact⟨keep a hy u,back a u w' h⟩
   |skip=>exact⟨keep a hy _,back a _ w' h⟩
   |defer d=>
    refine⟨keep {a with defers:=d::a.defers} (hy.same rfl rfl (fun _=>rfl)) _,?_⟩
    simp only[Oper.uponIn]at h ⊢
    rw[<-Act.put_comm _ v undef h2,<-Act.put_defers]
    exact h
   |enter f args=>
    refine⟨h.1,CallsIn.mono h.2 fun e w'' he=> ?_⟩
    cases e with
    |returned u=>exact⟨keep a hy u,back a u w'' he⟩
    |panicked c=>exact hQ _ _ _ he
    |outgrown=>exact he
   |row row args=>exact⟨h.1,RowsIn.mono h.2 fun u w'' he=>⟨keep a hy u,back a u w'' he⟩⟩
   |round l f tmps assign body=>
    refine⟨h.1,RoundIn.mono h.2 fun e w'' he=> ?_⟩
    cases e with
    |returned u=>exact⟨keep a hy u,back a u w'' he⟩
    |panicked c=>exact hQ _ _ _ he
    |outgrown=>exact he
   |_=>exact h
  |halt x w'=>
   cases x with
   |panic u=>exact hQ _ _ _ h
   |_=>exact h
 ·rw[if_neg hw]at h ⊢
  exact⟨h.1,keep a hy _,back a _ w h.2⟩
theorem Hr {i:Nat}{oi:Oper}{v:Value}(hro:F.round=none)(hi:ops[i]?=some oi)(hsel: ∀(j:Nat) (o:Oper) cs b,ops[j]?=some o->o.op≠ .select cs b)(hQ: ∀c a w,Q (.panic c) (a.put oi.dst v) w->Q (.panic c) a w):
  ∀(fuel:Nat) (listed:Array Bool) (a:Act) (w:World),
   (∀j oj,ops[j]?=some oj->j≠i->listed.getD j true=false->(∀e∈oj.after,Region.binds md e=true->e.on≠i)->oi.apart ops oj=true)->
   i∈Region.ready md ops listed->iG P ops S oi v a->S w->g_ F n P md ops Q S fuel (listed.setIfInBounds i true) (a.put oi.dst v) w->g_ F n P md ops Q S (fuel+1) listed a w
 |0,listed,a,w,_,hr,hy,hS,H=>by
  refine⟨fun h=>absurd hr (by rw[h];simp),fun j hj=> ?_⟩
  by_cases hji:j=i
  ·subst hji;exact hy.op hro hi hS ⟨hS,H⟩
  ·exact absurd (ready_mono hj hji) (by rw[H.1];simp)
 | fuel+1,listed,a,w,hfree,hr,hy,hS,H=>by
  refine⟨fun h=>absurd hr (by rw[h];simp),fun j hj=> ?_⟩
  by_cases hji:j=i
  ·subst hji;exact hy.op hro hi hS ⟨hS,H⟩
  obtain⟨hjun,oj,hoj,hall⟩:=mem_ready.1 hj
  have hnot: ∀e∈oj.after,Region.binds md e=true->e.on≠i:=by
   intro e he hb heq
   have g1:=hall e he hb
   have g0:=(mem_ready.1 hr).1
   rw[heq]at g1
   rcases Nat.lt_or_ge i listed.size with hlt|hge
   ·simp[hlt]at g0 g1;rw[g0]at g1;cases g1
   ·simp[Array.getElem?_eq_none hge]at g1
  have h2:=KC hro hoj (hfree j oj hoj hji hjun hnot) (fun cs b=>hsel i oi cs b hi) (fun cs b=>hsel j oj cs b hoj) hQ hy (H.2 j (ready_mono hj hji))
  refine wpOpIn_mono (fun a' w' h3=>⟨h3.2.1,Hr hro hi hsel hQ fuel (listed.setIfInBounds j true) a' w' ?_ (ready_mono hr (Ne.symm hji)) h3.1 h3.2.1 ?_⟩) h2
  ·intro k ok hk hki hun hno
   refine hfree k ok hk hki ?_ hno
   by_cases hjk:j=k
   ·subst hjk;exact hjun
   ·rw[getD_set_ne true hjk]at hun;exact hun
  ·rw[Array.setIfInBounds_comm _ _ hji]
   exact h3.2.2
theorem Qp {oi:Oper}{v:Value}{fuel:Nat}{listed:Array Bool}{a:Act}{w:World}(i:Nat)(d:Option Tmp)(hro:F.round=none)(hi:ops[i]?=some oi)(hd:oi.dst=d)
  (hs:Region.noSelect ops=true) (hf:Region.free md ops listed i=true) (hr:(Region.ready md ops listed).contains i=true) (hQ: ∀c a w,Q (.panic c) (a.put d v) w->Q (.panic c) a w)
  (hy:YieldsIf P ops S oi v a) (hab: ∀w,oi.about P w a.eval=none) (hS:S w) (h:g_ F n P md ops Q S fuel (listed.setIfInBounds i true) (a.put d v) w):g_ F n P md ops Q S (fuel+1) listed a w:=by
 subst hd
 exact Hr hro hi (Region.noSelect_spec hs) hQ fuel listed a w (Region.free_spec hi hf) (by simpa using hr) ⟨hy,hab⟩ hS h
theorem tK {oi:Oper}{v:Value}{fuel:Nat}{listed:Array Bool}{a:Act}{w:World}(i d:Nat)(hi:ops[i]?=some oi)(hd:oi.dst=some d)(h:g_ F n P md ops Q S fuel (listed.setIfInBounds i true) (a.put (some d) v) w)
  (hy: ∀W,S W->(execOp a.eval oi).run P W=.ok (.value v) W:=by intro W hW;(try dsimp only at hW);(try obtain⟨y0,y1,y2⟩:=hW);go_simp;try with_reducible rfl)
  (hro:F.round=none:=by rfl) (hs:Region.noSelect ops=true:=by kernel_rfl) (hf:Region.free md ops listed i=true:=by kernel_rfl) (hr:(Region.ready md ops listed).contains i=true:=by kernel_rfl)
  (hQ: ∀c a w,Q (.panic c) (a.put (some d) v) w->Q (.panic c) a w:=by exact fun _ _ _ h=>h) (hw:Region.wanted oi (yielded ops a.tmps)=true:=by rfl)
  (hab: ∀w,oi.about P w a.eval=none:=by exact fun _=>rfl) (hS:S w:=by assumption):g_ F n P md ops Q S (fuel+1) listed a w:=
 Qp i (some d) hro hi hd hs hf hr hQ (Or.inl ⟨hw,hy⟩) hab hS h
def dO (F:Fence)(n:Nat)(P:Program)(md:Region.Mode)(ops:Array Oper)(Q:Exit->Act->World->Prop)(S:World->Prop)(fuel:Nat)(listed:Array Bool)(a:Act)(w:World)(rs:List Nat):Prop:=
 ∀i∈rs,wpOpIn F n P ops Q i (fun a' w'=>S w'∧g_ F n P md ops Q S fuel (listed.setIfInBounds i true) a' w') a w
theorem dO.nil {fuel:Nat}{listed:Array Bool}{a:Act}{w:World}:dO F n P md ops Q S fuel listed a w []:=fun _ h=>by cases h
theorem dO.cons {fuel:Nat}{listed:Array Bool}{a:Act}{w:World}{i:Nat}{o:Oper}{rs:List Nat}(d:Option Tmp)(ho:ops[i]?=some o)(hd:o.dst=d)
  (h: ∀K':Act->World->Prop,Shut (∀a w,S w->(S w->g_ F n P md ops Q S fuel (listed.setIfInBounds i true) a w)->K' a w)->if Region.wanted o (yielded ops a.tmps)=true then Oper.wpIn F n P o a w K' Q else (∀f,o.about P w a.eval=some f->F.fn f)∧K' (a.put d undef) w)
  (hs:dO F n P md ops Q S fuel listed a w rs):dO F n P md ops Q S fuel listed a w (i::rs):=by
 subst hd
 intro j hj
 rcases List.mem_cons.1 hj with rfl|hj
 ·exact wpOpIn_step ho fun K' hK=>h K' fun a w hS hW=>hK a w ⟨hS,hW hS⟩
 ·exact hs j hj
theorem fZ {rs:List Nat}{fuel:Nat}{listed:Array Bool}{a:Act}{w:World}(hr:Region.ready md ops listed=rs)(hne:rs≠ [])(h:dO F n P md ops Q S fuel listed a w rs):g_ F n P md ops Q S (fuel+1) listed a w:=
 ⟨fun h0=>absurd (hr▸h0) hne,hr▸h⟩
theorem tO {listed:Array Bool}{a:Act}{w:World}(hr:Region.ready md ops listed=[])(h:Q .normal a w): ∀fuel,g_ F n P md ops Q S fuel listed a w
 |0=>⟨hr,h⟩
 |_+1=>⟨fun _=>h,by rw[hr];simp⟩
theorem kR {id:Nat}{a:Act}{w:World}(hm:P.follows .mixedOrders=true)(hS:S w.drew)(h:S w.drew->g_ F n P .any ops Q S ops.size (Array.replicate ops.size false) a w.drew):(Code.region id ops true).wpIn F n P Q a w:=
 wpIn_region_any hm (uH _ _ _ _ (h hS))
end
namespace Pl
structure oz where
 name:ByteArray
 dH:Int
 fr:Int
 till:Int
structure aL where
 st:List (ByteArray×Int)
 li:List ByteArray
 pa:List oz
 va:List (Int×Int)
def kI (b:UInt8):Bool:=(decide (97<=b.toNat)&&decide (b.toNat<=122))||(decide (48<=b.toNat)&&decide (b.toNat<=57))||b==45
def isName (s:ByteArray):Bool:=match s.data.toList with
 | []=>false
 |b::l=>decide (97<=b.toNat)&&decide (b.toNat<=122)&&decide (l.length<24)&&l.all kI
def twice {α:Type}[DecidableEq α]:List α->Bool
 | []=>false
 |a::l=>decide (a∈l)||twice l
theorem mM {α:Type}[DecidableEq α](l:List α):twice l=false↔l.Nodup:=by
 induction l with
 |nil=>simp[twice]
 |cons a l ih=>simp[twice,List.nodup_cons,ih]
def CK (p q:oz):Int:=min p.till q.till-max p.fr q.fr
def eP (S l s:Nat):Nat:=1+l*S+s
theorem rF {S L l s:Nat}(hl:l<L)(hs:s<S):eP S l s<1+L*S:=by
 unfold eP
 have:(l+1)*S<=L*S:=Nat.mul_le_mul_right _ hl
 rw[Nat.add_mul,Nat.one_mul]at this
 omega
structure Bd where
 fr:Nat
 till:Nat
 most:Int
 record:Int
 deriving DecidableEq
def AP (p:Nat):List Bd:=[⟨0,p,100000,0⟩,⟨p,0,0,0⟩]
def nature (S L:Nat):List Bd:=(List.range (L*S)).flatMap (fun p=>AP (p+1))++(List.range (L-1)).flatMap (fun l=>(List.range S).map (fun s=>⟨eP S (l+1) s,eP S l s,0,0⟩))
theorem CO {v:List (Int×Int)}{dx:Int}: ∀ {cs:List bF} {lo hi:Int},-100000<=lo->hi<=100000->lo<=hi-> -100000<=(lQ v dx lo hi cs).1∧(lQ v dx lo hi cs).1<=(lQ v dx lo hi cs).2.1∧(lQ v dx lo hi cs).2.1<=100000
 | [],lo,hi,h0,h1,h2=>by unfold lQ;exact⟨h0,h2,h1⟩
 | c::cs,lo,hi,h0,h1,h2=>by
  unfold lQ
  split
  ·decide
  ·rename_i hc
   exact CO (by omega) (by omega) (by omega)
theorem Qq (v:List (Int×Int))(cs:List bF)(dx:Int): -100000<=(com v cs dx).1∧(com v cs dx).1<=(com v cs dx).2.1∧(com v cs dx).2.1<=100000:=by
 unfold com
 split
 ·exact CO (by omega) (by omega) (by omega)
 ·decide
structure aZ where
 kind:Nat
 lim:Int
 bL:Int
 fr:Int
 till:Int
 size:Int
 er:Int
 aB:bF
def bF.zero :bF:=⟨0,0,0,0,0,0⟩
def mO (x:Int)(n:Nat):Prop:=0<=x∧x<n
instance (x : Int) (n : Nat) : Decidable (mO x n) := by unfold mO; infer_instance
def aZ.tab (S L:Nat)(c:aZ):Prop:=
 mO c.lim L∧mO c.fr S∧
 ((c.kind=1∧c.aB=bF.zero∧c.bL=0∧c.till=0∧(0<=c.size∧c.size<=100000)∧0<=c.er∧c.er<=100000)
 ∨(c.kind=2∧c.aB=bF.zero∧(c.lim<c.bL∧c.bL<L)∧c.till=0∧(0<=c.size∧c.size<=100000)∧0<=c.er∧c.er<=100000)
 ∨(c.kind=3∧c.bL=0∧c.size=0∧c.er=0∧mO c.till S∧c.till≠c.fr)
 ∨(c.kind=4∧c.aB=bF.zero∧(c.lim<c.bL∧c.bL<L)∧c.size=0∧c.er=0∧c.fr<c.till∧c.till<S)
 ∨(c.kind=5∧c.aB=bF.zero∧c.bL=0∧mO c.till S∧c.till≠c.fr∧(-100000<=c.size∧c.size<=100000)∧0<=c.er∧c.er<=100000))
def Um (st:List (ByteArray×Int))(i:Int):Int:=(st[i.toNat]?.map Prod.snd).getD 0
def kH (st:List (ByteArray×Int))(c:aZ):Int:=Um st c.till-Um st c.fr
open Classical in
noncomputable def fP (f:aL)(c:aZ):Int:=
 if ¬c.tab f.st.length f.li.length then 1
 else if c.kind≠3 then 0
 else if c.aB.ok=false then 1
 else if jA f.va [c.aB] (kH f.st c)≠0 then jA f.va [c.aB] (kH f.st c)
 else if (com f.va [c.aB] (kH f.st c)).2.2=true then 0 else 5
structure Sp where
 fr:Nat
 till:Nat
 lo:Int
 hi:Int
def q8 (f:aL)(l s:Int):Nat:=eP f.st.length l.toNat s.toNat
def spans (f:aL)(c:aZ):List Sp:=
 match c.kind with
 |1=>[⟨0,q8 f c.lim c.fr,c.size-c.er,c.size+c.er⟩]
 |2=>[⟨q8 f c.lim c.fr,q8 f c.bL c.fr,c.size-c.er,c.size+c.er⟩]
 |3=>[⟨q8 f c.lim c.fr,q8 f c.lim c.till,(com f.va [c.aB] (kH f.st c)).1,(com f.va [c.aB] (kH f.st c)).2.1⟩]
 |4=>(List.range (c.till-c.fr+1).toNat).map (fun k:Nat=>⟨q8 f c.lim (c.fr+k),q8 f c.bL (c.fr+k),0,0⟩)
 |5=>[⟨q8 f c.lim c.fr,q8 f c.lim c.till,c.size-c.er,c.size+c.er⟩]
 |_=>[]
def R9 (r:Int)(x:Sp):List Bd:=[⟨x.fr,x.till,x.hi,r⟩,⟨x.till,x.fr,-x.lo,r⟩]
def kL (f:aL)(c:aZ)(r:Int):List Bd:=(spans f c).flatMap (R9 r)
def zG (y:List Int)(p:Nat):Int:=y[p]?.getD 0
end Pl
namespace Pl
def aL.sn (f:aL):List ByteArray:=f.st.map Prod.fst
def aL.pn (f:aL):List ByteArray:=f.pa.map oz.name
def gG (S L:Nat)(p:oz):Bool:=decide (0<=p.dH∧p.dH<=(L:Int)-2)&&decide (0<=p.fr∧p.fr<=(S:Int)-1)&&decide (0<=p.till∧p.till<=(S:Int)-1)
def rising :List Int->Bool
 | []=>true
 | [_]=>true
 |a::b::l=>decide (a<b)&&rising (b::l)
def over (p q:oz):Bool:=decide (p.dH=q.dH)&&decide (0<CK p q)
def apart (done:List oz):List oz->Bool
 | []=>true
 |p::l=>decide (p.fr<p.till)&& !(done.any (over p))&&apart (done++[p]) l
def aR (f:aL):Int:=
 if 12<f.st.length∨10<f.li.length∨40<f.pa.length then 2
 else if f.st.length<2∨f.li.length<1 then 5
 else if vars f.va≠0 then vars f.va
 else if (f.sn.all isName&&f.li.all isName&&f.pn.all isName)=false then 4
 else if (twice f.sn||twice f.li||twice f.pn)=true then 6
 else if (f.st.all (fun s=>decide (0<=s.2∧s.2<=100000))&&f.pa.all (gG f.st.length f.li.length))=false then 1
 else if (rising (f.st.map Prod.snd)&&apart [] f.pa)=false then 30
 else 0
structure rG (f:aL):Prop where
 st2:2<=f.st.length
 I9:f.st.length<=12
 Wx:1<=f.li.length
 KD:f.li.length<=10
 XQ:f.pa.length<=40
 va:vars f.va=0
 sn:f.sn.all isName=true
 ln:f.li.all isName=true
 pn:f.pn.all isName=true
 s2:f.sn.Nodup
 l2:f.li.Nodup
 p2:f.pn.Nodup
 x: ∀s∈f.st,0<=s.2∧s.2<=100000
 par: ∀p∈f.pa,gG f.st.length f.li.length p=true
 rise:rising (f.st.map Prod.snd)=true
 ap:apart [] f.pa=true
theorem iV {f:aL}(h:aR f=0):rG f:=by
 unfold aR at h
 split at h
 ·omega
 rename_i h1
 split at h
 ·omega
 rename_i h2
 split at h
 ·exact absurd h ‹_›
 rename_i h3
 split at h
 ·omega
 rename_i h4
 split at h
 ·omega
 rename_i h5
 split at h
 ·omega
 rename_i h6
 split at h
 ·omega
 rename_i h7
 simp only[Bool.not_eq_false,Bool.and_eq_true]at h4 h6 h7
 rw[Bool.not_eq_true,Bool.or_eq_false_iff,Bool.or_eq_false_iff]at h5
 exact⟨by omega,by omega,by omega,by omega,by omega,by simpa using h3,h4.1.1,h4.1.2,h4.2,(mM _).1 h5.1.1,(mM _).1 h5.1.2,(mM _).1 h5.2,fun s hs=>by simpa using List.all_eq_true.1 h6.1 s hs,fun p hp=>List.all_eq_true.1 h6.2 p hp,h7.1,h7.2⟩
def aZ.back (c:aZ):aZ:=
 if c.kind=5 then {c with fr:=c.till,till:=c.fr,size:= -c.size}
 else if c.kind=3 then {c with fr:=c.till,till:=c.fr,aB:=c.aB.back}
 else c
def cutAt (sep:UInt8):List UInt8->List (List UInt8)
 | []=>[[]]
 |b::l=>if b=sep then []::cutAt sep l else match cutAt sep l with
  | []=>[[b]]
  |w::ws=>(b::w)::ws
theorem iH (sep:UInt8)(l:List UInt8):cutAt sep l≠ []:=by
  cases l with
  |nil=>simp[cutAt]
  | cons b l => unfold cutAt;split;·simp
                split<;>simp
def ahead (l:List UInt8):List UInt8:=l.takeWhile (fun b=>b !=35)
def solid (l:List (List UInt8)):List (List UInt8):=l.filter (fun w=> !w.isEmpty)
def kM (l:List UInt8):List (List UInt8):=solid (cutAt 32 (ahead l))
def rH (l:List UInt8):List (List UInt8):=cutAt 10 l
end Pl
end Go.Proofs
namespace Go.Proofs.Pl
open RowKit
abbrev Unit :=Int×ByteArray×ByteArray
def word (k:Int)(u:Unit):ByteArray:=if k=1 then u.2.1 else u.2.2
def spelt (k:Int):ByteArray:=⟨(Lib.itoa k).toArray⟩
def aN (c:Int):List Unit->List ByteArray
 | []=>[]
 |u::us=>(if c/u.1>0 then [spelt (c/u.1),word (c/u.1) u]else [])++aN (c%u.1) us
def oG (c:Int):List Unit->Int
 | []=>c
 |u::us=>oG (c%u.1) us
theorem vP {c s:Int}(h0:0<=c)(h1:c<=1000000000000)(hs:1<=s):
  wrap64 (c.tdiv s)=c/s∧c.tmod s=c%s∧0<=c/s∧c/s<=1000000000000∧0<=c%s∧c%s<=1000000000000:=by
 rw[Int.tdiv_eq_ediv_of_nonneg h0,Int.tmod_eq_emod_of_nonneg h0]
 have k1:0<=c/s:=Int.ediv_nonneg h0 (by omega)
 have k2:c/s<=c:=Int.ediv_le_self _ h0
 have k3:0<=c%s:=Int.emod_nonneg _ (by omega)
 have k4:c%s<=c:=by
  have:=Int.mul_ediv_add_emod c s
  have:=Int.mul_nonneg (show(0:Int)<=s by omega) k1
  omega
 have e:wrap64 (c/s)=c/s:=IntWalk.wrap64_in _ ⟨by omega,by omega⟩
 rw[e]
 exact⟨rfl,rfl,k1,by omega,k3,by omega⟩
theorem qM (c:Int)(us:List Unit):(aN c us).length<=2*us.length:=by
 induction us generalizing c with
 |nil=>simp[aN]
 |cons u us ih=>
  have:=ih (c%u.1)
  simp only[aN]
  split<;>simp<;>omega
def named (c:Int)(us:List Unit):ByteArray:=
 if aN c us=[]then ⟨#[48,32]⟩++((us.getLast?.map (·.2.2)).getD ⟨#[]⟩)else ⟨(Lib.join ((aN c us).map (·.data.toList)) [32]).toArray⟩
theorem Ht {xs:List (List UInt8)}{N:Nat}(h: ∀x∈xs,x.length<=N):Lib.lens xs<=N*xs.length:=by
 induction xs with
 |nil=>simp[Lib.lens]
 |cons x xs ih=>
  have:=ih (fun y hy=>h y (by simp[hy]))
  have:=h x (by simp)
  simp only[Lib.lens,List.map_cons,List.sum_cons,List.length_cons,Nat.mul_add]at*
  omega
theorem join_le {xs:List (List UInt8)}{N:Nat}(sep:List UInt8)(h: ∀x∈xs,x.length<=N):(Lib.join xs sep).length<=sep.length*xs.length+N*xs.length:=by
 cases xs with
 |nil=>simp[Lib.join_nil]
 |cons x r=>
  have:=Ht h
  rw[Lib.join_length]
  have:sep.length*r.length<=sep.length*(x::r).length:=Nat.mul_le_mul_left _ (by simp)
  omega
theorem AQ {c:Int}{us:List Unit}(h0:0<=c)(h1:c<=1000000000000)(hpos: ∀u∈us,1<=u.1)(hs: ∀u∈us,u.2.1.size<=100∧u.2.2.size<=100): ∀x∈aN c us,x.size<=100:=by
 induction us generalizing c with
 |nil=>simp[aN]
 | cons u us ih=>
  obtain⟨_,_,k1,k2,k3,k4⟩:=vP h0 h1 (hpos u (by simp))
  have h:=ih k3 k4 (fun v hv=>hpos v (by simp[hv])) (fun v hv=>hs v (by simp[hv]))
  intro x hx
  simp only[aN,List.mem_append]at hx
  rcases hx with hx|hx
  ·split at hx
   ·simp only[List.mem_cons,List.not_mem_nil,or_false]at hx
    rcases hx with rfl|rfl
    ·have:=Lib.itoa_length_le (c/u.1) (by omega) (by omega)
     simp only[spelt,ByteArray.size,List.size_toArray]
     omega
    ·have:=hs u (by simp)
     unfold word
     split<;>omega
   ·simp at hx
  ·exact h x hx
def vk (s:ByteArray):Option Int:=
 match Lib.atoiAll s.data.toList with
 | .ok v=>if 0<=v∧v<=1000000000000∧spelt v=s then some v else none
 |_=>none
def sizeOf (b:ByteArray):List Unit->Int->Int
 | [],sz=>sz
 |u::us,sz=>sizeOf b us (if b=u.2.1∨b=u.2.2 then u.1 else sz)
def mP (n k sz:Int):Option Int:=if 0<sz∧k<=1000000000000/sz then (if n+k*sz<=1000000000000 then some (n+k*sz)else none)else none
def qy (us:List Unit):List ByteArray->Int->Option Int
 | [],n=>some n
 |a::b::r,n=>(vk a).bind fun k=>(mP n k (sizeOf b us 0)).bind fun n'=>qy us r n'
 |_,_=>none
def bU (s:ByteArray):List ByteArray:=Lib.splitB ⟨#[32]⟩ 0 (Lib.countB s ⟨#[32]⟩) s
def fG (us:List Unit)(wr:Int->ByteArray)(s:ByteArray):Option Int:=
 if (bU s).length%2=0 then (qy us (bU s) 0).bind fun n=>if wr n=s then some n else none else none
def cO :List Unit:=[(100,⟨#[99,104,97,105,110]⟩,⟨#[99,104,97,105,110,115]⟩),(25,⟨#[112,111,108,101]⟩,⟨#[112,111,108,101,115]⟩),(1,⟨#[108,105,110,107]⟩,⟨#[108,105,110,107,115]⟩)]
def aY (n:Int):ByteArray:=if 0<=n∧n<=1000000 then named n cO else ⟨#[]⟩
theorem NH {s:ByteArray}{v:Int}(h:vk s=some v):0<=v∧v<=1000000000000:=by
 unfold vk at h
 split at h
 ·split at h
  ·cases h;rename_i hc;exact⟨hc.1,hc.2.1⟩
  ·cases h
 ·cases h
theorem zH {us:List Unit}{a b:ByteArray}{r:List ByteArray}{n k n' z:Int}(hk:vk a=some k)(hz:sizeOf b us 0=z)(hs:mP n k z=some n'):qy us (a::b::r) n=qy us r n':=by
 subst hz
 simp[qy,hk,hs]
theorem tQ {us:List Unit}{a b:ByteArray}{r:List ByteArray}{n k z:Int}(hk:vk a=some k)(hz:sizeOf b us 0=z)(hs:mP n k z=none):qy us (a::b::r) n=none:=by
 subst hz
 simp[qy,hk,hs]
theorem Hu {kk z:Int}(hk0:0<=kk)(hz:0<z)(hk:kk<=1000000000000/z):0<=kk*z∧kk*z<=1000000000000:=
 ⟨Int.mul_nonneg hk0 (by omega),Int.mul_le_of_le_ediv hz hk⟩
theorem kS (u:Nat): ∀c∈Lib.decDigits u,48<=c.toNat∧c.toNat<=57:=by
 induction u using Nat.strongRecOn with
 | _ u ih=>
  intro c hc
  unfold Lib.decDigits at hc
  split at hc
  ·rename_i h
   simp only[List.mem_singleton]at hc
   subst hc
   rw[UInt8.toNat_ofNat']
   omega
  ·rename_i h
   simp only[List.mem_append,List.mem_singleton]at hc
   rcases hc with hc|hc
   ·exact ih (u/10) (by omega) c hc
   ·subst hc
    rw[UInt8.toNat_ofNat']
    omega
theorem oH (u:Nat):Lib.decDigits u≠ []:=by unfold Lib.decDigits;split<;>simp
theorem rJ : ∀(l r:List UInt8) (acc u:Nat),Lib.parseUint10 acc l=.ok u->Lib.parseUint10 acc (l++r)=Lib.parseUint10 u r
 | [],r,acc,u,h=>by simp only[Lib.parseUint10]at h;injection h with h;subst h;rfl
 | c ::l,r,acc,u,h=>by
  rw[List.cons_append]
  rw[Lib.parseUint10]at h
  rw[Lib.parseUint10]
  split at h
  ·rename_i h1
   rw[if_pos h1]
   split at h
   ·cases h
   ·rename_i h2
    rw[if_neg h2]
    split at h
    ·cases h
    ·rename_i h3
     rw[if_neg h3]
     exact rJ l r _ u h
  ·cases h
theorem zI {u d:Nat}(hd:d<10)(hu:u<1000000000000000000):Lib.parseUint10 u [UInt8.ofNat (48+d)]=.ok (u*10+d):=by
 have e:(UInt8.ofNat (48+d)).toNat=48+d:=by rw[UInt8.toNat_ofNat'];omega
 unfold Lib.parseUint10
 rw[e,if_pos (by omega),if_neg (by omega),if_neg (by omega)]
 unfold Lib.parseUint10
 congr 1;omega
theorem zJ (u:Nat)(hu:u<1000000000000000000):Lib.parseUint10 0 (Lib.decDigits u)=.ok u:=by
 induction u using Nat.strongRecOn with
 | _ u ih=>
  unfold Lib.decDigits
  split
  ·rename_i h;rw[zI h (by omega)];simp
  ·rename_i h
   rw[rJ _ _ 0 (u/10) (ih (u/10) (by omega) (by omega)),zI (by omega) (by omega)]
   congr 1;omega
theorem CP (u:Nat)(hu:u<1000000000000000000):Lib.atoiAll (Lib.decDigits u)=.ok (u:Int):=by
 have hp:=zJ u hu
 have hd:=kS u
 cases hl:Lib.decDigits u with
 |nil=>exact absurd hl (oH u)
 |cons c r=>
  rw[hl]at hp hd
  have hc:=hd c (by simp)
  unfold Lib.atoiAll
  simp only[]
  rw[if_neg (by omega)]
  unfold Lib.parseMag
  rw[if_neg (by simp),hp]
  simp only[]
  rw[if_neg (by omega),if_neg (by omega),if_neg (by omega)]
theorem iI {k:Int}(h:0<=k):Lib.itoa k=Lib.decDigits k.toNat:=by unfold Lib.itoa;rw[if_neg (by omega)]
def Good (us:List Unit):Prop:= ∀u∈us,1<=u.1∧u.1<=1000000000000∧sizeOf u.2.1 us 0=u.1∧sizeOf u.2.2 us 0=u.1∧(32:UInt8)∉u.2.1.data.toList∧(32:UInt8)∉u.2.2.data.toList
instance (us : List Unit) : Decidable (Good us) := by unfold Good; infer_instance
end Go.Proofs.Pl
namespace Go.Proofs
open Tryz
namespace Pl
theorem lU {n:Nat}(h:n<100):(Lib.decDigits n).length<=2:=by
 unfold Lib.decDigits;split
 ·simp
 ·unfold Lib.decDigits;rw[dif_pos (by omega)];simp
def wB :List UInt8:=[110,111,114,116,104]
def east :List UInt8:=[101,97,115,116]
def dH :List UInt8:=[115,111,117,116,104]
def west :List UInt8:=[119,101,115,116]
def nX (a:List UInt8)(n:Int)(b:List UInt8):List UInt8:=a++[32]++Lib.decDigits n.toNat++[32]++b
def gu (d:Int):List UInt8:=
 if d%360=0 then wB else if d%360<90 then nX wB (d%360) east else if d%360=90 then east else if d%360<180 then nX dH (180-d%360) east
 else if d%360=180 then dH else if d%360<270 then nX dH (d%360-180) west else if d%360=270 then west else nX wB (360-d%360) west
end Pl
open Go
def cq (_:Pl.bF):CT:=.mk
instance (c : Pl.bF) : CoeDep CT (cq c) (Array Value) := ⟨#[.int .i64 c.b, .int .i64 c.n, .int .i64 c.l, .int .i64 c.y, .int .i64 c.x, .int .i64 c.s]⟩
def fq (_ _ _ _:Option Addr)(_ _ _ _:Nat)(_:Pl.aL):CT:=.mk
instance (A1 A2 A3 A4 : Option Addr) (c1 c2 c3 c4 : Nat) (f : Pl.aL) : CoeDep CT (fq A1 A2 A3 A4 c1 c2 c3 c4 f) (Array Value) := ⟨#[.slice A1 f.st.length c1, .slice A2 f.li.length c2, .slice A3 f.pa.length c3, .slice A4 f.va.length c4]⟩
def kq (_:Pl.aZ):CT:=.mk
instance (c : Pl.aZ) : CoeDep CT (kq c) (Array Value) := ⟨#[.int .u8 (c.kind : Int), .int .i64 c.lim, .int .i64 c.bL, .int .i64 c.fr, .int .i64 c.till, .int .i64 c.size, .int .i64 c.er, .int .i64 c.aB.b, .int .i64 c.aB.n, .int .i64 c.aB.l, .int .i64 c.aB.y, .int .i64 c.aB.x, .int .i64 c.aB.s]⟩
def iq (_:Int)(_:Pl.aZ):CT:=.mk
instance (k : Int) (c : Pl.aZ) : CoeDep CT (iq k c) (Array Value) := ⟨#[.int .u8 k, .int .i64 c.lim, .int .i64 c.bL, .int .i64 c.fr, .int .i64 c.till, .int .i64 c.size, .int .i64 c.er, .int .i64 c.aB.b, .int .i64 c.aB.n, .int .i64 c.aB.l, .int .i64 c.aB.y, .int .i64 c.aB.x, .int .i64 c.aB.s]⟩
def jB (_ _ _ _:Option Addr)(_ _ _ _:Nat)(_:Pl.aL)(_:Pl.aZ):CT:=.mk
instance (A1 A2 A3 A4 : Option Addr) (c1 c2 c3 c4 : Nat) (f : Pl.aL) (c : Pl.aZ) : CoeDep CT (jB A1 A2 A3 A4 c1 c2 c3 c4 f c) (Array Value) := ⟨#[.slice A1 f.st.length c1, .slice A2 f.li.length c2, .slice A3 f.pa.length c3, .slice A4 f.va.length c4, .int .u8 (c.kind : Int), .int .i64 c.lim, .int .i64 c.bL, .int .i64 c.fr, .int .i64 c.till, .int .i64 c.size, .int .i64 c.er, .int .i64 c.aB.b, .int .i64 c.aB.n, .int .i64 c.aB.l, .int .i64 c.aB.y, .int .i64 c.aB.x, .int .i64 c.aB.s]⟩
def bG (_ _ _ _:Option Addr)(_ _ _ _:Nat)(_:Pl.aL)(_:Int)(_:Pl.aZ):CT:=.mk
instance (A1 A2 A3 A4 : Option Addr) (c1 c2 c3 c4 : Nat) (f : Pl.aL) (k : Int) (c : Pl.aZ) : CoeDep CT (bG A1 A2 A3 A4 c1 c2 c3 c4 f k c) (Array Value) := ⟨#[.slice A1 f.st.length c1, .slice A2 f.li.length c2, .slice A3 f.pa.length c3, .slice A4 f.va.length c4, .int .u8 k, .int .i64 c.lim, .int .i64 c.bL, .int .i64 c.fr, .int .i64 c.till, .int .i64 c.size, .int .i64 c.er, .int .i64 c.aB.b, .int .i64 c.aB.n, .int .i64 c.aB.l, .int .i64 c.aB.y, .int .i64 c.aB.x, .int .i64 c.aB.s]⟩
