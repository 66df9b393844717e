/- Proved: parts of the walk. -/
import Derived.Shelf.Strings.BuilderK
import Derived.Test.YtgbpekeoegfjpaaGreatDoorVP3a
set_option maxRecDepth 100000
namespace Go.Proofs
open Tryz
namespace Pl
theorem mh {sep b:UInt8}(l:List UInt8)(h:b≠sep): ∃w ws,cutAt sep l=w::ws∧cutAt sep (b::l)=(b::w)::ws:=by
 cases e:cutAt sep l with
 |nil=>exact absurd e (iH sep l)
 |cons w ws=>exact⟨w,ws,rfl,by unfold cutAt;rw[if_neg h,e]⟩
def lH :List UInt8->List UInt8->List (List UInt8)
 |w,[]=>solid [w]
 |w,b::l=>if b=35 then solid [w]else if b=32 then solid [w]++lH [] l else lH (w++[b]) l
theorem L9 (l:List UInt8): ∀w:List UInt8,lH w l=match cutAt 32 (ahead l)with
  | []=>[]
  |x::xs=>solid ((w++x)::xs):=by
 induction l with
 |nil=>intro w;simp[lH,ahead,cutAt]
 | cons b l ih=>
  intro w
  unfold lH
  split
  ·rename_i h;subst h
   simp[ahead,cutAt]
  ·rename_i h
   have ha:ahead (b::l)=b::ahead l:=by unfold ahead;rw[List.takeWhile_cons];simp[h]
   rw[ha]
   split
   ·rename_i h2;subst h2
    have e:cutAt 32 (32::ahead l)=[]::cutAt 32 (ahead l):=by simp[cutAt]
    rw[e,ih]
    cases e2:cutAt 32 (ahead l)with
    |nil=>exact absurd e2 (iH _ _)
    |cons x xs=>simp[solid,List.filter_cons];split<;>simp
   ·rename_i h2
    obtain⟨x,xs,e1,e2⟩:=mh (ahead l) h2
    rw[ih,e1,e2]
    simp
theorem xS (l:List UInt8):lH [] l=kM l:=by
 rw[L9]
 unfold kM
 cases e:cutAt 32 (ahead l)with
 |nil=>exact absurd e (iH _ _)
 |cons x xs=>simp
end Pl
end Go.Proofs
namespace Go.Proofs.Pl
open RowKit
def jQ (acc:List UInt8):List UInt8->List (List UInt8)
 | []=>[acc]
 |c::s=>if c=32 then acc::jQ [] s else jQ (acc++[c]) s
def pre (acc:List UInt8):List (List UInt8)->List (List UInt8)
 | []=>[]
 |x::xs=>(acc++x)::xs
theorem pre_nil (l:List (List UInt8)):pre [] l=l:=by cases l<;>rfl
theorem xU (c:UInt8)(hc:c≠32)(r:List UInt8): ∀k,Lib.splitK [32] 0 k (c::r)=pre [c] (Lib.splitK [32] 0 k r)
 |0=>rfl
 | k+1=>by
  have hp:([32]:List UInt8).isPrefixOf (c::r)=false:=by simp[List.isPrefixOf,Ne.symm hc]
  have hix:Lib.index (c::r) [32]=if Lib.index r [32]== -1 then-1 else Lib.index r [32]+1:=by rw[Lib.index,hp];simp
  unfold Lib.splitK
  by_cases hm:Lib.index r [32]= -1
  ·rw[hix,if_pos (beq_iff_eq.2 hm),hm];rfl
  ·have hge:=Lib.index_ge r [32]
   have hn: ¬(Lib.index r [32]== -1)=true:=fun e=>hm (beq_iff_eq.1 e)
   rw[hix,if_neg hn,if_neg hn,if_neg (by intro e;have:=beq_iff_eq.1 e;omega)]
   obtain⟨i,hi⟩: ∃i:Nat,Lib.index r [32]=i:=⟨(Lib.index r [32]).toNat,by omega⟩
   rw[hi]
   have e:((i:Int)+1).toNat=i+1:=by omega
   rw[e]
   simp[pre]
theorem xV (r:List UInt8)(k:Nat):Lib.splitK [32] 0 (k+1) (32::r)=[]::Lib.splitK [32] 0 k r:=by
 have hix:Lib.index (32::r) [32]=((0:Nat):Int):=by rw[Lib.index];simp[List.isPrefixOf]
 rw[Lib.splitK,hix]
 simp
theorem qR : ∀(s acc:List UInt8),jQ acc s=pre acc (Lib.splitK [32] 0 (Lib.count s [32]) s)
 | [],acc=>by
  have:Lib.count [] [32]=0:=rfl
  rw[this];unfold jQ Lib.splitK pre;simp
 | c::s,acc=>by
  unfold jQ
  by_cases hc:c=32
  ·subst hc
   rw[if_pos rfl,Lib.count_cons_eq,Nat.add_comm,xV,qR s [],pre_nil]
   simp[pre]
  ·rw[if_neg hc,Lib.count_cons_ne c 32 s hc,xU c hc,qR s (acc++[c])]
   cases Lib.splitK [32] 0 (Lib.count s [32]) s with
   |nil=>rfl
   |cons x xs=>simp[pre]
theorem nM (s:ByteArray):(bU s).map (·.data.toList)=jQ [] s.data.toList:=by
 unfold bU
 rw[Lib.splitB_data,qR,pre_nil]
theorem xW : ∀(x acc:List UInt8),32∉x->jQ acc x=[acc++x]
 | [],acc,_=>by simp[jQ]
 |c::x,acc,h=>by
  simp only[List.mem_cons,not_or]at h
  unfold jQ
  rw[if_neg (Ne.symm h.1),xW x _ h.2];simp
theorem xX : ∀(x acc s:List UInt8),32∉x->jQ acc (x++32::s)=(acc++x)::jQ [] s
 | [],acc,s,_=>by simp[jQ]
 |c::x,acc,s,h=>by
  simp only[List.mem_cons,not_or]at h
  rw[List.cons_append,jQ,if_neg (Ne.symm h.1),xX x _ s h.2];simp
theorem gK (x y:List UInt8)(r:List (List UInt8)):Lib.join (x::y::r) [32]=x++32::Lib.join (y::r) [32]:=by
 rw[Lib.join_cons,Lib.join_cons];simp[Lib.joinTail]
theorem Aa : ∀(xs:List (List UInt8)),xs≠ []->(∀x∈xs,32∉x)->jQ [] (Lib.join xs [32])=xs
 | [],h,_=>absurd rfl h
 | [x],_,h=>by rw[Lib.join_one,xW x [] (h x (by simp))];simp
 |x::y::r,_,h=>by
  rw[gK,xX x [] _ (h x (by simp)),Aa (y::r) (by simp) (fun z hz=>h z (by simp[hz]))];simp
theorem Gg {k:Int}(h0:0<=k)(h1:k<=1000000000000):vk (spelt k)=some k:=by
 have e:(spelt k).data.toList=Lib.decDigits k.toNat:=by unfold spelt;simp[iI h0]
 unfold vk
 rw[e,CP _ (by omega)]
 simp only[]
 rw[Int.toNat_of_nonneg h0,if_pos ⟨h0,h1,rfl⟩]
theorem Eb {k:Int}(h0:0<=k):(32:UInt8)∉(spelt k).data.toList:=by
 have e:(spelt k).data.toList=Lib.decDigits k.toNat:=by unfold spelt;simp[iI h0]
 rw[e]
 intro h
 have:=(kS _ _ h).1
 exact absurd this (by decide)
theorem jS :Good cO:=by decide+kernel
theorem Ab {us:List Unit}(hg:Good us){u:Unit}(hu:u∈us)(k:Int):sizeOf (word k u) us 0=u.1:=by
 obtain⟨_,_,h1,h2,_⟩:=hg u hu
 unfold word;split
 ·exact h1
 ·exact h2
theorem Gh {us:List Unit}(hg:Good us){u:Unit}(hu:u∈us)(k:Int):(32:UInt8)∉(word k u).data.toList:=by
 obtain⟨_,_,_,_,h1,h2⟩:=hg u hu
 unfold word;split
 ·exact h1
 ·exact h2
theorem Gi {n c s:Int}(h0:0<=n)(h2:n+c<=1000000000000)(hs:1<=s):mP n (c/s) s=some (n+c/s*s):=by
 have e1:c/s*s<=c:=Int.ediv_mul_le c (by omega)
 have e2:c/s<=1000000000000/s:=Int.ediv_le_ediv (by omega) (by omega)
 unfold mP
 rw[if_pos ⟨by omega,e2⟩,if_pos (by omega)]
theorem qU {us:List Unit}(hg:Good us): ∀(vs:List Unit),(∀v∈vs,v∈us)-> ∀(c n:Int),0<=c->0<=n->n+c<=1000000000000->qy us (aN c vs) n=some (n+c-oG c vs)
 | [],_,c,n,_,_,_=>by unfold aN oG qy;simp
 | v::vs,hv,c,n,h0,h1,h2=>by
  have hm:=hv v (by simp)
  obtain⟨g1,g2,_⟩:=hg v hm
  have e1:c/v.1*v.1+c%v.1=c:=by rw[Int.mul_comm];exact Int.mul_ediv_add_emod c v.1
  have e2:0<=c%v.1:=Int.emod_nonneg _ (by omega)
  have e3:0<=c/v.1:=Int.ediv_nonneg h0 (by omega)
  have e4:c/v.1<=c:=Int.ediv_le_self _ h0
  have e5:0<=c/v.1*v.1:=Int.mul_nonneg e3 (by omega)
  unfold aN oG
  by_cases hk:c/v.1>0
  ·rw[if_pos hk]
   have:=qU hg vs (fun w hw=>hv w (by simp[hw])) (c%v.1) (n+c/v.1*v.1) e2 (by omega) (by omega)
   show qy us (spelt (c/v.1)::word (c/v.1) v::aN (c%v.1) vs) n=_
   rw[zH (Gg e3 (by omega)) (Ab hg hm _) (Gi h1 h2 g1),this]
   congr 1;omega
  ·rw[if_neg hk,List.nil_append]
   have hz:c/v.1=0:=by omega
   rw[hz]at e1
   rw[qU hg vs (fun w hw=>hv w (by simp[hw])) (c%v.1) n e2 h1 (by omega)]
   congr 1;omega
theorem uR (c:Int)(us:List Unit):(aN c us).length%2=0:=by
 induction us generalizing c with
 |nil=>rfl
 |cons u us ih=>
  have:=ih (c%u.1)
  simp only[aN]
  split<;>simp<;>omega
theorem sK {us:List Unit}(hg:Good us): ∀(vs:List Unit),(∀v∈vs,v∈us)-> ∀(c:Int),0<=c-> ∀x∈(aN c vs).map (·.data.toList),(32:UInt8)∉x
 | [],_,c,_,x,hx=>by simp[aN]at hx
 | v::vs,hv,c,h0,x,hx=>by
  have hm:=hv v (by simp)
  obtain⟨g1,_⟩:=hg v hm
  simp only[aN,List.map_append,List.mem_append]at hx
  rcases hx with hx|hx
  ·split at hx
   ·rename_i hk
    simp only[List.map_cons,List.map_nil,List.mem_cons,List.not_mem_nil,or_false]at hx
    rcases hx with rfl|rfl
    ·exact Eb (by omega)
    ·exact Gh hg hm _
   ·simp at hx
  ·exact sK hg vs (fun w hw=>hv w (by simp[hw])) (c%v.1) (Int.emod_nonneg _ (by omega)) x hx
theorem qV {a b:List ByteArray}(h:a.map (·.data.toList)=b.map (·.data.toList)):a=b:=by
 have hi: ∀x y:ByteArray,x.data.toList=y.data.toList->x=y:=fun x y e=>by
  cases x;cases y;simp only[ByteArray.mk.injEq];exact Array.toList_inj.1 e
 induction a generalizing b with
 |nil=>cases b with
  |nil=>rfl
  |cons y b=>simp at h
 | cons x a ih=>cases b with
  |nil=>simp at h
  |cons y b=>
   simp only[List.map_cons,List.cons.injEq]at h
   rw[hi x y h.1,ih h.2]
theorem sM {us:List Unit}(hg:Good us){c:Int}(h0:0<=c)(hne:aN c us≠ []):bU (named c us)=aN c us:=by
 apply qV
 rw[nM]
 have e:(named c us).data.toList=Lib.join ((aN c us).map (·.data.toList)) [32]:=by unfold named;rw[if_neg hne]
 rw[e]
 exact Aa _ (by simpa using hne) (sK hg us (fun v hv=>hv) c h0)
theorem Ec {us:List Unit}{wr:Int->ByteArray}(hg:Good us){c:Int}(h0:0<=c)(h1:c<=1000000000000)(hw:wr c=named c us)(hend:oG c us=0)(hz:aN c us=[]->c=0∧fG us wr (named c us)=some 0):fG us wr (named c us)=some c:=by
 by_cases hne:aN c us=[]
 ·obtain⟨hc,h⟩:=hz hne
  rw[h,hc]
 ·unfold fG
  rw[sM hg h0 hne,if_pos (uR c us),qU hg us (fun v hv=>hv) c 0 h0 (by omega) (by omega),hend]
  simp[hw]
theorem mo {c:Int}(h:0<=c): ∀ {us:List Unit},(∀u∈us,1<=u.1)->aN c us=[]->oG c us=c
 | [],_,_=>rfl
 | u::us,hp,hn=>by
  have g1:=hp u (by simp)
  have e1:c/u.1*u.1+c%u.1=c:=by rw[Int.mul_comm];exact Int.mul_ediv_add_emod c u.1
  have e3:0<=c/u.1:=Int.ediv_nonneg h (by omega)
  unfold aN at hn
  unfold oG
  by_cases hk:c/u.1>0
  ·rw[if_pos hk]at hn;simp at hn
  ·have hz:c/u.1=0:=by omega
   rw[hz]at e1
   have e:c%u.1=c:=by omega
   rw[if_neg hk,List.nil_append,e]at hn
   rw[e]
   exact mo h (fun v hv=>hp v (by simp[hv])) hn
theorem m_ (c:Int):oG c cO=0:=by unfold cO;simp only[oG];omega
theorem lI {n:Int}(h0:0<=n)(h1:n<=1000000):aY n=named n cO:=by unfold aY;rw[if_pos ⟨h0,h1⟩]
theorem Gj {n:Int}(h0:0<=n)(h1:n<=1000000):fG cO aY (aY n)=some n:=by
 rw[lI h0 h1]
 refine Ec jS h0 (by omega) (lI h0 h1) (m_ n) fun hn=> ?_
 have:=mo h0 (us:=cO) (fun u hu=>(jS u hu).1) hn
 rw[m_]at this
 obtain rfl:n=0:=this.symm
 exact⟨rfl,by decide+kernel⟩
theorem uS (l:List UInt8): ∀(f k:Nat),(∃r:Nat,kX l f k=some (r:Int)∧gu (r:Int)=l∧k<=r∧r<k+f)∨(kX l f k=none∧ ∀j:Nat,k<=j->j<k+f->gu (j:Int)≠l)
 |0,k=> .inr ⟨rfl,fun j h1 h2=>by omega⟩
 | f+1,k=>by
  unfold kX
  by_cases h:gu (k:Int)=l
  ·rw[if_pos h];exact .inl ⟨k,rfl,h,by omega,by omega⟩
  ·rw[if_neg h]
   rcases uS l f (k+1)with ⟨r,h1,h2,h3,h4⟩|⟨h1,h2⟩
   ·exact .inl ⟨r,h1,h2,by omega,by omega⟩
   ·refine .inr ⟨h1,fun j j1 j2=> ?_⟩
    by_cases hj:j=k
    ·subst hj;exact h
    ·exact h2 j (by omega) (by omega)
theorem Ed {s:ByteArray}{v:Int}:bV s=some v↔0<=v∧v<=999999999∧spelt v=s:=by
 unfold bV
 constructor
 ·intro h
  cases e:fK s with
  |none=>rw[e]at h;cases h
  |some u=>
   rw[e]at h
   simp only[Option.bind_some]at h
   split at h
   ·cases h;have:=kY.1 e;exact⟨‹_›,this.2.1,this.2.2⟩
   ·cases h
 ·rintro⟨h0,h1,h2⟩
  rw[(kY (s:=s) (v:=v)).2 ⟨by omega,h1,h2⟩]
  simp[h0]
end Go.Proofs.Pl
namespace Go.Proofs
open Tryz
namespace Pl
theorem IL (sep:UInt8)(b:List UInt8): ∀a:List UInt8,sep∉a->cutAt sep (a++sep::b)=a::cutAt sep b
 | [],_=>by simp[cutAt]
 | x::a,h=>by
  have hx:x≠sep:=fun e=>h (by simp[e])
  have ih:=IL sep b a (fun hm=>h (by simp[hm]))
  have e:cutAt sep (x::(a++sep::b))=(x::a)::cutAt sep b:=by
   rw[cutAt,if_neg hx,ih]
  exact e
theorem Af (sep:UInt8): ∀a:List UInt8,sep∉a->cutAt sep a=[a]
 | [],_=>rfl
 |x::a,h=>by
  have hx:x≠sep:=fun e=>h (by simp[e])
  have ih:=Af sep a (fun hm=>h (by simp[hm]))
  unfold cutAt
  rw[if_neg hx,ih]
theorem join_one (x:List UInt8):Lib.join [x] [32]=x:=by simp[Lib.join_cons,Lib.joinTail]
theorem Eo : ∀ws:List (List UInt8),ws≠ []->(∀w∈ws,(32:UInt8)∉w)->cutAt 32 (Lib.join ws [32])=ws
 | [],h,_=>absurd rfl h
 | [x],_,h=>by rw[join_one,Af 32 x (h x (by simp))]
 |x::y::r,_,h=>by
  rw[gK,IL 32 _ x (h x (by simp)),Eo (y::r) (by simp) (fun w hw=>h w (by simp only[List.mem_cons]at hw ⊢;exact .inr hw))]
theorem MC (l:List UInt8):Lib.join (cutAt 32 l) [32]=l:=by
 induction l with
 |nil=>rfl
 | cons b l ih=>
  unfold cutAt
  split
  ·rename_i h;subst h
   cases e:cutAt 32 l with
   |nil=>exact absurd e (iH _ _)
   |cons w ws=>rw[gK,<-e,ih];rfl
  ·cases e:cutAt 32 l with
   |nil=>exact absurd e (iH _ _)
   |cons w ws=>
    rw[e]at ih
    simp only
    cases ws with
    |nil=>rw[join_one]at ih ⊢;rw[ih]
    |cons y r=>rw[gK]at ih ⊢;rw[<-ih];rfl
def gI (l:List UInt8):Bool:= !l.isEmpty&&(l.all fun b=>b !=32&&(b !=35&&b !=10))
theorem nO {l:List UInt8}:gI l=true↔l≠ []∧(32:UInt8)∉l∧(35:UInt8)∉l∧(10:UInt8)∉l:=by
 unfold gI
 rw[Bool.and_eq_true,List.all_eq_true]
 constructor
 ·rintro⟨h1,h2⟩
  refine⟨by simpa using h1,fun h=> ?_,fun h=> ?_,fun h=> ?_⟩<;>exact absurd (h2 _ h) (by decide)
 ·rintro⟨h1,h2,h3,h4⟩
  refine⟨by simpa using h1,fun b hb=> ?_⟩
  have a1:b≠32:=fun e=>h2 (e▸hb)
  have a2:b≠35:=fun e=>h3 (e▸hb)
  have a3:b≠10:=fun e=>h4 (e▸hb)
  simp[a1,a2,a3]
theorem Ep {c:UInt8}: ∀ {ws:List (List UInt8)},c∈Lib.join ws [32]->c=32∨ ∃w∈ws,c∈w
 | [],h=>by simp[Lib.join_nil]at h
 | [x],h=>by rw[join_one]at h;exact .inr ⟨x,by simp,h⟩
 | x::y::r,h=>by
  rw[gK,List.mem_append,List.mem_cons]at h
  rcases h with h|h|h
  ·exact .inr ⟨x,by simp,h⟩
  ·exact .inl h
  ·rcases Ep h with e|⟨w,hw,h⟩
   ·exact .inl e
   ·exact .inr ⟨w,List.mem_cons_of_mem _ hw,h⟩
theorem JW {l:List UInt8}(h:(35:UInt8)∉l):ahead l=l:=by
 unfold ahead
 induction l with
 |nil=>rfl
 |cons b l ih=>
  have hb:b≠35:=fun e=>h (by simp[e])
  rw[List.takeWhile_cons,if_pos (by simpa using hb),ih (fun hm=>h (by simp[hm]))]
theorem JX {ws:List (List UInt8)}(h: ∀w∈ws,w≠ []):solid ws=ws:=by
 unfold solid
 rw[List.filter_eq_self]
 intro w hw
 simpa using h w hw
theorem ME (s:ByteArray):q9 s.data.toList=s:=by cases s;rfl
theorem nP {ws:List ByteArray}(hne:ws≠ [])(h: ∀w∈ws,gI w.data.toList=true):aW (eZ ws)=ws:=by
 have h': ∀l∈ws.map (·.data.toList),gI l=true:=by
  intro l hl
  obtain⟨w,hw,rfl⟩:=List.mem_map.1 hl
  exact h w hw
 unfold aW kM eZ q9
 simp only
 rw[JW,Eo _ (by simpa using hne) (fun w hw=>(nO.1 (h' w hw)).2.1),JX (fun w hw=>(nO.1 (h' w hw)).1),List.map_map]
 ·conv=>rhs;rw[<-List.map_id ws]
  apply List.map_congr_left
  intro w _
  exact ME w
 ·intro hm
  rcases Ep hm with e|⟨w,hw,hc⟩
  ·exact absurd e (by decide)
  ·exact(nO.1 (h' w hw)).2.2.1 hc
theorem Er : ∀ {xs ys:List (List UInt8)},xs≠ []->ys≠ []->Lib.join (xs++ys) [32]=Lib.join xs [32]++32::Lib.join ys [32]
 | [],_,h,_=>absurd rfl h
 | [x],y::r,_,_=>by rw[List.singleton_append,gK,join_one]
 | [x],[],_,h=>absurd rfl h
 |x::y::r,ys,_,h=>by
  have ih:=Er (xs:=y::r) (ys:=ys) (by simp) h
  rw[List.cons_append,List.cons_append,gK,gK,<-List.cons_append,ih]
  simp
theorem Ag (u:Nat): ∀c∈Lib.decDigits u,c≠32∧c≠35∧c≠10:=by
 intro c hc
 have:=kS u c hc
 refine⟨fun e=> ?_,fun e=> ?_,fun e=> ?_⟩<;>(subst e;exact absurd this.1 (by decide))
theorem MF (k:Int):gI (spelt k).data.toList=true:=by
 rw[eT]
 unfold gI
 rw[Bool.and_eq_true,List.all_eq_true]
 unfold Lib.itoa
 split
 ·refine⟨rfl,fun c hc=> ?_⟩
  rcases List.mem_cons.1 hc with e|hc
  ·subst e;rfl
  ·have:=Ag _ c hc
   simp[this.1,this.2.1,this.2.2]
 ·refine⟨by have:=oH k.toNat;simpa using this,fun c hc=> ?_⟩
  have:=Ag _ c hc
  simp[this.1,this.2.1,this.2.2]
def mD (d:Int):ByteArray:=⟨(gu d).toArray⟩
def sQ (d:Int):List ByteArray:=(cutAt 32 (gu d)).map q9
theorem Gt : ∀d:Fin 360,((cutAt 32 (gu (d.1:Int))).all gI&&decide ((cutAt 32 (gu (d.1:Int))).length<=3)&& !((cutAt 32 (gu (d.1:Int))).contains [103,105,118,101]))=true:=by decide+kernel
theorem MG {d:Int}(h0:0<=d)(h1:d<=359):(∀w∈sQ d,gI w.data.toList=true)∧(sQ d).length<=3∧eD∉sQ d∧sQ d≠ []∧eZ (sQ d)=mD d:=by
 have h:=Gt ⟨d.toNat,by omega⟩
 simp only[Int.toNat_of_nonneg h0,Bool.and_eq_true,List.all_eq_true,decide_eq_true_eq,Bool.not_eq_true',List.contains_eq_mem,decide_eq_false_iff_not]at h
 obtain⟨⟨h1,h2⟩,h3⟩:=h
 have hm:(sQ d).map (·.data.toList)=cutAt 32 (gu d):=by
  unfold sQ
  rw[List.map_map]
  conv=>rhs;rw[<-List.map_id (cutAt 32 (gu d))]
  apply List.map_congr_left
  intro l _
  simp[q9]
 refine⟨fun w hw=> ?_,by unfold sQ;rw[List.length_map];exact h2,fun hw=> ?_,?_,?_⟩
 ·exact h1 _ (by rw[<-hm];exact List.mem_map_of_mem hw)
 ·refine h3 ?_
  rw[<-hm]
  exact List.mem_map.2 ⟨_,hw,rfl⟩
 ·intro e
  unfold sQ at e
  exact iH _ _ (List.map_eq_nil_iff.1 e)
 ·unfold eZ
  rw[hm,MC]
  rfl
theorem Gu : ∀u∈cO,gI u.2.1.data.toList=true∧gI u.2.2.data.toList=true∧u.2.1≠rM∧u.2.2≠rM:=by decide+kernel
theorem MH (k:Int):spelt k≠rM:=by
 intro e
 have h:Lib.itoa k=[98,121]:=by rw[<-eT,e];rfl
 unfold Lib.itoa at h
 split at h
 ·cases h
 ·have:=kS k.toNat 98 (by rw[h];simp)
  exact absurd this.2 (by decide)
theorem sS : ∀(us:List Unit),(∀u∈us,gI u.2.1.data.toList=true∧gI u.2.2.data.toList=true∧u.2.1≠rM∧u.2.2≠rM)-> ∀c,∀w∈aN c us,gI w.data.toList=true∧w≠rM
 | [],_,c,w,hw=>by simp[aN]at hw
 | u ::us,h,c,w,hw=>by
  simp only[aN,List.mem_append]at hw
  rcases hw with hw|hw
  ·split at hw
   ·simp only[List.mem_cons,List.not_mem_nil,or_false]at hw
    obtain⟨a,b,c',d⟩:=h u (by simp)
    rcases hw with rfl|rfl
    ·exact⟨MF _,MH _⟩
    ·unfold word;split
     ·exact⟨a,c'⟩
     ·exact⟨b,d⟩
   ·simp at hw
  ·exact sS us (fun v hv=>h v (by simp[hv])) _ w hw
theorem yx {n:Int}(h0:1<=n)(h1:n<=100000):(∀w∈aN n cO,gI w.data.toList=true∧w≠rM)∧(aN n cO).length<=6∧aN n cO≠ []∧eZ (aN n cO)=aY n:=by
 have hne:aN n cO≠ []:=by
  intro hn
  have:=mo (by omega) (us:=cO) (fun u hu=>(jS u hu).1) hn
  rw[m_]at this
  omega
 refine⟨sS cO Gu n,qM n cO,hne,?_⟩
 rw[lI (by omega) (by omega)]
 unfold named
 rw[if_neg hne]
 rfl
end Pl
end Go.Proofs
namespace Go.Proofs
open Tryz
namespace Pl
theorem yB {S L:Nat}{c:aZ}(h:c.tab S L):c.kind=1∨c.kind=2∨c.kind=3∨c.kind=4∨c.kind=5:=by
 obtain⟨_,_,h⟩:=h
 rcases h with h|h|h|h|h<;>omega
theorem Pw {α:Type}{p:α->Bool}{l r:List α}{x:α}(h: ∀y∈l,p y=false)(hx:p x=true):idx p (l++x::r)=some l.length:=by
 refine iN (k:=l.length) (by simp) (fun j hj=> ?_) (by simpa using hx)
 rw[List.getElem_append_left hj]
 exact h _ (List.getElem_mem hj)
theorem MI {k:ByteArray}{most:Nat}{l r:List ByteArray}(h:k∉l)(h1:l≠ [])(h2:l.length<=most):upTo k most (l++k::r)=some (eZ l,r):=by
 unfold upTo
 have hp:=List.length_pos_iff.2 h1
 rw[Pw (fun y hy=>by have:y≠k:=fun e=>h (e▸hy);simpa using this) (by simp)]
 simp only[Option.bind_some]
 rw[if_pos ⟨by omega,h2⟩,List.take_left,List.drop_append,List.drop_of_length_le (by omega)]
 simp[show l.length+1-l.length=1 by omega]
theorem MJ :bA≠bq∧aV≠bq∧aV≠bA∧bC≠bq∧bC≠bA∧bC≠aV∧bg≠bq∧bg≠bA∧bg≠aV∧bg≠bC:=by decide+kernel
end Pl
open Tryz
namespace Pl
noncomputable def Q7 (f:aL)(year:Int):List aZ->Int
 | []=>0
 |c::l=>if fP f c≠0 then fP f c else if c.kind=3∧c.aB.y≠year then 1 else Q7 f year l
def aAP (y r:Int):Bool:=bQ y 1 3000&&bQ r 0 1000
noncomputable def aAl (f:aL)(d:j6):Int:=
 if 20<d.calls.length then 2 else if isName d.name=false then 4 else if aAP d.year d.rank=false then 1 else Q7 f d.year d.calls
noncomputable def Q8 (f:aL)(done:List ByteArray):List j6->Int
 | []=>0
 |d::l=>if aAl f d≠0 then aAl f d else if done.any (fun x=>decide (x=d.name))=true then 6 else Q8 f (done++[d.name]) l
noncomputable def aAd (f:aL)(l:List j6):Int:=if aR f=0 then (if 60<l.length then 2 else Q8 f [] l)else aR f
structure aBu (f:aL)(d:j6):Prop where
 few:d.calls.length<=20
 name:isName d.name=true
 year:1<=d.year∧d.year<=3000
 rank:0<=d.rank∧d.rank<=1000
 calls: ∀c∈d.calls,fP f c=0∧(c.kind=3->c.aB.y=d.year)
end Pl
open Tryz
namespace Pl
theorem take_zero {α β:Type}(g:α->List β)(l:List α):(l.take 0).flatMap g=[]:=by simp
end Pl
open Tryz
namespace Pl
def iU (out:List UInt8)(c:Int):List Unit->List UInt8
 | []=>out
 |u::us=>iU (if c/u.1=0 then out else (if out=[]then []else out++[32])++(spelt (c/u.1)).data.toList++[32]++(word (c/u.1) u).data.toList) (c%u.1) us
theorem JZ (x y:List UInt8)(r:List (List UInt8)):Lib.join (x::y::r) [32]=x++[32]++y++(if r=[]then []else 32::Lib.join r [32]):=by
 cases r with
 |nil=>rw[gK,Lib.join_one];simp
 |cons z r=>rw[gK,gK];simp
theorem MK (k:Int):(spelt k).data.toList≠ []:=by
 unfold spelt Lib.itoa
 split
 ·simp
 ·simpa using oH _
theorem Ah : ∀(us:List Unit) (out:List UInt8) (c:Int),0<=c->(∀u∈us,1<=u.1)->
  iU out c us=if aN c us=[]then out else (if out=[]then []else out++[32])++Lib.join ((aN c us).map (·.data.toList)) [32]
 | [],out,c,_,_=>by simp[iU,aN]
 | u::us,out,c,h0,hp=>by
  have g1:=hp u (by simp)
  have e2:0<=c%u.1:=Int.emod_nonneg _ (by omega)
  have e3:0<=c/u.1:=Int.ediv_nonneg h0 (by omega)
  unfold iU
  rw[Ah us _ _ e2 (fun v hv=>hp v (by simp[hv]))]
  by_cases hk:c/u.1=0
  ·rw[if_pos hk]
   have:aN c (u::us)=aN (c%u.1) us:=by simp[aN,hk]
   rw[this]
  ·rw[if_neg hk]
   have hn:aN c (u::us)=spelt (c/u.1)::word (c/u.1) u::aN (c%u.1) us:=by
    simp only[aN];rw[if_pos (by omega)];rfl
   rw[hn]
   have hne:(if out=[]then []else out++[32])++(spelt (c/u.1)).data.toList++[32]++(word (c/u.1) u).data.toList≠ []:=by simp
   rw[if_neg (List.cons_ne_nil _ _)]
   simp only[List.map_cons]
   rw[JZ]
   by_cases hr:aN (c%u.1) us=[]
   ·simp[hr]
   ·simp[hr]
theorem Px {x:List UInt8}{r:List (List UInt8)}(h:x≠ []):Lib.join (x::r) [32]≠ []:=by
 rw[Lib.join_cons];simp[h]
def yE (c:Int)(us:List Unit):List UInt8:=if iU [] c us=[]then [48,32,108,105,110,107,115]else iU [] c us
theorem ML {us:List Unit} {c:Int} (h0:0<=c) (hp: ∀u∈us,1<=u.1) (hl:us.getLast?.map (·.2.2)=some ⟨#[108,105,110,107,115]⟩):(⟨(yE c us).toArray⟩:ByteArray)=named c us:=by
 unfold yE named
 rw[Ah us [] c h0 hp]
 by_cases hn:aN c us=[]
 ·rw[if_pos hn,if_pos rfl,if_pos hn,hl];rfl
 ·rw [if_neg hn,if_neg hn]
  have:(if ([]:List UInt8)=[]then []else []++[32])++Lib.join ((aN c us).map (·.data.toList)) [32]=Lib.join ((aN c us).map (·.data.toList)) [32]:=by simp
  rw[this,if_neg ?_]
  cases us with
  |nil=>simp[aN]at hn
  | cons u us=>
   cases hL:aN c (u::us)with
   |nil=>exact absurd hL hn
   | cons x r=>
    have hx:x.data.toList≠ []:=by
     have hmem: ∀(vs:List Unit) (d:Int) (y:ByteArray) (q:List ByteArray),aN d vs=y::q->y.data.toList≠ []:=by
      intro vs
      induction vs with
      |nil=>intro d y q h;simp[aN]at h
      | cons v vs ih=>
       intro d y q h
       unfold aN at h
       split at h
       ·simp only[List.cons_append,List.cons.injEq]at h
        rw[<-h.1];exact MK _
       ·rw[List.nil_append]at h;exact ih _ _ _ h
     exact hmem _ _ _ _ hL
    exact Px hx
end Pl
open Tryz
namespace Pl
theorem Es {us:List Unit}{wr:Int->ByteArray}{s:ByteArray}{n:Int}(h:fG us wr s=some n):wr n=s:=by
 unfold fG at h
 split at h
 ·cases ha:qy us (bU s) 0 with
  |none=>rw[ha]at h;cases h
  |some m=>
   rw[ha]at h
   simp only[Option.bind_some]at h
   split at h
   ·cases h;assumption
   ·cases h
 ·cases h
def nQ (s:ByteArray):Option Int:=if s.size<1∨12<s.size then none else dI 0 s.data.toList
def pF (us:List Unit):List ByteArray->Int->Option Int
 |a::b::r,n=>(nQ a).bind fun k=>if sizeOf b us 0=0∨1000000000000/sizeOf b us 0<k then none else pF us r (n+k*sizeOf b us 0)
 |_,n=>some n
def jg (us:List Unit)(s:ByteArray):Option Int:=if (bU s).length%2≠0∨8<(bU s).length then none else pF us (bU s) 0
def BU (o:Option Int)(wr:Int->ByteArray)(s:ByteArray):Int:=match o with|some n=>if wr n=s then n else 0|none=>0
def BX (o:Option Int)(wr:Int->ByteArray)(s:ByteArray):Int:=match o with|some n=>if wr n=s then 0 else 4|none=>4
theorem sW : ∀(l r:List UInt8) (n u:Int),dI n l=some u->dI n (l++r)=dI u r
 | [],r,n,u,h=>by simp only[dI]at h;cases h;rfl
 |c::l,r,n,u,h=>by
  rw[List.cons_append]
  rw[dI]at h
  rw[dI]
  split at h
  ·cases h
  ·rename_i h1;rw[if_neg h1];exact sW l r _ u h
theorem qp (u:Nat):dI 0 (Lib.decDigits u)=some (u:Int):=by
 induction u using Nat.strongRecOn with
 | _ u ih=>
  unfold Lib.decDigits
  split
  ·rename_i h
   have e:(UInt8.ofNat (48+u)).toNat=48+u:=by rw[UInt8.toNat_ofNat'];omega
   simp only[dI]
   rw[e,if_neg (by omega)]
   congr 1;omega
  ·rename_i h
   have e:(UInt8.ofNat (48+u%10)).toNat=48+u%10:=by rw[UInt8.toNat_ofNat'];omega
   rw[sW _ _ 0 _ (ih (u/10) (by omega))]
   simp only[dI]
   rw[e,if_neg (by omega)]
   congr 1;omega
theorem MN : ∀(j u:Nat),u<10^(j+1)->Lib.nDigits u<=j+1
 |0,u,h=>by rw[Lib.nDigits_small (by simpa using h)];omega
 | j+1,u,h=>by
  by_cases hs:u<10
  ·rw[Lib.nDigits_small hs];omega
  ·rw[Lib.nDigits_big hs]
   have:=MN j (u/10) (by rw[Nat.pow_succ]at h;omega)
   omega
theorem Gw {k:Int}(h0:0<=k)(h1:k<1000000000000):nQ (spelt k)=some k:=by
 have e:(spelt k).data.toList=Lib.decDigits k.toNat:=by unfold spelt;simp[iI h0]
 have es:(spelt k).size=Lib.nDigits k.toNat:=by rw[<-Lib.decDigits_length,<-e,Array.length_toList];rfl
 have a:=Lib.nDigits_pos k.toNat
 have b:=MN 11 k.toNat (by omega)
 unfold nQ
 rw[if_neg (by omega),e,qp,Int.toNat_of_nonneg h0]
theorem uV {us:List Unit}(hg:Good us): ∀(vs:List Unit),(∀v∈vs,v∈us)-> ∀(c n:Int),0<=c->c<=1000000000000->(c<1000000000000∨ ∃v r,vs=v::r∧2<=v.1)->pF us (aN c vs) n=some (n+c-oG c vs)
 | [],_,c,n,_,_,_=>by
  show some n=some (n+c-c)
  congr 1;omega
 | v::vs,hv,c,n,h0,h1,h2=>by
  have hm:=hv v (by simp)
  obtain⟨g1,g2,_⟩:=hg v hm
  have e1:c/v.1*v.1+c%v.1=c:=by rw[Int.mul_comm];exact Int.mul_ediv_add_emod c v.1
  have e2:0<=c%v.1:=Int.emod_nonneg _ (by omega)
  have e2':c%v.1<v.1:=Int.emod_lt_of_pos _ (by omega)
  have e3:0<=c/v.1:=Int.ediv_nonneg h0 (by omega)
  have e4:c/v.1<=c:=Int.ediv_le_self _ h0
  have hlt:c/v.1<1000000000000:=by
   rcases h2 with h2|⟨v',r,he,h2⟩
   ·omega
   ·cases he
    have:c/v.1*2<=c/v.1*v.1:=Int.mul_le_mul_of_nonneg_left h2 e3
    omega
  have ih:=uV hg vs (fun w hw=>hv w (by simp[hw])) (c%v.1)
  unfold aN oG
  by_cases hk:c/v.1>0
  ·rw[if_pos hk]
   show pF us (spelt (c/v.1)::word (c/v.1) v::aN (c%v.1) vs) n=_
   rw[pF,Gw e3 hlt,Option.bind_some,Ab hg hm,if_neg (by have:=Int.ediv_le_ediv (c:=v.1) (by omega) h1;omega),ih _ e2 (by omega) (.inl (by omega))]
   congr 1;omega
  ·rw[if_neg hk,List.nil_append]
   have hz:c/v.1=0:=by omega
   rw[hz]at e1
   rw[ih _ e2 (by omega) (.inl (by omega))]
   congr 1;omega
theorem Gx {us:List Unit}(hg:Good us)(hlen:us.length<=4){c:Int}(h0:0<=c)(h1:c<=1000000000000)(h2: ∃v r,us=v::r∧2<=v.1)(hend:oG c us=0)(hz:aN c us=[]->c=0∧jg us (named c us)=some 0):jg us (named c us)=some c:=by
 by_cases hne:aN c us=[]
 ·obtain⟨hc,h⟩:=hz hne
  rw[h,hc]
 ·have a:=uR c us
  have b:=qM c us
  unfold jg
  rw[sM hg h0 hne,if_neg (by omega),uV hg us (fun v hv=>hv) c 0 h0 h1 (.inr h2),hend]
  simp
theorem J3 {n:Int}(h0:0<=n)(h1:n<=1000000):jg cO (aY n)=some n:=by
 rw[lI h0 h1]
 refine Gx jS (by decide) h0 (by omega) ⟨_,_,rfl,by decide⟩ (m_ n) fun hn=> ?_
 have:=mo h0 (us:=cO) (fun u hu=>(jS u hu).1) hn
 rw[m_]at this
 obtain rfl:n=0:=this.symm
 exact⟨rfl,by decide+kernel⟩
theorem uW :(bU ⟨#[]⟩).length=1:=by decide+kernel
theorem Et (us:List Unit)(wr:Int->ByteArray):fG us wr ⟨#[]⟩=none:=by unfold fG;rw[uW];rfl
theorem Gy (us:List Unit):jg us ⟨#[]⟩=none:=by unfold jg;rw[uW];rfl
theorem J4 {us:List Unit}{wr:Int->ByteArray}{M:Int}(hout: ∀n,¬(0<=n∧n<=M)->wr n=⟨#[]⟩)(ha: ∀n,0<=n->n<=M->fG us wr (wr n)=some n)(hb: ∀n,0<=n->n<=M->jg us (wr n)=some n)(s:ByteArray):
  BU (jg us s) wr s=(fG us wr s).getD 0∧BX (jg us s) wr s=if (fG us wr s).isSome then 0 else 4:=by
 cases hr:fG us wr s with
 | some n=>
  have hw:=Es hr
  have hin:0<=n∧n<=M:=by
   by_cases h:0<=n∧n<=M
   ·exact h
   ·rw[hout n h]at hw
    rw[<-hw,Et]at hr
    cases hr
  have:=hb n hin.1 hin.2
  rw[hw]at this
  rw[this]
  unfold BU BX
  simp[hw]
 | none=>
  cases hc:jg us s with
  |none=>exact⟨rfl,rfl⟩
  | some n=>
   have hne:wr n≠s:=by
    intro hw
    by_cases h:0<=n∧n<=M
    ·have:=ha n h.1 h.2
     rw[hw,hr]at this
     cases this
    ·rw[hout n h]at hw
     rw[<-hw,Gy]at hc
     cases hc
   unfold BU BX
   simp[hne]
theorem yF (s:ByteArray):BU (jg cO s) aY s=(fG cO aY s).getD 0∧BX (jg cO s) aY s=if (fG cO aY s).isSome then 0 else 4:=
 J4 (M:=1000000) (fun n h=>by unfold aY;rw[if_neg h]) (fun _=>Gj) (fun _=>J3) s
theorem J5 {s:ByteArray}{d:Int}(h:fQ s=some d):gu d=s.data.toList∧0<=d∧d<360:=by
 unfold fQ at h
 rcases uS s.data.toList 360 0 with ⟨r,k1,k2,k3,k4⟩|⟨k1,k2⟩
 ·rw[k1]at h;cases h;exact⟨k2,by omega,by omega⟩
 ·rw[k1]at h;cases h
theorem Gz {a b:ByteArray}(h:a.data.toList=b.data.toList):a=b:=by
 cases a;cases b;simp only at h;have:=Array.toList_inj.1 h;subst this;rfl
theorem yG : ∀(l:List UInt8) (c:UInt8) (n:Int),dI n (l++[c])=(dI n l).bind fun u=>if c.toNat<48∨57<c.toNat then none else some (10*u+c.toNat-48)
 | [],c,n=>by simp[dI]
 |b::l,c,n=>by
  rw[List.cons_append]
  rw[dI,dI]
  split
  ·rfl
  ·exact yG l c _
theorem uz : ∀(l:List UInt8) (n v:Int),0<=n->dI n l=some v->0<=v
 | [],n,v,h0,h=>by simp only[dI]at h;cases h;exact h0
 |c::l,n,v,h0,h=>by
  rw[dI]at h
  split at h
  ·cases h
  ·exact uz l _ v (by omega) h
theorem Eu : ∀(l:List UInt8) (n v:Int),0<=n->dI n l=some v->n<=v
 | [],n,v,h0,h=>by simp only[dI]at h;cases h;exact Int.le_refl _
 |c::l,n,v,h0,h=>by
  rw[dI]at h
  split at h
  ·cases h
  ·have:=Eu l _ v (by omega) h;omega
theorem yH: ∀(k:Nat) (l:List UInt8) (v:Int),l.length=k->l≠ []->(l.head?=some 48->l.length=1)->dI 0 l=some v->Lib.decDigits v.toNat=l
 | k, l,v,hk,hne,hz,h=>by
  obtain⟨l',c,rfl⟩: ∃l' c,l=l'++[c]:=⟨l.dropLast,l.getLast hne,(List.dropLast_concat_getLast hne).symm⟩
  rw[yG]at h
  cases e:dI 0 l' with
  |none=>rw[e]at h;cases h
  | some u=>
   rw[e]at h
   simp only[Option.bind_some]at h
   split at h
   ·cases h
   ·rename_i hc
    cases h
    have hu:=uz _ _ _ (by omega) e
    have ec:UInt8.ofNat (48+(c.toNat-48))=c:=by
     apply UInt8.toNat_inj.1
     rw[UInt8.toNat_ofNat']
     have:=c.toNat_lt
     omega
    by_cases hn:l'=[]
    ·subst hn
     simp only[dI]at e
     cases e
     unfold Lib.decDigits
     rw[dif_pos (by omega)]
     rw[show(10*0+(c.toNat:Int)-48).toNat=c.toNat-48 by omega,ec]
     rfl
    ·have hz':l'.head?=some 48->l'.length=1:=by
      intro h5
      have:=hz (by rw[List.head?_append,h5];rfl)
      rw[List.length_append,List.length_singleton]at this
      have:=List.length_pos_iff.2 hn
      omega
     have h0:l'.head?≠some 48:=by
      intro h5
      have:=hz (by rw[List.head?_append,h5];rfl)
      rw[List.length_append,List.length_singleton]at this
      have:=List.length_pos_iff.2 hn
      omega
     have hup:1<=u:=by
      cases hl:l' with
      |nil=>exact absurd hl hn
      | cons b r=>
       rw[hl]at e h0
       rw[dI]at e
       split at e
       ·cases e
       ·rename_i hb
        have:=Eu r _ u (by omega) e
        have:b.toNat≠48:=fun h=>h0 (by rw[List.head?_cons];congr 1;apply UInt8.toNat_inj.1;rw[h];rfl)
        omega
     have ih:=yH (k-1) l' u (by rw[List.length_append,List.length_singleton]at hk;omega) hn hz' e
     rw[show(10*u+(c.toNat:Int)-48).toNat=10*u.toNat+(c.toNat-48) by omega]
     unfold Lib.decDigits
     rw[dif_neg (by omega),show(10*u.toNat+(c.toNat-48))/10=u.toNat by omega,show(10*u.toNat+(c.toNat-48))%10=c.toNat-48 by omega,ih,ec]
termination_by k=>k
decreasing_by rw[List.length_append,List.length_singleton]at hk;omega
theorem Ev (u:Nat):(Lib.decDigits u).head?=some 48->(Lib.decDigits u).length=1:=by
 induction u using Nat.strongRecOn with
 | _ u ih=>
  intro h
  unfold Lib.decDigits at h ⊢
  split at h
  ·rename_i hs;rw[dif_pos hs];rfl
  ·rename_i hs
   rw[List.head?_append]at h
   cases e:(Lib.decDigits (u/10)).head? with
   |none=>exact absurd (List.head?_eq_none_iff.1 e) (oH _)
   | some b=>
    rw[e]at h
    simp only[Option.some_or]at h
    cases h
    have hl:=ih (u/10) (by omega) e
    have hv:=qp (u/10)
    cases hd:Lib.decDigits (u/10)with
    |nil=>exact absurd hd (oH _)
    |cons x r=>
     rw[hd]at hl e hv
     rw[List.length_cons]at hl
     obtain rfl:r=[]:=List.length_eq_zero_iff.1 (by omega)
     rw[List.head?_cons]at e
     cases e
     simp only[dI]at hv
     rw[if_neg (by decide)]at hv
     simp at hv
     omega
theorem uX {u:Nat}:(Lib.decDigits u).length<=9↔u<=999999999:=by
 rw[Lib.decDigits_length]
 constructor
 ·intro h
  have:=Lib.lt_pow_nDigits u
  have:(10:Nat)^Lib.nDigits u<=10^9:=Nat.pow_le_pow_right (by decide) h
  omega
 ·intro h
  exact MN 8 u (by omega)
theorem Ew (u:Nat):1<=(Lib.decDigits u).length:=by rw[Lib.decDigits_length];exact Lib.nDigits_pos u
theorem sZ {l:List UInt8}{v:Int}:yZ l=some v↔0<=v∧v<=999999999∧Lib.decDigits v.toNat=l:=by
 unfold yZ
 constructor
 ·intro h
  split at h
  ·cases h
  ·rename_i hc
   have hv:=uz _ _ _ (by omega) h
   have hb:=yH l.length l v rfl (fun h=>hc (.inl (by rw[h];decide))) (fun h5=>by
    have: ¬1<l.length:=fun h6=>hc (.inr (.inr ⟨h5,h6⟩))
    have: ¬l.length<1:=fun h6=>hc (.inl h6)
    omega) h
   refine⟨hv,?_,hb⟩
   have:v.toNat<=999999999:=uX.1 (by rw[hb];have: ¬9<l.length:=fun h6=>hc (.inr (.inl h6));omega)
   omega
 ·rintro⟨h0,h1,rfl⟩
  rw[if_neg,qp,Int.toNat_of_nonneg h0]
  rintro(h|h|⟨h,h'⟩)
  ·have:=Ew v.toNat;omega
  ·have:=(uX (u:=v.toNat)).2 (by omega);omega
  ·have:=Ev _ h;omega
theorem BZ {α:Type}{a b:Option α}(h: ∀x,a=some x↔b=some x):a=b:=by
 cases a with
 |none=>cases b with
  |none=>rfl
  |some y=>exact absurd ((h y).2 rfl) (by simp)
 |some x=>exact((h x).1 rfl).symm
theorem IQ (s:ByteArray):bN s=bV s:=by
 apply BZ
 intro v
 rw[Ed]
 unfold bN
 rw[sZ]
 constructor
 ·rintro⟨h0,h1,h2⟩;exact⟨h0,h1,Gz (by rw[eT,iI h0,h2])⟩
 ·rintro⟨h0,h1,rfl⟩;exact⟨h0,h1,by rw[eT,iI h0]⟩
theorem MO (u:Nat):(Lib.decDigits u).head?≠some 45:=by
 intro h
 cases e:Lib.decDigits u with
 |nil=>exact oH u e
 |cons b r=>
  have:=kS u b (by rw[e];simp)
  rw[e,List.head?_cons]at h
  cases h
  exact absurd this.1 (by decide)
theorem Py (s:ByteArray):gL s=fK s:=by
 apply BZ
 intro v
 rw[kY]
 have hs:spelt v=s↔Lib.itoa v=s.data.toList:=⟨fun h=>by rw[<-h,eT],fun h=>Gz (by rw[eT,h])⟩
 rw[hs]
 unfold gL
 generalize s.data.toList=l
 have key:yZ l=some v↔0<=v∧v<=999999999∧Lib.itoa v=l:=by
  rw[sZ]
  exact⟨fun⟨h0,h1,h2⟩=>⟨h0,h1,by rw[iI h0,h2]⟩,fun⟨h0,h1,h2⟩=>⟨h0,h1,by rw[<-iI h0,h2]⟩⟩
 have neg:v<0->Lib.itoa v=45::Lib.decDigits v.natAbs:=fun h=>by unfold Lib.itoa;rw[if_pos h]
 split
 ·rename_i b l
  split
  ·rename_i hb
   rw[Option.map_eq_some_iff]
   constructor
   ·rintro⟨u,h,rfl⟩
    obtain⟨h0,h1,h2⟩:=sZ.1 h
    have hu:u≠0:=by
     rintro rfl
     have:Lib.decDigits (0:Int).toNat=[48]:=by decide+kernel
     rw[this]at h2
     cases h2
     exact hb rfl
    refine⟨by omega,by omega,?_⟩
    rw[neg (by omega),<-h2]
    congr 2;omega
   ·rintro⟨h0,h1,h2⟩
    by_cases hv:v<0
    ·rw[neg hv]at h2
     have h3:Lib.decDigits v.natAbs=b::l:=by simpa using h2
     refine⟨-v,?_,by omega⟩
     rw[sZ]
     exact⟨by omega,by omega,by rw[<-h3];congr 1;omega⟩
    ·exfalso
     rw[iI (by omega)]at h2
     have:=MO v.toNat
     rw[h2]at this
     exact this rfl
  ·rename_i hb
   have hb:b=48:=by simpa using hb
   subst hb
   rw[key]
   constructor
   ·rintro⟨h0,h1,h2⟩;exact⟨by omega,h1,h2⟩
   ·rintro⟨h0,h1,h2⟩
    refine⟨?_,h1,h2⟩
    rcases Int.lt_or_le v 0 with hv|hv
    ·exfalso
     rw[neg hv]at h2
     have h3:Lib.decDigits v.natAbs=48::l:=by simpa using h2
     have h4:=Ev v.natAbs (by rw[h3];rfl)
     have h5:=qp v.natAbs
     rw[h3]at h4 h5
     rw[List.length_cons]at h4
     obtain rfl:l=[]:=List.length_eq_zero_iff.1 (by omega)
     simp only[dI]at h5
     rw[if_neg (by decide)]at h5
     simp at h5
     omega
    ·exact hv
 ·rename_i h5
  rw[key]
  constructor
  ·rintro⟨h0,h1,h2⟩;exact⟨by omega,h1,h2⟩
  ·rintro⟨h0,h1,h2⟩
   refine⟨?_,h1,h2⟩
   rcases Int.lt_or_le v 0 with hv|hv
   ·exfalso
    rw[neg hv]at h2
    cases e:Lib.decDigits v.natAbs with
    |nil=>exact oH _ e
    |cons b r=>rw[e]at h2;exact h5 b r h2.symm
   ·exact hv
end Pl
open Tryz
namespace Pl
def wd (w:List ByteArray)(i:Nat):ByteArray:=w[i]?.getD ⟨#[]⟩
def qC (w:List ByteArray):Option bF:=match idx (fun x=>decide (x=rM)) w,idx (fun x=>decide (x=eD)) w with
 | some b,some g=>
  if 1<=b∧b<=6∧b+2<=g∧w.length=g+6∧wd w (g+2)=fT∧wd w (g+4)=eu then
   (iQ (eZ (w.take b))).bind fun n=>(fQ (eZ ((w.drop (b+1)).take (g-(b+1))))).bind fun d=>(bV (wd w (g+1))).bind fun ne=>(fK (wd w (g+3))).bind fun x=>(bV (wd w (g+5))).map fun s=>⟨d,ne,n,0,x,s⟩
  else Option.none
 |_,_=>Option.none
theorem tq {α:Type}{p:α->Bool}{l:List α}{i:Nat}(h:idx p l=some i): ∃x,l=l.take i++x::l.drop (i+1)∧p x=true∧(∀y∈l.take i,p y=false)∧i<l.length:=by
 induction l generalizing i with
 |nil=>cases h
 | cons a l ih=>
  unfold idx at h
  split at h
  ·rename_i ha
   cases h
   exact⟨a,by simp,ha,by simp,by simp⟩
  ·rename_i ha
   obtain⟨j,hj,rfl⟩:=Option.map_eq_some_iff.1 h
   obtain⟨x,h1,h2,h3,h4⟩:=ih hj
   refine⟨x,by simp;exact h1,h2,fun y hy=> ?_,by simp;omega⟩
   rw[List.take_succ_cons]at hy
   rcases List.mem_cons.1 hy with e|hy
   ·subst e;simpa using ha
   ·exact h3 y hy
theorem Ey {α:Type}{p:α->Bool}: ∀ {l r:List α},(∀y∈l,p y=false)->idx p (l++r)=(idx p r).map (·+l.length)
 | [],r,_=>by simp
 |a::l,r,h=>by
  have ha:=h a (by simp)
  rw[List.cons_append,idx,if_neg (by rw[ha];decide),Ey (fun y hy=>h y (by simp[hy])),Option.map_map]
  congr 1
theorem Ez {w:List ByteArray}{n:Int}(hne:w≠ [])(hp: ∀x∈w,gI x.data.toList=true)(h:iQ (eZ w)=some n):w=aN n cO∧1<=n∧n<=100000:=by
 unfold iQ at h
 obtain⟨m,hm,h⟩:=Option.bind_eq_some_iff.1 h
 split at h
 ·rename_i hr
  cases h
  have e:=Es hm
  obtain⟨m1,_,m3,m4⟩:=yx hr.1 hr.2
  have e1:=nP hne hp
  have e2:=nP m3 (fun x hx=>(m1 x hx).1)
  rw[<-e,<-m4,e2]at e1
  exact⟨e1.symm,hr⟩
 ·cases h
theorem GA {w:List ByteArray}{d:Int}(hne:w≠ [])(hp: ∀x∈w,gI x.data.toList=true)(h:fQ (eZ w)=some d):w.length<=3:=by
 obtain⟨e,h0,h1⟩:=J5 h
 obtain⟨q1,q2,_,q4,q5⟩:=MG h0 (show d<=359 by omega)
 have e3:eZ w=mD d:=by unfold mD;rw[e]
 have e1:=nP hne hp
 have e2:=nP q4 q1
 rw[e3,<-q5,e2]at e1
 rw[<-e1];exact q2
theorem GD (k:Int):spelt k≠eD:=by
 intro e
 have h:Lib.itoa k=[103,105,118,101]:=by rw[<-eT,e];rfl
 unfold Lib.itoa at h
 split at h
 ·cases h
 ·have:=kS k.toNat 103 (by rw[h];simp)
  exact absurd this.2 (by decide)
theorem J6 : ∀u∈cO,u.2.1≠eD∧u.2.2≠eD:=by decide+kernel
theorem uY : ∀(us:List Unit),(∀u∈us,u.2.1≠eD∧u.2.2≠eD)-> ∀c,∀w∈aN c us,w≠eD
 | [],_,c,w,hw=>by simp[aN]at hw
 | u ::us,h,c,w,hw=>by
  simp only[aN,List.mem_append]at hw
  rcases hw with hw|hw
  ·split at hw
   ·simp only[List.mem_cons,List.not_mem_nil,or_false]at hw
    rcases hw with rfl|rfl
    ·exact GD _
    ·unfold word;split
     ·exact(h u (by simp)).1
     ·exact(h u (by simp)).2
   ·simp at hw
  ·exact uY us (fun v hv=>h v (by simp[hv])) _ w hw
theorem Pz :rM≠eD:=by decide+kernel
theorem PD {w:List ByteArray} (hp: ∀x∈w,gI x.data.toList=true):qC w=Fw w:=by
 apply BZ
 intro c
 constructor
 ·intro h
  unfold qC at h
  split at h
  ·rename_i b g hb hg
   split at h
   ·rename_i hc
    obtain⟨c1,c2,c3,c4,c5,c6⟩:=hc
    obtain⟨n,hn,h⟩:=Option.bind_eq_some_iff.1 h
    obtain⟨d,hd,h⟩:=Option.bind_eq_some_iff.1 h
    obtain⟨x,hx,hbx,hbl,hbt⟩:=tq hb
    obtain⟨y,hy,Y6,hgl,hgt⟩:=tq hg
    have ex:x=rM:=by simpa using hbx
    have ey:y=eD:=by simpa using Y6
    subst ex ey
    have hlt:(w.take b).length=b:=by rw[List.length_take];omega
    have hrl:(w.drop (b+1)).length=w.length-(b+1):=List.length_drop
    have hgr: ∀z∈(w.drop (b+1)).take (g-(b+1)),z≠eD:=by
     intro z hz e
     have:z∈w.take g:=by
      rw[List.take_drop]at hz
      rw[show b+1+(g-(b+1))=g by omega]at hz
      exact List.mem_of_mem_drop hz
     have:=hgl z this
     simp[e]at this
    have hrt:((w.drop (b+1)).take (g-(b+1))).length=g-(b+1):=by rw[List.length_take];omega
    have hrd:w.drop (b+1)=(w.drop (b+1)).take (g-(b+1))++eD::w.drop (g+1):=by
     conv=>lhs;rw[hy,List.drop_append,List.length_take,Nat.min_eq_left (by omega)]
     rw[show b+1-g=0 by omega,List.drop_zero,List.drop_take]
    have hr3:=GA (by intro e;rw[e]at hrt;simp at hrt;omega) (fun z hz=>hp z (List.mem_of_mem_drop (List.mem_of_mem_take hz))) hd
    have u1:upTo rM 6 w=some (eZ (w.take b),w.drop (b+1)):=by
     unfold upTo;rw[hb];simp only[Option.bind_some];rw[if_pos ⟨c1,c2⟩]
    have u2:upTo eD 3 (w.drop (b+1))=some (eZ ((w.drop (b+1)).take (g-(b+1))),w.drop (g+1)):=by
     conv=>lhs;rw[hrd]
     rw[MI (fun hm=>hgr _ hm rfl) (by intro e;rw[e]at hrt;simp at hrt;omega) hr3]
    have h5:(w.drop (g+1)).length=5:=by rw[List.length_drop];omega
    have hwd: ∀k,k<5->wd w (g+1+k)=wd (w.drop (g+1)) k:=fun k _=>by unfold wd;rw[List.getElem?_drop]
    unfold Fw
    rw[u1]
    simp only[Option.bind_some]
    rw[hn]
    simp only[Option.bind_some]
    rw[u2]
    simp only[Option.bind_some]
    rw[hd]
    simp only[Option.bind_some]
    have k0:=hwd 0 (by omega)
    have k1:=hwd 1 (by omega)
    have k2:=hwd 2 (by omega)
    have k3:=hwd 3 (by omega)
    have k4:=hwd 4 (by omega)
    match hq:w.drop (g+1),h5 with
    | [q0,q1,q2,q3,q4],_=>
     rw[hq]at k0 k1 k2 k3 k4
     simp only[wd,List.getElem?_cons_zero,List.getElem?_cons_succ,Option.getD_some]at k0 k1 k2 k3 k4 c5 c6 h
     rw[show g+1+1=g+2 by omega]at k1
     rw[show g+1+2=g+3 by omega]at k2
     rw[show g+1+3=g+4 by omega]at k3
     rw[show g+1+4=g+5 by omega]at k4
     rw[Nat.add_zero]at k0
     rw[k1]at c5
     rw[k3]at c6
     rw[k0,k2,k4]at h
     simp only
     rw[if_pos ⟨c5,c6⟩]
     exact h
   ·cases h
  ·cases h
 ·intro h
  unfold Fw at h
  obtain⟨⟨a,r⟩,hu,h1⟩:=Option.bind_eq_some_iff.1 h
  obtain⟨n,hn,h2⟩:=Option.bind_eq_some_iff.1 h1
  obtain⟨⟨b',q⟩,hu',h3⟩:=Option.bind_eq_some_iff.1 h2
  obtain⟨d,hd,h4⟩:=Option.bind_eq_some_iff.1 h3
  clear h h1 h2 h3
  have h:=h4
  clear h4
  unfold upTo at hu hu'
  obtain⟨b,hb,hu⟩:=Option.bind_eq_some_iff.1 hu
  obtain⟨m,hm,hu'⟩:=Option.bind_eq_some_iff.1 hu'
  split at hu
  ·rename_i hc1
   cases hu
   split at hu'
   ·rename_i hc2
    cases hu'
    split at h
    ·rename_i ne we x sl s hq
     split at h
     ·rename_i hc3
      obtain⟨x1,e1,p1,l1,t1⟩:=tq hb
      obtain⟨x2,e2,p2,l2,t2⟩:=tq hm
      have ex:x1=rM:=by simpa using p1
      have ey:x2=eD:=by simpa using p2
      subst ex ey
      have hlt:(w.take b).length=b:=by rw[List.length_take];omega
      obtain⟨en,_⟩:=Ez (by intro e;rw[e]at hlt;simp at hlt;omega) (fun z hz=>hp z (List.mem_of_mem_take hz)) hn
      have hg:idx (fun x=>decide (x=eD)) w=some (b+1+m):=by
       have hs: ∀y∈w.take b++[rM],(fun x=>decide (x=eD)) y=false:=by
        intro y hy
        rcases List.mem_append.1 hy with hy|hy
        ·rw[en]at hy
         simpa using uY cO J6 n y hy
        ·rw[List.mem_singleton]at hy
         subst hy
         simpa using Pz
       rw[show w=(w.take b++[rM])++w.drop (b+1) by rw[List.append_assoc];exact e1,Ey hs,hm]
       simp only[Option.map_some,List.length_append,hlt,List.length_singleton]
       congr 1
       omega
      have hq':w.drop (b+1+m+1)=[ne,we,x,sl,s]:=by
       rw[<-hq,List.drop_drop]
       congr 1
      have hlen:w.length=b+1+m+6:=by
       have:=congrArg List.length hq'
       rw[List.length_drop]at this
       simp at this
       have h1:(w.drop (b+1)).length=w.length-(b+1):=List.length_drop
       omega
      have hwd: ∀k,wd w (b+1+m+1+k)=wd [ne,we,x,sl,s] k:=fun k=>by rw[<-hq'];unfold wd;rw[List.getElem?_drop]
      unfold qC
      rw[hb,hg]
      simp only
      have k0:wd w (b+1+m+1)=ne:=hwd 0
      have k1:wd w (b+1+m+2)=we:=hwd 1
      have k2:wd w (b+1+m+3)=x:=hwd 2
      have k3:wd w (b+1+m+4)=sl:=hwd 3
      have k4:wd w (b+1+m+5)=s:=hwd 4
      rw[k0,k1,k2,k3,k4,if_pos ⟨hc1.1,hc1.2,by omega,hlen,hc3.1,hc3.2⟩,hn]
      simp only[Option.bind_some]
      rw[show b+1+m-(b+1)=m by omega,hd]
      exact h
     ·cases h
    ·cases h
   ·cases hu'
  ·cases hu
def eH (w:ByteArray):Nat:=if w=bq then 1 else if w=bA then 2 else if w=aV then 3 else if w=bC then 4 else if w=bg then 5 else 0
def gD (k:Nat):Nat:=1+(if k=2∨k=4 then 2 else 1)+(if k≠1∧k≠2 then 2 else 1)
def aX (w:List ByteArray):Option kZ:=
 if w.length<4 then Option.none
 else if eH (wd w 0)=0 then Option.none
 else if w.length<gD (eH (wd w 0))then Option.none
 else if ((w.take (gD (eH (wd w 0)))).drop 1).all isName=false then Option.none
 else if eH (wd w 0)=4 then (if w.length=5 then some ⟨4,wd w 1,wd w 2,wd w 3,wd w 4,0,0,bF.zero⟩else Option.none)
 else if eH (wd w 0)=3 then (qC (w.drop 4)).map fun c=>⟨3,wd w 1,⟨#[]⟩,wd w 2,wd w 3,0,0,c⟩
 else if w.length≠gD (eH (wd w 0))+2 then Option.none
 else if eH (wd w 0)=1 then (bV (wd w 3)).bind fun s=>(bV (wd w 4)).map fun e=>⟨1,wd w 1,⟨#[]⟩,wd w 2,⟨#[]⟩,s,e,bF.zero⟩
 else if eH (wd w 0)=2 then (bV (wd w 4)).bind fun s=>(bV (wd w 5)).map fun e=>⟨2,wd w 1,wd w 2,wd w 3,⟨#[]⟩,s,e,bF.zero⟩
 else (fK (wd w 4)).bind fun s=>(bV (wd w 5)).map fun e=>⟨5,wd w 1,⟨#[]⟩,wd w 2,wd w 3,s,e,bF.zero⟩
theorem GH {w:List ByteArray}(h:eH (wd w 0)=0):form w=Option.none:=by
 cases w with
 |nil=>rfl
 |cons k r=>
  have h:eH k=0:=h
  unfold eH at h
  unfold form
  split at h
  ·cases h
  split at h
  ·cases h
  split at h
  ·cases h
  split at h
  ·cases h
  split at h
  ·cases h
  simp[*]
theorem yI {k:ByteArray}:(eH k=1->k=bq)∧(eH k=2->k=bA)∧(eH k=3->k=aV)∧(eH k=4->k=bC)∧(eH k=5->k=bg)∧eH k<=5:=by
 unfold eH
 split
 ·simp[*]
 split
 ·simp[*]
 split
 ·simp[*]
 split
 ·simp[*]
 split<;>simp[*]
theorem Ai {w:List ByteArray}(hp: ∀x∈w,gI x.data.toList=true):aX w=form w:=by
 obtain⟨w1,w2,w3,w4,w5,w6,w7,w8,w9,Js⟩:=MJ
 by_cases h0:eH (wd w 0)=0
 ·rw[GH h0]
  unfold aX
  simp[h0]
 obtain⟨k,r,rfl⟩: ∃k r,w=k::r:=by
  cases w with
  |nil=>exact absurd rfl h0
  |cons k r=>exact⟨k,r,rfl⟩
 have hw0:wd (k::r) 0=k:=rfl
 rw[hw0]at h0
 obtain⟨e1,e2,e3,e4,e5,e6⟩:=yI (k:=k)
 unfold aX
 rw[hw0,if_neg h0]
 rcases(show eH k=1∨eH k=2∨eH k=3∨eH k=4∨eH k=5 by omega)with hk|hk|hk|hk|hk
 ·have:=e1 hk;subst this
  rw[hk]
  match r with
  | []=>simp[form]
  | [a]=>simp[form]
  | [a,b]=>simp[form]
  | [a,b,c]=>simp[form,gD]
  | [a,b,c,d]=>simp[form,gD,wd];grind
  |a::b::c::d::e::r=>simp[form,gD]
 ·have:=e2 hk;subst this
  rw[hk]
  match r with
  | []=>simp[form,w1]
  | [a]=>simp[form,w1]
  | [a,b]=>simp[form,w1]
  | [a,b,c]=>simp[form,gD,w1]
  | [a,b,c,d]=>simp[form,gD,w1]
  | [a,b,c,d,e]=>simp[form,gD,wd,w1];grind
  |a::b::c::d::e::e'::r=>simp[form,gD,w1]
 ·have:=e3 hk;subst this
  rw[hk]
  match r with
  | []=>simp[form,w2,w3]
  | [a]=>simp[form,w2,w3]
  | [a,b]=>simp[form,w2,w3]
  |a::b::c::r=>
   have hr:qC r=Fw r:=PD fun x hx=>hp x (by simp[hx])
   simp[form,gD,wd,w2,w3,hr]
   grind
 ·have:=e4 hk;subst this
  rw[hk]
  match r with
  | []=>simp[form,w4,w5,w6]
  | [a]=>simp[form,w4,w5,w6]
  | [a,b]=>simp[form,w4,w5,w6]
  | [a,b,c]=>simp[form,gD,w4,w5,w6]
  | [a,b,c,d]=>simp[form,gD,wd,w4,w5,w6];grind
  |a::b::c::d::e::r=>simp[form,gD,w4,w5,w6]
 ·have:=e5 hk;subst this
  rw[hk]
  match r with
  | []=>simp[form,w7,w8,w9,Js]
  | [a]=>simp[form,w7,w8,w9,Js]
  | [a,b]=>simp[form,w7,w8,w9,Js]
  | [a,b,c]=>simp[form,gD,w7,w8,w9,Js]
  | [a,b,c,d]=>simp[form,gD,w7,w8,w9,Js]
  | [a,b,c,d,e]=>simp[form,gD,wd,w7,w8,w9,Js];grind
  |a::b::c::d::e::e'::r=>simp[form,gD,w7,w8,w9,Js]
end Pl
end Go.Proofs
namespace Go.Proofs.Pl
def qY (k:Nat):Nat:=if k=2∨k=4 then 2 else 1
def Fh (k:Nat):Nat:=if k≠1∧k≠2 then 2 else 1
theorem EA {l:List ByteArray}{x:kZ}(h:aX l=some x):
  (x.kind=1∨x.kind=2∨x.kind=3∨x.kind=4∨x.kind=5)∧1+qY x.kind+Fh x.kind<=l.length∧x.lim=wd l 1∧(qY x.kind=2->x.bL=wd l 2)∧x.fr=wd l (1+qY x.kind)∧(Fh x.kind=2->x.till=wd l (2+qY x.kind))∧(x.kind≠3->x.aB=bF.zero):=by
 unfold aX at h
 split at h
 ·cases h
 rename_i h4
 split at h
 ·cases h
 rename_i hk0
 split at h
 ·cases h
 rename_i hrest
 split at h
 ·cases h
 split at h
 ·rename_i hk
  rw[hk]at hrest
  split at h
  ·cases h
   exact⟨.inr (.inr (.inr (.inl rfl))),by simpa [gD,qY,Fh]using hrest,rfl,fun _=>rfl,rfl,fun _=>rfl,fun _=>rfl⟩
  ·cases h
 split at h
 ·rename_i hk
  rw[hk]at hrest
  obtain⟨c,_,rfl⟩:=Option.map_eq_some_iff.1 h
  exact⟨.inr (.inr (.inl rfl)),by simpa [gD,qY,Fh]using hrest,rfl,fun e=>by simp[qY]at e,rfl,fun _=>rfl,fun e=>absurd rfl e⟩
 split at h
 ·cases h
 split at h
 ·rename_i hk
  rw[hk]at hrest
  obtain⟨s,_,h2⟩:=Option.bind_eq_some_iff.1 h
  obtain⟨e,_,rfl⟩:=Option.map_eq_some_iff.1 h2
  exact⟨.inl rfl,by simpa [gD,qY,Fh]using hrest,rfl,fun e=>by simp[qY]at e,rfl,fun e=>by simp[Fh]at e,fun _=>rfl⟩
 split at h
 ·rename_i hk
  rw[hk]at hrest
  obtain⟨s,_,h2⟩:=Option.bind_eq_some_iff.1 h
  obtain⟨e,_,rfl⟩:=Option.map_eq_some_iff.1 h2
  exact⟨.inr (.inl rfl),by simpa [gD,qY,Fh]using hrest,rfl,fun _=>rfl,rfl,fun e=>by simp[Fh]at e,fun _=>rfl⟩
 ·rename_i k4 k3 _ k1 k2
  have hk:eH (wd l 0)=5:=by
   have:=(yI (k:=wd l 0)).2.2.2.2.2
   omega
  rw[hk]at hrest
  obtain⟨s,_,h2⟩:=Option.bind_eq_some_iff.1 h
  obtain⟨e,_,rfl⟩:=Option.map_eq_some_iff.1 h2
  exact⟨.inr (.inr (.inr (.inr rfl))),by simpa [gD,qY,Fh]using hrest,rfl,fun e=>by simp[qY]at e,rfl,fun _=>rfl,fun _=>rfl⟩
theorem wh (sep:UInt8): ∀(l w:List UInt8),w∈cutAt sep l->sep∉w∧ ∀b∈w,b∈l
 | [],w,h=>by
  have h:w∈ [[]]:=h
  simp at h
  subst h
  simp
 | b ::l,w,h=>by
  by_cases hb:b=sep
  ·subst hb
   have e:cutAt b (b::l)=[]::cutAt b l:=by conv=>lhs;unfold cutAt;simp
   rw[e]at h
   rcases List.mem_cons.1 h with rfl|h
   ·simp
   ·obtain⟨h1,h2⟩:=wh b l w h
    exact⟨h1,fun x hx=>List.mem_cons_of_mem _ (h2 x hx)⟩
  ·obtain⟨v,ws,e1,e2⟩:=mh l hb
   rw[e2]at h
   rcases List.mem_cons.1 h with rfl|h
   ·obtain⟨h1,h2⟩:=wh sep l v (by rw[e1];exact List.mem_cons_self)
    refine⟨fun hs=> ?_,fun x hx=> ?_⟩
    ·rcases List.mem_cons.1 hs with h3|h3
     ·exact hb h3.symm
     ·exact h1 h3
    ·rcases List.mem_cons.1 hx with rfl|h3
     ·exact List.mem_cons_self
     ·exact List.mem_cons_of_mem _ (h2 x h3)
   ·obtain⟨h1,h2⟩:=wh sep l w (by rw[e1];exact List.mem_cons_of_mem _ h)
    exact⟨h1,fun x hx=>List.mem_cons_of_mem _ (h2 x hx)⟩
theorem MP {p:UInt8->Bool}: ∀ {l:List UInt8} {b:UInt8},b∈l.takeWhile p->p b=true
 | [],b,h=>by simp at h
 | a::l,b,h=>by
  rw[List.takeWhile_cons]at h
  split at h
  ·rename_i ha
   rcases List.mem_cons.1 h with rfl|h
   ·exact ha
   ·exact MP h
  ·cases h
theorem uZ {s:ByteArray}(h:(10:UInt8)∉s.data.toList): ∀x∈aW s,gI x.data.toList=true:=by
 intro x hx
 unfold aW at hx
 obtain⟨w,hw,rfl⟩:=List.mem_map.1 hx
 unfold kM solid at hw
 obtain⟨hw1,hw2⟩:=List.mem_filter.1 hw
 obtain⟨h1,h2⟩:=wh 32 _ w hw1
 have h3: ∀b∈w,b∈s.data.toList∧b≠35:=fun b hb=>by
  have:=h2 b hb
  unfold ahead at this
  refine⟨(List.takeWhile_sublist _).subset this,fun e=> ?_⟩
  have:=MP this
  subst e
  simp at this
 have hd:(q9 w).data.toList=w:=by unfold q9;simp
 rw[hd,nO]
 refine⟨fun e=> ?_,h1,fun hb=>(h3 _ hb).2 rfl,fun hb=>h (h3 _ hb).1⟩
 subst e
 simp at hw2
end Go.Proofs.Pl
namespace Go.Proofs
open Tryz RowKit
theorem nR (s:List UInt8):(⟨s.toArray⟩:ByteArray).size=s.length:=by show s.toArray.size=_;simp
open Tryz RowKit
attribute [-go_sem] Builtin.append_
def aAk (c:Pl.aZ):List Value:=[.int .u8 (c.kind:Int),.int .i64 c.lim,.int .i64 c.bL,.int .i64 c.fr,.int .i64 c.till,.int .i64 c.size,.int .i64 c.er,.int .i64 c.aB.b,.int .i64 c.aB.n,.int .i64 c.aB.l,.int .i64 c.aB.y,.int .i64 c.aB.x,.int .i64 c.aB.s]
def slv (p:Option Addr×Nat)(n:Nat):Value:=.slice p.1 n p.2
def blk (p:Option Addr×Nat):Option Nat:=p.1.map (·.block)
def dq (_:Pl.j6)(_:Option Addr)(_:Nat):CT:=.mk
instance (d : Pl.j6) (A : Option Addr) (c : Nat) : CoeDep CT (dq d A c) (Array Value) := ⟨#[.string d.name,.int .i64 d.year,.int .i64 d.rank,.slice A d.calls.length c]⟩
def x9 (x:Pl.j6×Option Addr×Nat):List Value:=[.string x.1.name,.int .i64 x.1.year,.int .i64 x.1.rank,slv x.2 x.1.calls.length]
theorem aAu :Lay aAk 88 48 (.agg bP) 13 104:=
 ⟨underlying88,by kernel_rfl,rfl,by decide,fun _=>rfl,fun x v hv=>by simp[aAk]at hv;rcases hv with rfl|rfl|rfl|rfl|rfl|rfl|rfl|rfl|rfl|rfl|rfl|rfl|rfl<;>rfl⟩
theorem Q5 :Lay x9 38 90 (.agg #[.string ⟨#[]⟩,.int .i64 0,.int .i64 0,.slice none 0 0]) 4 56:=
 ⟨underlying38,by kernel_rfl,rfl,by decide,fun _=>rfl,fun x v hv=>by simp[x9]at hv;rcases hv with rfl|rfl|rfl|rfl<;>rfl⟩
theorem Q9 (p:Option Addr×Nat)(n:Nat):(slv p n).ownBlock=blk p:=by
 obtain⟨a,c⟩:=p
 cases a<;>rfl
theorem aAp {W:World}{n₀:Nat}{e:TypeId}{size n g j:Nat}{v u:Value}{xs:List Value}(h:W.ownsRow n₀ e size v n xs)(hg:v.ownBlock=some g):(W.setCell ⟨g,j,none⟩ u).ownsRow n₀ e size v n (xs.set j u):=by
 obtain⟨h1,h2⟩:=h
 rcases h2 with ⟨rfl,_⟩|⟨g',cap,cur,rfl,hb,hgg,hc1,hc2,hc3,hc4⟩
 ·simp[Value.ownBlock]at hg
 ·have:g'=g:=by simpa [Value.ownBlock]using hg
  subst this
  refine⟨by simpa using h1,.inr ⟨g',cap,cur.setIfInBounds j u,rfl,hb,heap_setCell_same W g' j _ _ u hgg,hc1,hc2,by simpa using hc3,?_⟩⟩
  rw[<-hc4,Array.toList_setIfInBounds,List.take_set]
theorem aBv (l0:List (Pl.j6×Option Addr×Nat))(d:Pl.j6)(p p':Option Addr×Nat)(cs:List Pl.aZ):
  ((l0++[(d,p)]).flatMap x9).set (l0.length*4+3) (slv p' cs.length)=(l0++[({d with calls:=cs},p')]).flatMap x9:=by
 have hl:=oL x9 4 (fun _=>rfl) l0
 rw[List.flatMap_append,List.flatMap_append,List.set_append_right _ _ (by omega),hl,Nat.add_sub_cancel_left]
 rfl
def Dx (bd:Nat)(v:Value)(l:List (Pl.j6×Option Addr×Nat))(i:Nat):Prop:=i=bd∨v.ownBlock=some i∨ ∃x∈l,blk x.2=some i
structure HY (bd:Nat)(l:List (Pl.j6×Option Addr×Nat))(W:World)(v:Value):Prop where
 box:W.heap[bd]?=some (.cells #[v] 38 (0,0))
 row:W.ownsRow (bd+1) 90 4 v l.length (l.flatMap x9)
 own: ∀x∈l,W.ownsRow (bd+1) 48 13 (slv x.2 x.1.calls.length) x.1.calls.length (x.1.calls.flatMap aAk)
 one: ∀(i j:Nat) (x y:Pl.j6×Option Addr×Nat) (g:Nat),l[i]?=some x->l[j]?=some y->blk x.2=some g->blk y.2=some g->i=j
section
variable {bd : Nat} {l : List (Pl.j6 × Option Addr × Nat)} {W W' : World} {v : Value}
theorem HY.lt (h:HY bd l W v):bd<W.heap.size:=(Array.getElem?_eq_some_iff.1 h.box).1
theorem HY.dx (h:HY bd l W v){i:Nat}(hi:Dx bd v l i):bd<=i∧i<W.heap.size:=by
 rcases hi with rfl|hi|⟨x,hx,hi⟩
 ·exact⟨Nat.le_refl _,h.lt⟩
 ·have:=h.row.lt i hi
  omega
 ·have:=(h.own x hx).lt i (by rw[Q9];exact hi)
  omega
theorem HY.kept (h:HY bd l W v){b:Nat}(hg:W.grownBy W' (some b))(hn: ¬Dx bd v l b):HY bd l W' v:=
 ⟨(hg.block bd h.lt (fun e=>by cases e;exact hn (.inl rfl))).trans h.box,h.row.kept hg (.inr fun e=>hn (.inr (.inl e))),fun x hx=>(h.own x hx).kept hg (.inr fun e=>hn (.inr (.inr ⟨x,hx,by rwa[Q9]at e⟩))),h.one⟩
theorem HY.below (h:HY bd l W v)(hb:Below W.heap.size W W'):HY bd l W' v:=
 ⟨(hb.block bd h.lt).trans h.box,own_below h.row hb,fun x hx=>own_below (h.own x hx) hb,h.one⟩
theorem HY.empty (h:W.heap[bd]?=some (.cells #[.slice none 0 0] 38 (0,0))):HY bd [] W (.slice none 0 0):=
 ⟨h,World.ownsRow_nil _ _ _ _,fun x hx=>(by cases hx),fun i j x y g hi=>(by simp at hi)⟩
theorem aBw (h:HY bd l W v)(n:ByteArray)(y r:Int)(hk:l.length<=100000):
  ∃g' cap' w2,(Builtin.append_ #[38,38] 38 #[v,.slice (some ⟨W.heap.size,0,none⟩) 1 1]).run prog (W.alloc (.cells #[.string n,.int .i64 y,.int .i64 r,.slice none 0 0] 90))=.ok (.slice (some ⟨g',0,none⟩) (l.length+1) cap') w2∧
   w2.heap[bd]?=some (.cells #[v] 38 (0,0))∧
   HY bd (l++[(⟨n,y,r,[]⟩,none,0)]) (w2.setCell ⟨bd,0,none⟩ (.slice (some ⟨g',0,none⟩) (l.length+1) cap')) (.slice (some ⟨g',0,none⟩) (l.length+1) cap')∧
   aU bd (Dx bd v l) W (w2.setCell ⟨bd,0,none⟩ (.slice (some ⟨g',0,none⟩) (l.length+1) cap'))∧W.heap.size<=w2.heap.size∧
   (∀i,Dx bd (.slice (some ⟨g',0,none⟩) (l.length+1) cap') (l++[(⟨n,y,r,[]⟩,none,0)]) i->Dx bd v l i∨W.heap.size<=i):=by
 obtain⟨g',cap',w2,hrun,hown,hg,hat⟩:=oP Q5 h.row [(⟨n,y,r,[]⟩,none,0)] 0 rfl #[.string n,.int .i64 y,.int .i64 r,.slice none 0 0] (by simp[x9,slv]) (by unfold maxLen;omega) (by omega) h.lt
 have hb:w2.heap[bd]?=some (.cells #[v] 38 (0,0)):=(hg.block bd h.lt (own_ne h.row h.box (by decide)).symm).trans h.box
 refine⟨g',cap',w2,hrun,hb,⟨heap_setCell_same w2 bd 0 _ _ (.slice (some ⟨g',0,none⟩) (l.length+1) cap') hb,by rw[List.length_append];exact gq hown (by omega),fun x hx=> ?_,fun i j x y' g hi hj hx hy=> ?_⟩,⟨?_,fun i hi hx=> ?_⟩,hg.size,fun i hi=> ?_⟩
 ·rcases List.mem_append.1 hx with hx|hx
  ·exact gq ((h.own x hx).kept hg (fF h.row (h.own x hx) (by decide))) (by omega)
  ·have:x=(⟨n,y,r,[]⟩,none,0):=by simpa using hx
   subst this
   exact World.ownsRow_nil _ _ _ _
 ·rw[List.getElem?_append]at hi hj
  have key: ∀(i:Nat) (x:Pl.j6×Option Addr×Nat),(if i<l.length then l[i]? else [((⟨n,y,r,[]⟩:Pl.j6),(none:Option Addr),0)][i-l.length]?)=some x->blk x.2=some g->l[i]?=some x:=by
   intro i x hi hx
   split at hi
   ·exact hi
   ·cases hi':i-l.length with
    |zero=>rw[hi']at hi;simp at hi;subst hi;cases hx
    |succ k=>rw[hi']at hi;simp at hi
  exact h.one i j x y' g (key i x hi hx) (key j y' hj hy) hx hy
 ·have hB:Below bd W w2:=⟨hg.os,hg.tape,hg.output,hg.size,fun k hk'=>hg.block k (by have:=h.lt;omega) (fun e=>by have:=(h.row.lt k e.symm).1;omega)⟩
  exact hB.setCell (p:=⟨bd,0,none⟩) (Nat.le_refl _) _
 ·rw[Below.heap_setCell _ _ _ _ (by rintro rfl;exact hx (.inl rfl))]
  exact hg.block i hi (fun e=>hx (.inr (.inl e.symm)))
 ·rcases hi with rfl|hi|⟨x,hx,hi⟩
  ·exact .inl (.inl rfl)
  ·have hi:g'=i:=by simpa [Value.ownBlock]using hi
   subst hi
   rcases hat with h'|h'
   ·exact .inl (.inr (.inl h'))
   ·exact .inr (by omega)
  ·rcases List.mem_append.1 hx with hx|hx
   ·exact .inl (.inr (.inr ⟨x,hx,hi⟩))
   ·have:x=(⟨n,y,r,[]⟩,none,0):=by simpa using hx
    subst this
    cases hi
theorem aAJ {l0:List (Pl.j6×Option Addr×Nat)}{d:Pl.j6}{p:Option Addr×Nat}(h:HY bd (l0++[(d,p)]) W v)(c:Pl.aZ)(hk:d.calls.length<=100000):
  ∃ba cp,v=.slice (some ⟨ba,0,none⟩) (l0.length+1) cp∧W.cell? ⟨ba,l0.length*4+1,none⟩=some (.int .i64 d.year)∧W.cell? ⟨ba,l0.length*4+3,none⟩=some (slv p d.calls.length)∧
  (∀W1,Below W.heap.size W W1->W1.cell? ⟨ba,l0.length*4+1,none⟩=some (.int .i64 d.year)∧W1.cell? ⟨ba,l0.length*4+3,none⟩=some (slv p d.calls.length)∧W1.frozen? ⟨ba,l0.length*4+3,none⟩=false)∧
  ∀W1,Below W.heap.size W W1-> ∃g' cap' w2,(Builtin.append_ #[88,88] 88 #[slv p d.calls.length,.slice (some ⟨W1.heap.size,0,none⟩) 1 1]).run prog (W1.alloc (.cells (aAk c).toArray 48))=.ok (.slice (some ⟨g',0,none⟩) (d.calls.length+1) cap') w2∧
   w2.cell? ⟨ba,l0.length*4+3,none⟩=some (slv p d.calls.length)∧w2.frozen? ⟨ba,l0.length*4+3,none⟩=false∧w2.cell? ⟨ba,l0.length*4+1,none⟩=some (.int .i64 d.year)∧W1.grownBy w2 (blk p)∧
   HY bd (l0++[({d with calls:=d.calls++[c]},some ⟨g',0,none⟩,cap')]) (w2.setCell ⟨ba,l0.length*4+3,none⟩ (.slice (some ⟨g',0,none⟩) (d.calls.length+1) cap')) v∧
   aU bd (Dx bd v (l0++[(d,p)])) W (w2.setCell ⟨ba,l0.length*4+3,none⟩ (.slice (some ⟨g',0,none⟩) (d.calls.length+1) cap'))∧W.heap.size<=w2.heap.size∧
   (∀i,Dx bd v (l0++[({d with calls:=d.calls++[c]},some ⟨g',0,none⟩,cap')]) i->Dx bd v (l0++[(d,p)]) i∨W1.heap.size<=i):=by
 have hlen:(l0++[(d,p)]).length=l0.length+1:=by simp
 have hrow:=h.row
 rw[hlen]at hrow
 obtain⟨ba,cp,rfl⟩:=ownsRow_succ hrow
 have BN:(Value.slice (some ⟨ba,0,none⟩) (l0.length+1) cp).ownBlock=some ba:=rfl
 have hcell: ∀W1,Below W.heap.size W W1-> ∀j u,(x9 (d,p))[j]?=some u->W1.cell? ⟨ba,l0.length*4+j,none⟩=some u:=by
  intro W1 hb j u hu
  have hf:=A9 x9 4 (fun _=>rfl) (l:=l0++[(d,p)]) (k:=l0.length) (x:=(d,p)) (by simp) hu
  have:=(own_below hrow hb).cells BN _ u hf
  rwa[Go.WideShapes.add_plain,Nat.zero_add]at this
 have aBx: ∀W1,Below W.heap.size W W1-> ∀j,W1.frozen? ⟨ba,j,none⟩=false:=by
  intro W1 hb j
  rcases(own_below hrow hb).2 with ⟨h2,_⟩|⟨g,cap,cur,h2,_,h4,_⟩
  ·cases h2
  ·have:ba=g:=by simp at h2;exact h2.1
   subst this
   exact(ah h4).2 j
 refine⟨ba,cp,rfl,hcell W (Below.refl _ _) 1 _ rfl,hcell W (Below.refl _ _) 3 _ rfl,fun W1 hb=>⟨hcell W1 hb 1 _ rfl,hcell W1 hb 3 _ rfl,aBx W1 hb _⟩,fun W1 hb=> ?_⟩
 have h1:=h.below hb
 have hown1:W1.ownsRow (bd+1) 48 13 (slv p d.calls.length) d.calls.length (d.calls.flatMap aAk):=h1.own (d,p) (by simp)
 have aBg:=h1.row
 rw[hlen]at aBg
 obtain⟨g',cap',w2,hrun,hown,hg,hat⟩:=oP aAu hown1 [c] 0 rfl (aAk c).toArray (by simp) (by unfold maxLen;omega) (by omega) h1.lt
 rw[Q9]at hg hat
 have hpa:blk p≠some ba:=by
  have:=fF aBg hown1 (by decide)
  rw[Q9,BN]at this
  rcases this with h|h
  ·rw[h];simp
  ·exact h
 have hrow2:w2.ownsRow (bd+1) 90 4 (.slice (some ⟨ba,0,none⟩) (l0.length+1) cp) (l0.length+1) ((l0++[(d,p)]).flatMap x9):=aBg.kept hg (.inr (by rw[BN];exact fun e=>hpa e.symm))
 have aCl:g'≠ba:=by
  rcases hat with h'|h'
  ·rintro rfl;exact hpa h'
  ·have:=(aBg.lt ba BN).2
   omega
 have hc3:w2.cell? ⟨ba,l0.length*4+3,none⟩=some (slv p d.calls.length):=by
  have hf:=A9 x9 4 (fun _=>rfl) (l:=l0++[(d,p)]) (k:=l0.length) (x:=(d,p)) (j:=3) (by simp) rfl
  have:=hrow2.cells BN _ _ hf
  rwa[Go.WideShapes.add_plain,Nat.zero_add]at this
 have hbx:w2.heap[bd]?=some (.cells #[.slice (some ⟨ba,0,none⟩) (l0.length+1) cp] 38 (0,0)):=(hg.block bd h1.lt (by
  have:=own_ne hown1 h1.box (by decide)
  rw[Q9]at this
  exact this.symm)).trans h1.box
 have hgs:=cB w2 ba (l0.length*4+3) (.slice (some ⟨g',0,none⟩) (d.calls.length+1) cap')
 have aCm:=(hrow2.lt ba BN)
 have hsz1:=hb.size
 have hc1:w2.cell? ⟨ba,l0.length*4+1,none⟩=some (.int .i64 d.year):=by
  have hf:=A9 x9 4 (fun _=>rfl) (l:=l0++[(d,p)]) (k:=l0.length) (x:=(d,p)) (j:=1) (by simp) rfl
  have:=hrow2.cells BN _ _ hf
  rwa[Go.WideShapes.add_plain,Nat.zero_add]at this
 refine⟨g',cap',w2,hrun,hc3,?_,hc1,hg,⟨?_,?_,fun x hx=> ?_,fun i j x y g hi hj hx hy=> ?_⟩,⟨?_,fun i hi hx=> ?_⟩,Nat.le_trans hb.size hg.size,fun i hi=> ?_⟩
 ·rcases hrow2.2 with ⟨h2,_⟩|⟨g,cap,cur,h2,_,h4,_⟩
  ·cases h2
  ·have:ba=g:=by simp at h2;exact h2.1
   subst this
   exact(ah h4).2 _
 ·rw[Below.heap_setCell _ _ _ _ (by simp;omega)]
  exact hbx
 ·have:=aAp (j:=l0.length*4+3) (u:=.slice (some ⟨g',0,none⟩) (d.calls.length+1) cap') hrow2 BN
  have hs:=aBv l0 d p (some ⟨g',0,none⟩,cap') (d.calls++[c])
  rw[show slv (some ⟨g',0,none⟩,cap') (d.calls++[c]).length=.slice (some ⟨g',0,none⟩) (d.calls.length+1) cap' from by simp[slv]]at hs
  rw[hs]at this
  rw[List.length_append]
  exact this
 ·rcases List.mem_append.1 hx with hx'|hx'
  ·have hox:=h1.own x (by simp[hx'])
   obtain⟨i,hi,hix⟩:=List.mem_iff_getElem.1 hx'
   have hne:(slv x.2 x.1.calls.length).ownBlock=none∨(slv x.2 x.1.calls.length).ownBlock≠blk p:=by
    rw[Q9]
    cases hx2:blk x.2 with
    |none=>exact .inl rfl
    |some g=>
     refine .inr fun e=> ?_
     have:=h1.one i l0.length x (d,p) g (by rw[List.getElem?_append_left hi,List.getElem?_eq_getElem hi,hix]) (by simp) hx2 e.symm
     omega
   have aB7:=hox.kept hg hne
   refine aB7.kept hgs (.inr fun e=> ?_)
   rcases hrow2.2 with ⟨h2,_⟩|⟨g,cap,cur,h2,_,h4,_⟩
   ·cases h2
   ·have:ba=g:=by simp at h2;exact h2.1
    subst this
    exact own_ne aB7 h4 (by decide) e
  ·have:x=({d with calls:=d.calls++[c]},some ⟨g',0,none⟩,cap'):=by simpa using hx'
   subst this
   have:=hown.kept hgs (.inr (by simp[Value.ownBlock];exact aCl))
   simpa [slv]using this
 ·have key: ∀(i:Nat) (x:Pl.j6×Option Addr×Nat),(l0++[(({d with calls:=d.calls++[c]}:Pl.j6),some ⟨g',0,none⟩,cap')])[i]?=some x->(i<l0.length∧(l0++[(d,p)])[i]?=some x)∨(i=l0.length∧x=({d with calls:=d.calls++[c]},some ⟨g',0,none⟩,cap')):=by
   intro i x hi
   rw[List.getElem?_append]at hi
   split at hi
   ·rename_i hl
    exact .inl ⟨hl,by rw[List.getElem?_append_left hl];exact hi⟩
   ·rename_i hl
    cases hi':i-l0.length with
    |zero=>rw[hi']at hi;simp at hi;exact .inr ⟨by omega,hi.symm⟩
    |succ k=>rw[hi']at hi;simp at hi
  have old: ∀(i:Nat) (x:Pl.j6×Option Addr×Nat),i<l0.length->(l0++[(d,p)])[i]?=some x->blk x.2≠some g':=by
   intro i x hi hx e
   rcases hat with h|h
   ·have:=h1.one i l0.length x (d,p) g' hx (by simp) e h
    omega
   ·have hm:x∈l0++[(d,p)]:=List.mem_of_getElem? hx
    have:=((h1.own x hm).lt g' (by rw[Q9];exact e)).2
    omega
  rcases key i x hi with ⟨a1,a2⟩|⟨a1,rfl⟩<;>rcases key j y hj with ⟨b1,b2⟩|⟨b1,rfl⟩
  ·exact h1.one i j x y g a2 b2 hx hy
  ·exact absurd (hx.trans hy.symm) (old i x a1 a2)
  ·exact absurd (hy.trans hx.symm) (old j y b1 b2)
  ·omega
 ·have hB:Below bd W1 w2:=⟨hg.os,hg.tape,hg.output,hg.size,fun k hk'=>hg.block k (by have:=h1.lt;omega) (fun e=>by
   have:=(hown1.lt k (by rw[Q9];exact e.symm)).1
   omega)⟩
  exact((hb.mono (Nat.le_of_lt h.lt)).trans hB).setCell (p:=⟨ba,l0.length*4+3,none⟩) (by have:=aCm.1;simp;omega) _
 ·rw[Below.heap_setCell _ _ _ _ (by rintro rfl;exact hx (.inr (.inl rfl)))]
  exact(hg.block i (by omega) (fun e=>hx (.inr (.inr ⟨(d,p),by simp,e.symm⟩)))).trans (hb.block i hi)
 ·rcases hi with rfl|hi|⟨x,hx,hi⟩
  ·exact .inl (.inl rfl)
  ·exact .inl (.inr (.inl hi))
  ·rcases List.mem_append.1 hx with hx|hx
   ·exact .inl (.inr (.inr ⟨x,by simp[hx],hi⟩))
   ·have:x=({d with calls:=d.calls++[c]},some ⟨g',0,none⟩,cap'):=by simpa using hx
    subst this
    have hi:g'=i:=by simpa [blk]using hi
    subst hi
    rcases hat with h'|h'
    ·exact .inl (.inr (.inr ⟨(d,p),by simp,h'⟩))
    ·exact .inr (by omega)
end
end Go.Proofs
namespace Go.Proofs
open Tryz RowKit
abbrev Dds := @Seg (Pl.j6×Option Addr×Nat) x9 4
theorem Dds.at4 {w:World}{B:Nat}{A:Option Addr}{l:List (Pl.j6×Option Addr×Nat)}(h:Dds w B A l){k:Nat}(hk:k<l.length):
  ∃b off,A=some ⟨b,off,none⟩∧b<B∧w.cell? ⟨b,off+k*4,none⟩=some (.string l[k].1.name)∧w.cell? ⟨b,off+k*4+1,none⟩=some (.int .i64 l[k].1.year)∧
   w.cell? ⟨b,off+k*4+2,none⟩=some (.int .i64 l[k].1.rank)∧w.cell? ⟨b,off+k*4+3,none⟩=some (slv l[k].2 l[k].1.calls.length):=by
 obtain⟨b,off,hA,hb,hc⟩:=Seg.at_ h hk
 exact⟨b,off,hA,hb,hc 0 _ rfl,hc 1 _ rfl,hc 2 _ rfl,hc 3 _ rfl⟩
theorem aBX (A:Option Addr)(c:Nat)(l:List (Pl.j6×Option Addr×Nat))(g:FuncId)(cap:Array Value)(p:(Pl.j6×Option Addr×Nat)->Bool)(w:World)(hl:Seg x9 4 w w.heap.size A l)(hm:l.length<=1000000)
  (hen: ∀args w,(callFunc g args).run prog w=.ok (.enter g args) w)
  (hp: ∀x∈l,∀W,Below w.heap.size w W->Calls prog g (#[.agg #[.string x.1.name,.int .i64 x.1.year,.int .i64 x.1.rank,slv x.2 x.1.calls.length]]++cap) W fun e W'=>e=.returned (.bool (p x))∧Below W.heap.size W W'):
  Calls prog 184 #[.slice A l.length c,.func (.func g) #[] cap] w fun e w'=>e=.returned (.int .i64 (Pl.pos (Pl.idx p l)))∧Below w.heap.size w w':=by
 go_enter func184,ntmps184
 go_wp2
 go_loopw [8] (fun i wr=> ∃(k:Nat),k<=l.length∧i=.int .i64 k∧Hid (∀j (h:j<l.length),j<k->p l[j]=false)∧Below w.heap.size w wr) (fun i _=>l.length-(intOf i).toNat)
 case atStart=>exact⟨0,by omega,rfl,Lib.hid fun j _ h=>by omega,by go_grown⟩
 case round=>
  obtain⟨k,hk,rfl,hg,hb⟩:=hrel
  have hsz:=hb.size
  by_cases hlt:k<l.length
  ·obtain⟨b,off,rfl,mQ,q0,q1,q2,q3⟩:=Dds.at4 (hl.below hb) hlt
   have hpk:=Lib.hid (hp l[k] (List.getElem_mem hlt))
   cases hc:p l[k]with
   |true=>
    have hv:=Lib.hid (Pl.iN (p:=p) hlt (fun j hj=>hg.out j (by omega) hj) hc)
    have HC:=Lib.hid hc
    clear hc
    go_wp2
    refine(hpk.out _ (by go_grown)).mono ?_
    rintro e w2 ⟨rfl,hx⟩
    rw[HC.out]
    have hb2:=bT (w:=w) hx
    clear hx
    go_wp2
    go_ret
    exact⟨by rw[hv.out];try rfl,hb2⟩
   | false=>
    have HC:=Lib.hid hc
    clear hc
    go_wp2
    refine(hpk.out _ (by go_grown)).mono ?_
    rintro e w2 ⟨rfl,hx⟩
    rw[HC.out]
    have hb2:=bT (w:=w) hx
    clear hx
    go_wp2
    go_roundw
    case rel=>exact⟨k+1,by omega,by go_num,Lib.hid fun j h hj=>by
     by_cases e:j=k
     ·subst e;exact HC.out
     ·exact hg.out j h (by omega),hb2⟩
    case measure=>first|(simp[intOf];done)|(simp[intOf];omega)
  ·have hv:=Lib.hid (Pl.jX (p:=p) (l:=l) fun j hj=>hg.out j hj (by omega))
   go_wp2
   go_ret
   exact⟨by rw[hv.out];try rfl,by go_grown⟩
theorem aA6 (A:Option Addr)(c:Nat)(l:List (Pl.j6×Option Addr×Nat))(g:FuncId)(cap:Array Value)(p:(Pl.j6×Option Addr×Nat)->Bool)(w:World)(hl:Seg x9 4 w w.heap.size A l)(hm:l.length<=1000000)
  (hen: ∀args w,(callFunc g args).run prog w=.ok (.enter g args) w)
  (hp: ∀x∈l,∀W,Below w.heap.size w W->Calls prog g (#[.agg #[.string x.1.name,.int .i64 x.1.year,.int .i64 x.1.rank,slv x.2 x.1.calls.length]]++cap) W fun e W'=>e=.returned (.bool (p x))∧Below W.heap.size W W'):
  Calls prog 124 #[.slice A l.length c,.func (.func g) #[] cap] w fun e w'=>e=.returned (.bool (l.any p))∧Below w.heap.size w w':=by
 have HV:Hid (decide (0<=Pl.pos (Pl.idx p l))=l.any p):=by unfold Hid;rw[Pl.wE,Pl.rR]
 go_enter func124,ntmps124
 go_wp2_with (go_at_call 184;refine(aBX A c l g cap p w hl hm hen hp).mono ?_;rintro e w1 ⟨rfl,hx1⟩;have hb1:=bT (w:=w) hx1;clear hx1;have hsz1:w.heap.size<=w1.heap.size:=hb1.size)
 go_ret
 exact⟨aD (by rw[<-HV.out]),by go_grown⟩
