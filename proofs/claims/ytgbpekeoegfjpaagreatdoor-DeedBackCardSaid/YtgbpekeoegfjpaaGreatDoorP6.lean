/- PlZ, Pm2, Pm3, Pm4, Pm5, Pmc, Pmd, GL, GM, RM, RN, RO, RP, RQ, RR, RS, RT, RU, RV in one text. -/
import Derived.WalkKit
import Derived.Lib.Join
import Derived.Test.YtgbpekeoegfjpaaGreatDoorZ03
import Derived.Test.YtgbpekeoegfjpaaGreatDoorZ23
import Derived.Test.YtgbpekeoegfjpaaGreatDoorProg
import Derived.WalkLawsBesides
import Derived.WalkSpells
import Derived.Handy
import Derived.Lib.Hide
import Derived.Great.BuildSlice
import Derived.Deep.QuietTactic
import Derived.BigQuiet
import Derived.Deep.RegionHeld3
import Derived.Deep.DeepCutAuto
import Derived.Laws.BytesArg
import Derived.Laws.Concat
import Derived.Shelf.Strings.BuilderK
import Derived.Test.YtgbpekeoegfjpaaGreatDoorZ04
import Derived.Test.YtgbpekeoegfjpaaGreatDoorZ15
import Derived.Test.YtgbpekeoegfjpaaGreatDoorZ05
import Derived.Test.YtgbpekeoegfjpaaGreatDoorZ09
import Derived.Test.YtgbpekeoegfjpaaGreatDoorZ16
import Derived.Test.YtgbpekeoegfjpaaGreatDoorZ08
import Derived.Test.YtgbpekeoegfjpaaGreatDoorZ22
import Derived.Test.YtgbpekeoegfjpaaGreatDoorP5
namespace Go.Proofs.YtgbpekeoegfjpaaGreatDoor
namespace Pl
def lineL (ws:List ByteArray):List UInt8:=Lib.join (ws.map (·.data.toList)) [32]++[10]
def staW (s:ByteArray×Int):List ByteArray:=[wStation,s.1,spelt s.2]
def limW (s:ByteArray):List ByteArray:=[wLimit,s]
def stN (f:Fld)(i:Int):ByteArray:=match f.st[i.toNat]? with|some s=>s.1|none=>⟨#[]⟩
def liN (f:Fld)(i:Int):ByteArray:=match f.li[i.toNat]? with|some s=>s|none=>⟨#[]⟩
def parW (f:Fld)(p:Par):List ByteArray:=[wParcel,p.name,liN f p.south,stN f p.fr,stN f p.till]
def varW (v:Int×Int):List ByteArray:=[wVariation,spelt v.1,spelt v.2]
def prn {α:Type}(g:α->List ByteArray)(l:List α)(k:Nat):List UInt8:=(l.take k).flatMap fun x=>lineL (g x)
theorem prn_zero {α:Type}(g:α->List ByteArray)(l:List α):prn g l 0=[]:=by simp[prn]
theorem prn_succ {α:Type}(g:α->List ByteArray){l:List α}{k:Nat}(h:k<l.length):prn g l (k+1)=prn g l k++lineL (g l[k]):=by
 unfold prn
 rw[List.take_succ_eq_append_getElem h,List.flatMap_append]
 simp
theorem prn_len {α:Type}(g:α->List ByteArray)(l:List α)(m:Nat)(h: ∀x∈l,(lineL (g x)).length<=m)(k:Nat):(prn g l k).length<=k*m:=by
 induction k with
 |zero=>simp[prn_zero]
 | succ k ih=>
  by_cases hk:k<l.length
  ·rw[prn_succ g hk,List.length_append,Nat.add_mul,Nat.one_mul]
   have:=h _ (List.getElem_mem hk)
   omega
  ·have:prn g l (k+1)=prn g l k:=by unfold prn;rw[List.take_of_length_le (by omega),List.take_of_length_le (by omega)]
   rw[this,Nat.add_mul]
   omega
def printL (f:Fld):List UInt8:=prn staW f.st f.st.length++prn limW f.li f.li.length++prn (parW f) f.pa f.pa.length++prn varW f.va f.va.length
def printB (f:Fld):ByteArray:=if fieldE f=0 then ⟨(printL f).toArray⟩else ⟨#[]⟩
theorem join2 (a b:List UInt8):Lib.join [a,b] [32]=a++32::b:=by simp[Lib.join_cons,Lib.joinTail]
theorem join3 (a b c:List UInt8):Lib.join [a,b,c] [32]=a++32::(b++32::c):=by simp[Lib.join_cons,Lib.joinTail]
theorem join5 (a b c d e:List UInt8):Lib.join [a,b,c,d,e] [32]=a++32::(b++32::(c++32::(d++32::e))):=by simp[Lib.join_cons,Lib.joinTail]
theorem parIn_all {S L:Nat}{p:Par}(h:parIn S L p=true):0<=p.south∧p.south<=(L:Int)-2∧0<=p.fr∧p.fr<=(S:Int)-1∧0<=p.till∧p.till<=(S:Int)-1:=by
 unfold parIn at h
 simp at h
 omega
theorem varsGo_all : ∀(l:List (Int×Int)) (p:Int),0<=p->varsGo p l=true-> ∀v∈l,(1<=v.1∧v.1<=3000)∧ -60<=v.2∧v.2<=60
 | [],_,_,_,_,hv=>by cases hv
 |q::l,p,hp,h,v,hv=>by
  unfold varsGo inB at h
  simp only[Bool.and_eq_true,decide_eq_true_eq]at h
  obtain⟨⟨h1,h2⟩,h3⟩:=h
  rcases List.mem_cons.1 hv with e|hv
  ·subst e;omega
  ·exact varsGo_all l q.1 (by omega) h3 v hv
theorem vars_all {l:List (Int×Int)}(h:vars l=0): ∀v∈l,(1<=v.1∧v.1<=3000)∧ -60<=v.2∧v.2<=60:=by
 unfold vars err at h
 split at h
 ·omega
 ·split at h
  ·rename_i h1;exact varsGo_all l 0 (Int.le_refl _) h1
  ·omega
end Pl
namespace Pl
theorem cut_app (sep:UInt8)(b:List UInt8): ∀a:List UInt8,sep∉a->cutAt sep (a++sep::b)=a::cutAt sep b
 | [],_=>by simp[cutAt]
 | x::a,h=>by
  have hx:x≠sep:=fun e=>h (by simp[e])
  have ih:=cut_app sep b a (fun hm=>h (by simp[hm]))
  have e:cutAt sep (x::(a++sep::b))=(x::a)::cutAt sep b:=by
   rw[cutAt,if_neg hx,ih]
  exact e
theorem cut_plain (sep:UInt8): ∀a:List UInt8,sep∉a->cutAt sep a=[a]
 | [],_=>rfl
 |x::a,h=>by
  have hx:x≠sep:=fun e=>h (by simp[e])
  have ih:=cut_plain sep a (fun hm=>h (by simp[hm]))
  unfold cutAt
  rw[if_neg hx,ih]
theorem join_one (x:List UInt8):Lib.join [x] [32]=x:=by simp[Lib.join_cons,Lib.joinTail]
theorem cut_join : ∀ws:List (List UInt8),ws≠ []->(∀w∈ws,(32:UInt8)∉w)->cutAt 32 (Lib.join ws [32])=ws
 | [],h,_=>absurd rfl h
 | [x],_,h=>by rw[join_one,cut_plain 32 x (h x (by simp))]
 |x::y::r,_,h=>by
  rw[join_two,cut_app 32 _ x (h x (by simp)),cut_join (y::r) (by simp) (fun w hw=>h w (by simp only[List.mem_cons]at hw ⊢;exact .inr hw))]
theorem join_cut (l:List UInt8):Lib.join (cutAt 32 l) [32]=l:=by
 induction l with
 |nil=>rfl
 | cons b l ih=>
  unfold cutAt
  split
  ·rename_i h;subst h
   cases e:cutAt 32 l with
   |nil=>exact absurd e (cutAt_ne _ _)
   |cons w ws=>rw[join_two,<-e,ih];rfl
  ·cases e:cutAt 32 l with
   |nil=>exact absurd e (cutAt_ne _ _)
   |cons w ws=>
    rw[e]at ih
    simp only
    cases ws with
    |nil=>rw[join_one]at ih ⊢;rw[ih]
    |cons y r=>rw[join_two]at ih ⊢;rw[<-ih];rfl
def plainL (l:List UInt8):Bool:= !l.isEmpty&&(l.all fun b=>b !=32&&(b !=35&&b !=10))
theorem plainL_iff {l:List UInt8}:plainL l=true↔l≠ []∧(32:UInt8)∉l∧(35:UInt8)∉l∧(10:UInt8)∉l:=by
 unfold plainL
 rw[Bool.and_eq_true,List.all_eq_true]
 constructor
 ·rintro⟨h1,h2⟩
  refine⟨by simpa using h1,fun h=> ?_,fun h=> ?_,fun h=> ?_⟩<;>exact absurd (h2 _ h) (by decide)
 ·rintro⟨h1,h2,h3,h4⟩
  refine⟨by simpa using h1,fun b hb=> ?_⟩
  have a1:b≠32:=fun e=>h2 (e▸hb)
  have a2:b≠35:=fun e=>h3 (e▸hb)
  have a3:b≠10:=fun e=>h4 (e▸hb)
  simp[a1,a2,a3]
theorem join_mem {c:UInt8}: ∀ {ws:List (List UInt8)},c∈Lib.join ws [32]->c=32∨ ∃w∈ws,c∈w
 | [],h=>by simp[Lib.join_nil]at h
 | [x],h=>by rw[join_one]at h;exact .inr ⟨x,by simp,h⟩
 | x::y::r,h=>by
  rw[join_two,List.mem_append,List.mem_cons]at h
  rcases h with h|h|h
  ·exact .inr ⟨x,by simp,h⟩
  ·exact .inl h
  ·rcases join_mem h with e|⟨w,hw,h⟩
   ·exact .inl e
   ·exact .inr ⟨w,List.mem_cons_of_mem _ hw,h⟩
theorem ahead_all {l:List UInt8}(h:(35:UInt8)∉l):ahead l=l:=by
 unfold ahead
 induction l with
 |nil=>rfl
 |cons b l ih=>
  have hb:b≠35:=fun e=>h (by simp[e])
  rw[List.takeWhile_cons,if_pos (by simpa using hb),ih (fun hm=>h (by simp[hm]))]
theorem solid_all {ws:List (List UInt8)}(h: ∀w∈ws,w≠ []):solid ws=ws:=by
 unfold solid
 rw[List.filter_eq_self]
 intro w hw
 simpa using h w hw
theorem mkB_list (s:ByteArray):mkB s.data.toList=s:=by cases s;rfl
theorem words_join {ws:List ByteArray}(hne:ws≠ [])(h: ∀w∈ws,plainL w.data.toList=true):wordsB (joinB ws)=ws:=by
 have h': ∀l∈ws.map (·.data.toList),plainL l=true:=by
  intro l hl
  obtain⟨w,hw,rfl⟩:=List.mem_map.1 hl
  exact h w hw
 unfold wordsB wordsOf joinB mkB
 simp only
 rw[ahead_all,cut_join _ (by simpa using hne) (fun w hw=>(plainL_iff.1 (h' w hw)).2.1),solid_all (fun w hw=>(plainL_iff.1 (h' w hw)).1),List.map_map]
 ·conv=>rhs;rw[<-List.map_id ws]
  apply List.map_congr_left
  intro w _
  exact mkB_list w
 ·intro hm
  rcases join_mem hm with e|⟨w,hw,hc⟩
  ·exact absurd e (by decide)
  ·exact(plainL_iff.1 (h' w hw)).2.2.1 hc
theorem join_app : ∀ {xs ys:List (List UInt8)},xs≠ []->ys≠ []->Lib.join (xs++ys) [32]=Lib.join xs [32]++32::Lib.join ys [32]
 | [],_,h,_=>absurd rfl h
 | [x],y::r,_,_=>by rw[List.singleton_append,join_two,join_one]
 | [x],[],_,h=>absurd rfl h
 |x::y::r,ys,_,h=>by
  have ih:=join_app (xs:=y::r) (ys:=ys) (by simp) h
  rw[List.cons_append,List.cons_append,join_two,join_two,<-List.cons_append,ih]
  simp
theorem join_flat : ∀ {xss:List (List (List UInt8))},(∀xs∈xss,xs≠ [])->Lib.join (xss.map fun xs=>Lib.join xs [32]) [32]=Lib.join xss.flatten [32]
 | [],_=>rfl
 | [xs],_=>by simp[join_one]
 | xs::ys::r,h=>by
  have ih:=join_flat (xss:=ys::r) (fun zs hz=>h zs (List.mem_cons_of_mem _ hz))
  have hne:(ys::r).flatten≠ []:=by
   have:=h ys (by simp)
   intro e
   rw[List.flatten_cons]at e
   exact this (List.append_eq_nil_iff.1 e).1
  rw[List.map_cons,List.map_cons,join_two,<-List.map_cons (f:=fun xs=>Lib.join xs [32]),ih,List.flatten_cons (l:=xs),join_app (h xs (by simp)) hne]
theorem joinB_flat {xss:List (List ByteArray)}(h: ∀xs∈xss,xs≠ []):joinB (xss.map joinB)=joinB xss.flatten:=by
 unfold joinB mkB
 congr 2
 rw[List.map_map,List.map_flatten]
 have:=join_flat (xss:=xss.map fun xs=>xs.map (·.data.toList)) (by
  intro xs hx
  obtain⟨ys,hy,rfl⟩:=List.mem_map.1 hx
  simpa using h ys hy)
 rw[List.map_map]at this
 exact this
theorem joinB_one (w:ByteArray):joinB [w]=w:=by
 unfold joinB
 rw[List.map_singleton,join_one]
 exact mkB_list w
/-! ### Words that are plain -/
theorem nameC_plain {b:UInt8}(h:nameC b=true):b≠32∧b≠35∧b≠10:=by
 refine⟨fun e=> ?_,fun e=> ?_,fun e=> ?_⟩<;>(subst e;exact absurd h (by decide))
theorem name_plain {s:ByteArray}(h:isName s=true):plainL s.data.toList=true:=by
 unfold isName at h
 split at h
 ·cases h
 ·rename_i b l hl
  rw[hl]
  simp only[Bool.and_eq_true,decide_eq_true_eq]at h
  obtain⟨⟨⟨h1,h2⟩,_⟩,h3⟩:=h
  have hb:=nameC_plain (nameC_letter ⟨h1,h2⟩)
  unfold plainL
  rw[Bool.and_eq_true]
  refine⟨rfl,?_⟩
  rw[List.all_eq_true]
  intro c hc
  rcases List.mem_cons.1 hc with e|hc
  ·subst e;simp[hb.1,hb.2.1,hb.2.2]
  ·have:=nameC_plain (List.all_eq_true.1 h3 c hc)
   simp[this.1,this.2.1,this.2.2]
theorem dec_plain (u:Nat): ∀c∈Lib.decDigits u,c≠32∧c≠35∧c≠10:=by
 intro c hc
 have:=dec_digit u c hc
 refine⟨fun e=> ?_,fun e=> ?_,fun e=> ?_⟩<;>(subst e;exact absurd this.1 (by decide))
theorem spelt_ok (k:Int):plainL (spelt k).data.toList=true:=by
 rw[spelt_list]
 unfold plainL
 rw[Bool.and_eq_true,List.all_eq_true]
 unfold Lib.itoa
 split
 ·refine⟨rfl,fun c hc=> ?_⟩
  rcases List.mem_cons.1 hc with e|hc
  ·subst e;rfl
  ·have:=dec_plain _ c hc
   simp[this.1,this.2.1,this.2.2]
 ·refine⟨by have:=dec_ne k.toNat;simpa using this,fun c hc=> ?_⟩
  have:=dec_plain _ c hc
  simp[this.1,this.2.1,this.2.2]
def quadB (d:Int):ByteArray:=⟨(quad d).toArray⟩
def quadW (d:Int):List ByteArray:=(cutAt 32 (quad d)).map mkB
theorem quad_facts : ∀d:Fin 360,((cutAt 32 (quad (d.1:Int))).all plainL&&decide ((cutAt 32 (quad (d.1:Int))).length<=3)&& !((cutAt 32 (quad (d.1:Int))).contains [103,105,118,101]))=true:=by decide+kernel
theorem quadW_ok {d:Int}(h0:0<=d)(h1:d<=359):(∀w∈quadW d,plainL w.data.toList=true)∧(quadW d).length<=3∧wGive∉quadW d∧quadW d≠ []∧joinB (quadW d)=quadB d:=by
 have h:=quad_facts ⟨d.toNat,by omega⟩
 simp only[Int.toNat_of_nonneg h0,Bool.and_eq_true,List.all_eq_true,decide_eq_true_eq,Bool.not_eq_true',List.contains_eq_mem,decide_eq_false_iff_not]at h
 obtain⟨⟨h1,h2⟩,h3⟩:=h
 have hm:(quadW d).map (·.data.toList)=cutAt 32 (quad d):=by
  unfold quadW
  rw[List.map_map]
  conv=>rhs;rw[<-List.map_id (cutAt 32 (quad d))]
  apply List.map_congr_left
  intro l _
  simp[mkB]
 refine⟨fun w hw=> ?_,by unfold quadW;rw[List.length_map];exact h2,fun hw=> ?_,?_,?_⟩
 ·exact h1 _ (by rw[<-hm];exact List.mem_map_of_mem hw)
 ·refine h3 ?_
  rw[<-hm]
  exact List.mem_map.2 ⟨_,hw,rfl⟩
 ·intro e
  unfold quadW at e
  exact cutAt_ne _ _ (List.map_eq_nil_iff.1 e)
 ·unfold joinB
  rw[hm,join_cut]
  rfl
theorem unit_plain : ∀u∈poles,plainL u.2.1.data.toList=true∧plainL u.2.2.data.toList=true∧u.2.1≠wBy∧u.2.2≠wBy:=by decide+kernel
theorem spelt_by (k:Int):spelt k≠wBy:=by
 intro e
 have h:Lib.itoa k=[98,121]:=by rw[<-spelt_list,e];rfl
 unfold Lib.itoa at h
 split at h
 ·cases h
 ·have:=dec_digit k.toNat 98 (by rw[h];simp)
  exact absurd this.2 (by decide)
theorem namedL_words : ∀(us:List Unit),(∀u∈us,plainL u.2.1.data.toList=true∧plainL u.2.2.data.toList=true∧u.2.1≠wBy∧u.2.2≠wBy)-> ∀c,∀w∈namedL c us,plainL w.data.toList=true∧w≠wBy
 | [],_,c,w,hw=>by simp[namedL]at hw
 | u ::us,h,c,w,hw=>by
  simp only[namedL,List.mem_append]at hw
  rcases hw with hw|hw
  ·split at hw
   ·simp only[List.mem_cons,List.not_mem_nil,or_false]at hw
    obtain⟨a,b,c',d⟩:=h u (by simp)
    rcases hw with rfl|rfl
    ·exact⟨spelt_ok _,spelt_by _⟩
    ·unfold word;split
     ·exact⟨a,c'⟩
     ·exact⟨b,d⟩
   ·simp at hw
  ·exact namedL_words us (fun v hv=>h v (by simp[hv])) _ w hw
theorem lengthW_ok {n:Int}(h0:1<=n)(h1:n<=100000):(∀w∈namedL n poles,plainL w.data.toList=true∧w≠wBy)∧(namedL n poles).length<=6∧namedL n poles≠ []∧joinB (namedL n poles)=lengthV n:=by
 have hne:namedL n poles≠ []:=by
  intro hn
  have:=namedL_zero (by omega) (us:=poles) (fun u hu=>(good_poles u hu).1) hn
  rw[end_poles]at this
  omega
 refine⟨namedL_words poles unit_plain n,namedL_len n poles,hne,?_⟩
 rw[lengthV_in (by omega) (by omega)]
 unfold named
 rw[if_neg hne]
 rfl
end Pl
namespace Pl
def callX (f:Fld)(c:Cal):List (List ByteArray):=
 if c.kind=1 then [[wStone],[liN f c.lim],[stN f c.fr],[spelt c.size],[spelt c.er]]
 else if c.kind=2 then [[wWidth],[liN f c.lim],[liN f c.oth],[stN f c.fr],[spelt c.size],[spelt c.er]]
 else if c.kind=3 then [[wCourse],[liN f c.lim],[stN f c.fr],[stN f c.till],namedL c.crs.l poles,[wBy],quadW c.crs.b,[wGive],[spelt c.crs.n],[wWear],[spelt c.crs.x],[wSlack],[spelt c.crs.s]]
 else if c.kind=4 then [[wAlong],[liN f c.lim],[liN f c.oth],[stN f c.fr],[stN f c.till]]
 else [[wLevel],[liN f c.lim],[stN f c.fr],[stN f c.till],[spelt c.size],[spelt c.er]]
def callW (f:Fld)(c:Cal):List ByteArray:=
 if c.kind=1 then [wStone,liN f c.lim,stN f c.fr,spelt c.size,spelt c.er]
 else if c.kind=2 then [wWidth,liN f c.lim,liN f c.oth,stN f c.fr,spelt c.size,spelt c.er]
 else if c.kind=3 then [wCourse,liN f c.lim,stN f c.fr,stN f c.till,lengthV c.crs.l,wBy,quadB c.crs.b,wGive,spelt c.crs.n,wWear,spelt c.crs.x,wSlack,spelt c.crs.s]
 else if c.kind=4 then [wAlong,liN f c.lim,liN f c.oth,stN f c.fr,stN f c.till]
 else [wLevel,liN f c.lim,stN f c.fr,stN f c.till,spelt c.size,spelt c.er]
def lineB (f:Fld)(c:Cal):ByteArray:=joinB (callW f c)
theorem crs_in {c:Crs}(h:c.ok=true):(0<=c.b∧c.b<=359)∧(1<=c.l∧c.l<=100000):=⟨(c.ok_iff h).1,(c.ok_iff h).2.2.1⟩
theorem callX_join {f:Fld}{c:Cal}(h:c.kind=3->c.crs.ok=true):(callX f c).map joinB=callW f c∧ ∀xs∈callX f c,xs≠ []:=by
 unfold callX callW
 by_cases h1:c.kind=1
 ·simp[h1,joinB_one]
 by_cases h2:c.kind=2
 ·simp[h2,joinB_one]
 by_cases h3:c.kind=3
 ·obtain⟨⟨b0,b1⟩,l0,l1⟩:=crs_in (h h3)
  obtain⟨_,_,q1,q2⟩:=quadW_ok b0 b1
  obtain⟨_,_,m1,m2⟩:=lengthW_ok l0 l1
  simp[h3,joinB_one,q2.1,q2.2,m1,m2]
 by_cases h4:c.kind=4
 ·simp[h4,joinB_one]
 simp[h1,h2,h3,h4,joinB_one]
theorem liN_name {f:Fld}(h:FieldOk f){i:Int}(hi:inN i f.li.length):liN f i∈f.li∧isName (liN f i)=true∧limOf f (liN f i)=some i.toNat:=by
 unfold inN at hi
 have hlt:i.toNat<f.li.length:=by omega
 unfold liN limOf
 rw[List.getElem?_eq_getElem hlt]
 simp only
 refine⟨List.getElem_mem hlt,List.all_eq_true.1 h.ln _ (List.getElem_mem hlt),idx_hit hlt (fun j hj=> ?_) (by simp)⟩
 have:=List.pairwise_iff_getElem.1 h.l2 j i.toNat (by omega) hlt hj
 simpa using this
theorem stN_name {f:Fld}(h:FieldOk f){i:Int}(hi:inN i f.st.length):stN f i∈f.sn∧isName (stN f i)=true∧staOf f (stN f i)=some i.toNat:=by
 unfold inN at hi
 have hlt:i.toNat<f.st.length:=by omega
 unfold stN staOf
 rw[List.getElem?_eq_getElem hlt]
 simp only
 have hm:f.st[i.toNat].1∈f.sn:=List.mem_map_of_mem (List.getElem_mem hlt)
 refine⟨hm,List.all_eq_true.1 h.sn _ hm,idx_hit hlt (fun j hj=> ?_) (by simp)⟩
 have:=List.pairwise_iff_getElem.1 h.s2 j i.toNat (by unfold Fld.sn;simp;omega) (by unfold Fld.sn;simp;omega) hj
 unfold Fld.sn at this
 simpa using this
theorem tab_oth {S L:Nat}{c:Cal}(h:c.tab S L)(_hk:c.kind=2∨c.kind=4):inN c.oth L:=by
 obtain⟨h1,_,h⟩:=h
 unfold inN at*
 rcases h with h|h|h|h|h<;>omega
theorem tab_far {S L:Nat}{c:Cal}(h:c.tab S L)(_hk:c.kind=3∨c.kind=4∨c.kind=5):inN c.till S:=by
 obtain⟨_,h1,h⟩:=h
 unfold inN at*
 rcases h with h|h|h|h|h<;>omega
theorem tab_kind {S L:Nat}{c:Cal}(h:c.tab S L):c.kind=1∨c.kind=2∨c.kind=3∨c.kind=4∨c.kind=5:=by
 obtain⟨_,_,h⟩:=h
 rcases h with h|h|h|h|h<;>omega
theorem fixed_plain :plainL wStone.data.toList=true∧plainL wWidth.data.toList=true∧plainL wCourse.data.toList=true∧plainL wAlong.data.toList=true∧plainL wLevel.data.toList=true∧plainL wBy.data.toList=true∧plainL wGive.data.toList=true∧plainL wWear.data.toList=true∧plainL wSlack.data.toList=true:=by decide+kernel
theorem callX_plain {f:Fld}{c:Cal}(hf:FieldOk f)(ht:c.tab f.st.length f.li.length)(h:c.kind=3->c.crs.ok=true): ∀w∈(callX f c).flatten,plainL w.data.toList=true:=by
 obtain⟨p1,p2,p3,p4,p5,p6,p7,p8,p9⟩:=fixed_plain
 have a1:=name_plain (liN_name hf ht.1).2.1
 have a2:=name_plain (stN_name hf ht.2.1).2.1
 have a3:=spelt_ok
 unfold callX
 rcases tab_kind ht with hk|hk|hk|hk|hk
 ·simp[hk,a1,a2,a3,p1]
 ·have a4:=name_plain (liN_name hf (tab_oth ht (.inl hk))).2.1
  simp[hk,a1,a2,a3,a4,p2]
 ·have a4:=name_plain (stN_name hf (tab_far ht (.inl hk))).2.1
  obtain⟨⟨b0,b1⟩,l0,l1⟩:=crs_in (h hk)
  obtain⟨q1,_⟩:=quadW_ok b0 b1
  obtain⟨m1,_⟩:=lengthW_ok l0 l1
  intro w hw
  simp only[hk]at hw
  simp only[show ¬(3:Nat)=1 by decide,show ¬(3:Nat)=2 by decide,if_true,if_false,List.flatten_cons,List.flatten_nil,List.mem_append,List.append_nil,List.mem_cons,List.not_mem_nil,or_false]at hw
  rcases hw with e|e|e|e|e|e|e|e|e|e|e|e|e
  ·subst e;exact p3
  ·subst e;exact a1
  ·subst e;exact a2
  ·subst e;exact a4
  ·exact(m1 w e).1
  ·subst e;exact p6
  ·exact q1 w e
  ·subst e;exact p7
  ·subst e;exact a3 _
  ·subst e;exact p8
  ·subst e;exact a3 _
  ·subst e;exact p9
  ·subst e;exact a3 _
 ·have a4:=name_plain (liN_name hf (tab_oth ht (.inr hk))).2.1
  have a5:=name_plain (stN_name hf (tab_far ht (.inr (.inl hk)))).2.1
  simp[hk,a1,a2,a4,a5,p4]
 ·have a4:=name_plain (stN_name hf (tab_far ht (.inr (.inr hk)))).2.1
  simp[hk,a1,a2,a3,a4,p5]
theorem lineB_words {f:Fld}{c:Cal}(hf:FieldOk f)(ht:c.tab f.st.length f.li.length)(h:c.kind=3->c.crs.ok=true):wordsB (lineB f c)=(callX f c).flatten∧(10:UInt8)∉(lineB f c).data.toList:=by
 obtain⟨e1,e2⟩:=callX_join (f:=f) h
 have hp:=callX_plain hf ht h
 unfold lineB
 rw[<-e1,joinB_flat e2]
 refine⟨words_join ?_ hp,fun hm=> ?_⟩
 ·unfold callX
  rcases tab_kind ht with hk|hk|hk|hk|hk<;>simp[hk]
 ·unfold joinB mkB at hm
  simp only at hm
  rcases join_mem hm with e|⟨w,hw,hc⟩
  ·exact absurd e (by decide)
  ·obtain⟨v,hv,rfl⟩:=List.mem_map.1 hw
   exact(plainL_iff.1 (hp v hv)).2.2.2 hc
theorem numF_spelt {v:Int}(h0:0<=v)(h1:v<=999999999):numF (spelt v)=some v:=numF_iff.2 ⟨h0,h1,rfl⟩
theorem sgnV_spelt {v:Int}(h0: -999999999<=v)(h1:v<=999999999):sgnV (spelt v)=some v:=sgnV_iff.2 ⟨h0,h1,rfl⟩
theorem idx_app {α:Type}{p:α->Bool}{l r:List α}{x:α}(h: ∀y∈l,p y=false)(hx:p x=true):idx p (l++x::r)=some l.length:=by
 refine idx_hit (k:=l.length) (by simp) (fun j hj=> ?_) (by simpa using hx)
 rw[List.getElem_append_left hj]
 exact h _ (List.getElem_mem hj)
theorem upTo_app {k:ByteArray}{most:Nat}{l r:List ByteArray}(h:k∉l)(h1:l≠ [])(h2:l.length<=most):upTo k most (l++k::r)=some (joinB l,r):=by
 unfold upTo
 have hp:=List.length_pos_iff.2 h1
 rw[idx_app (fun y hy=>by have:y≠k:=fun e=>h (e▸hy);simpa using this) (by simp)]
 simp only[Option.bind_some]
 rw[if_pos ⟨by omega,h2⟩,List.take_left,List.drop_append,List.drop_of_length_le (by omega)]
 simp[show l.length+1-l.length=1 by omega]
theorem crsW_line {c:Crs}(h:c.ok=true):crsW (namedL c.l poles++wBy::(quadW c.b++wGive::[spelt c.n,wWear,spelt c.x,wSlack,spelt c.s]))=some {c with y:=0}:=by
 obtain⟨⟨b0,b1⟩,⟨n0,n1⟩,⟨l0,l1⟩,_,⟨x0,x1⟩,s0,s1⟩:=c.ok_iff h
 obtain⟨m1,m2,m3,m4⟩:=lengthW_ok l0 l1
 obtain⟨_,q2,q3,q4,q5⟩:=quadW_ok b0 b1
 unfold crsW
 rw[upTo_app (fun hm=>(m1 _ hm).2 rfl) m3 m2,m4]
 simp only[Option.bind_some]
 have hl:linksV (lengthV c.l)=some c.l:=by
  unfold linksV
  rw[links_back (by omega) (by omega)]
  simp[l0,l1]
 rw[hl]
 simp only[Option.bind_some]
 rw[upTo_app q3 q4 q2,q5]
 simp only[Option.bind_some]
 have hb:bearV (quadB c.b)=some c.b:=by
  have:=bear_back c.b
  rw[Int.emod_eq_of_lt b0 (by omega)]at this
  exact this
 rw[hb]
 simp only[Option.bind_some]
 rw[if_pos ⟨trivial,trivial⟩,numF_spelt n0 (by omega),sgnV_spelt (by omega) (by omega),numF_spelt s0 (by omega)]
 rfl
def frmOf (f:Fld)(c:Cal):Frm:=⟨c.kind,liN f c.lim,if c.kind=2∨c.kind=4 then liN f c.oth else ⟨#[]⟩,stN f c.fr,if c.kind=3∨c.kind=4∨c.kind=5 then stN f c.till else ⟨#[]⟩,c.size,c.er,if c.kind=3 then {c.crs with y:=0} else Crs.zero⟩
theorem words_ne :wWidth≠wStone∧wCourse≠wStone∧wCourse≠wWidth∧wAlong≠wStone∧wAlong≠wWidth∧wAlong≠wCourse∧wLevel≠wStone∧wLevel≠wWidth∧wLevel≠wCourse∧wLevel≠wAlong:=by decide+kernel
theorem form_line {f:Fld}{c:Cal}(hf:FieldOk f)(ht:c.tab f.st.length f.li.length)(h:c.kind=3->c.crs.ok=true):form (callX f c).flatten=some (frmOf f c):=by
 have a1:=(liN_name hf ht.1).2.1
 have a2:=(stN_name hf ht.2.1).2.1
 obtain⟨w1,w2,w3,w4,w5,w6,w7,w8,w9,w10⟩:=words_ne
 have ht3:=ht.2.2
 unfold callX frmOf
 rcases tab_kind ht with hk|hk|hk|hk|hk
 ·have:(0<=c.size∧c.size<=100000)∧0<=c.er∧c.er<=100000:=by omega
  simp[hk,form,a1,a2,numF_spelt this.1.1 (by omega),numF_spelt this.2.1 (by omega)]
 ·have a4:=(liN_name hf (tab_oth ht (.inl hk))).2.1
  have:(0<=c.size∧c.size<=100000)∧0<=c.er∧c.er<=100000:=by omega
  simp[hk,form,a1,a2,a4,w1,numF_spelt this.1.1 (by omega),numF_spelt this.2.1 (by omega)]
 ·have a4:=(stN_name hf (tab_far ht (.inl hk))).2.1
  have e1:c.size=0∧c.er=0:=by omega
  have hc:=crsW_line (h hk)
  simp[hk,form,a1,a2,a4,w2,w3,hc,e1.1,e1.2]
 ·have a4:=(liN_name hf (tab_oth ht (.inr hk))).2.1
  have a5:=(stN_name hf (tab_far ht (.inr (.inl hk)))).2.1
  have e1:c.size=0∧c.er=0:=by omega
  simp[hk,form,a1,a2,a4,a5,w4,w5,w6,e1.1,e1.2]
 ·have a4:=(stN_name hf (tab_far ht (.inr (.inr hk)))).2.1
  have:(-100000<=c.size∧c.size<=100000)∧0<=c.er∧c.er<=100000:=by omega
  simp[hk,form,a1,a2,a4,w7,w8,w9,w10,sgnV_spelt (show-999999999<=c.size by omega) (by omega),numF_spelt this.2.1 (by omega)]
theorem looked_line {f:Fld}{c:Cal}(hf:FieldOk f)(ht:c.tab f.st.length f.li.length){year:Int}(hy:c.kind=3->c.crs.y=year):looked f (frmOf f c) year=some c:=by
 have a1:=(liN_name hf ht.1).2.2
 have a2:=(stN_name hf ht.2.1).2.2
 have hl:=ht.1
 have hs:=ht.2.1
 have ht3:=ht.2.2
 have n1:((c.lim.toNat:Nat):Int)=c.lim:=Int.toNat_of_nonneg hl.1
 have n2:((c.fr.toNat:Nat):Int)=c.fr:=Int.toNat_of_nonneg hs.1
 unfold looked frmOf
 rcases tab_kind ht with hk|hk|hk|hk|hk
 ·have e:c.crs=Crs.zero∧c.oth=0∧c.till=0:=by
   rcases ht3 with h|h|h|h|h
   ·exact⟨h.2.1,h.2.2.1,h.2.2.2.1⟩
   all_goals omega
  obtain⟨e1,e2,e3⟩:=e
  simp only[hk]
  simp[a1,a2,n1,n2]
  cases c;simp_all
 ·have e:c.crs=Crs.zero∧c.till=0:=by
   rcases ht3 with h|h|h|h|h
   ·omega
   ·exact⟨h.2.1,h.2.2.2.1⟩
   all_goals omega
  obtain⟨e1,e3⟩:=e
  have a4:=(liN_name hf (tab_oth ht (.inl hk))).2.2
  have n3:((c.oth.toNat:Nat):Int)=c.oth:=Int.toNat_of_nonneg (tab_oth ht (.inl hk)).1
  simp only[hk]
  simp[a1,a2,a4,n1,n2,n3]
  cases c;simp_all
 ·have e:c.oth=0∧c.size=0∧c.er=0:=by omega
  obtain⟨e1,e2,e3⟩:=e
  have a4:=(stN_name hf (tab_far ht (.inl hk))).2.2
  have n3:((c.till.toNat:Nat):Int)=c.till:=Int.toNat_of_nonneg (tab_far ht (.inl hk)).1
  have e4:({c.crs with y:=year}:Crs)=c.crs:=by rw[<-hy hk]
  clear hy
  simp only[hk,if_true,e4]
  simp[a1,a2,a4,n1,n2,n3]
  cases c;simp_all
 ·have e:c.crs=Crs.zero∧c.size=0∧c.er=0:=by
   rcases ht3 with h|h|h|h|h
   ·omega
   ·omega
   ·omega
   ·exact⟨h.2.1,h.2.2.2.1,h.2.2.2.2.1⟩
   ·omega
  obtain⟨e1,e2,e3⟩:=e
  have a4:=(liN_name hf (tab_oth ht (.inr hk))).2.2
  have a5:=(stN_name hf (tab_far ht (.inr (.inl hk)))).2.2
  have n3:((c.oth.toNat:Nat):Int)=c.oth:=Int.toNat_of_nonneg (tab_oth ht (.inr hk)).1
  have n4:((c.till.toNat:Nat):Int)=c.till:=Int.toNat_of_nonneg (tab_far ht (.inr (.inl hk))).1
  simp only[hk]
  simp[a1,a2,a4,a5,n1,n2,n3,n4]
  cases c;simp_all
 ·have e:c.crs=Crs.zero∧c.oth=0:=by
   rcases ht3 with h|h|h|h|h
   ·omega
   ·omega
   ·omega
   ·omega
   ·exact⟨h.2.1,h.2.2.1⟩
  obtain⟨e1,e2⟩:=e
  have a4:=(stN_name hf (tab_far ht (.inr (.inr hk)))).2.2
  have n3:((c.till.toNat:Nat):Int)=c.till:=Int.toNat_of_nonneg (tab_far ht (.inr (.inr hk))).1
  simp only[hk]
  simp[a1,a2,a4,n1,n2,n3]
  cases c;simp_all
theorem read_line {f:Fld}{c:Cal}(hf:fieldE f=0)(hc:callE f c=0){year:Int}(y0:1<=year)(y1:year<=3000)(hy:c.kind=3->c.crs.y=year):readCall f (lineB f c) year=.ok c:=by
 have hok:=fieldE_ok hf
 have ht:=callE_tab hc
 have h3:c.kind=3->c.crs.ok=true:=fun hk=>(callE_three hc hk).1
 obtain⟨e1,e2⟩:=lineB_words hok ht h3
 unfold readCall
 rw[if_neg (fun h=>h hf),if_neg (by omega),if_neg e2,e1,form_line hok ht h3]
 simp only
 unfold madeC
 rw[looked_line hok ht hy]
 simp only
 rw[if_pos hc]
end Pl
namespace Pl
def allW (f:Fld):List (List ByteArray):=f.st.map staW++(f.li.map limW++(f.pa.map (parW f)++f.va.map varW))
theorem prn_all {α:Type}(g:α->List ByteArray)(l:List α):prn g l l.length=(l.map g).flatMap lineL:=by
 unfold prn
 rw[List.take_length,List.flatMap_map]
theorem printL_all (f:Fld):printL f=(allW f).flatMap lineL:=by
 unfold printL allW
 rw[prn_all,prn_all,prn_all,prn_all,List.flatMap_append,List.flatMap_append,List.flatMap_append]
 simp
theorem lines_of : ∀ {wss:List (List ByteArray)},(∀ws∈wss,∀w∈ws,plainL w.data.toList=true)->linesOf (wss.flatMap lineL)=wss.map (fun ws=>Lib.join (ws.map (·.data.toList)) [32])++[[]]
 | [],_=>rfl
 | ws::r,h=>by
  have ih:=lines_of (wss:=r) (fun xs hx=>h xs (List.mem_cons_of_mem _ hx))
  unfold linesOf at ih ⊢
  rw[List.flatMap_cons]
  unfold lineL at ih ⊢
  rw[List.append_assoc,List.singleton_append,cut_app 10,ih]
  ·rfl
  ·intro hm
   rcases join_mem hm with e|⟨w,hw,hc⟩
   ·exact absurd e (by decide)
   ·obtain⟨v,hv,rfl⟩:=List.mem_map.1 hw
    exact(plainL_iff.1 (h ws (by simp) v hv)).2.2.2 hc
theorem lines_words {wss:List (List ByteArray)}(h: ∀ws∈wss,ws≠ []∧ ∀w∈ws,plainL w.data.toList=true):(linesB (mkB (wss.flatMap lineL))).map wordsB=wss++[[]]:=by
 unfold linesB
 have e:(mkB (wss.flatMap lineL)).data.toList=wss.flatMap lineL:=by simp[mkB]
 rw[e,lines_of (fun ws hw=>(h ws hw).2),List.map_append,List.map_append,List.map_map,List.map_map]
 congr 1
 conv=>rhs;rw[<-List.map_id wss]
 apply List.map_congr_left
 intro ws hw
 obtain⟨h1,h2⟩:=h ws hw
 exact words_join h1 h2
theorem fixed_plain2 :plainL wStation.data.toList=true∧plainL wLimit.data.toList=true∧plainL wParcel.data.toList=true∧plainL wVariation.data.toList=true∧plainL wDeed.data.toList=true∧wVariation≠wStation:=by decide+kernel
theorem allW_plain {f:Fld}(hf:FieldOk f): ∀ws∈allW f,ws≠ []∧ ∀w∈ws,plainL w.data.toList=true:=by
 obtain⟨p1,p2,p3,p4,_,_⟩:=fixed_plain2
 have a3:=spelt_ok
 intro ws hw
 unfold allW at hw
 rcases List.mem_append.1 hw with hw|hw
 ·obtain⟨s,hs,rfl⟩:=List.mem_map.1 hw
  have:=name_plain (List.all_eq_true.1 hf.sn s.1 (List.mem_map_of_mem hs))
  simp[staW,p1,a3,this]
 rcases List.mem_append.1 hw with hw|hw
 ·obtain⟨s,hs,rfl⟩:=List.mem_map.1 hw
  have:=name_plain (List.all_eq_true.1 hf.ln s hs)
  simp[limW,p2,this]
 rcases List.mem_append.1 hw with hw|hw
 ·obtain⟨p,hp,rfl⟩:=List.mem_map.1 hw
  have h1:=name_plain (List.all_eq_true.1 hf.pn p.name (List.mem_map_of_mem hp))
  have hin:=parIn_all (hf.par p hp)
  have h2:=name_plain (liN_name hf (i:=p.south) (by unfold inN;omega)).2.1
  have h3:=name_plain (stN_name hf (i:=p.fr) (by unfold inN;omega)).2.1
  have h4:=name_plain (stN_name hf (i:=p.till) (by unfold inN;omega)).2.1
  simp[parW,p3,h1,h2,h3,h4]
 ·obtain⟨v,hv,rfl⟩:=List.mem_map.1 hw
  simp[varW,p4,a3]
theorem go_line {g g':Fld}{n:Nat}{w:List ByteArray}{r:List (List ByteArray)}(h:w≠ [])(hl:fieldLine g w=.ok g'):fieldGo g n (w::r)=fieldGo g' (n+1) r:=by
 rw[fieldGo,if_neg h,hl]
theorem go_sta : ∀(l:List (ByteArray×Int)) (g:Fld) (n:Nat) (r:List (List ByteArray)),(∀s∈l,isName s.1=true∧0<=s.2∧s.2<=100000)->fieldGo g n (l.map staW++r)=fieldGo {g with st:=g.st++l} (n+l.length) r
 | [],g,n,r,_=>by simp
 | s::l,g,n,r,h=>by
  obtain⟨h1,h2,h3⟩:=h s (by simp)
  have hl:fieldLine g (staW s)=.ok {g with st:=g.st++[s]}:=by
   unfold fieldLine staW item
   simp[h1,numF_spelt h2 (show s.2<=999999999 by omega),added]
  rw[List.map_cons,List.cons_append,go_line (by simp[staW]) hl,go_sta l _ _ _ (fun t ht=>h t (by simp[ht]))]
  simp[Nat.add_assoc,Nat.add_comm 1]
theorem go_lim : ∀(l:List ByteArray) (g:Fld) (n:Nat) (r:List (List ByteArray)),(∀s∈l,isName s=true)->fieldGo g n (l.map limW++r)=fieldGo {g with li:=g.li++l} (n+l.length) r
 | [],g,n,r,_=>by simp
 | s::l,g,n,r,h=>by
  have h1:=h s (by simp)
  have hl:fieldLine g (limW s)=.ok {g with li:=g.li++[s]}:=by
   unfold fieldLine limW item
   simp[h1,added]
  rw[List.map_cons,List.cons_append,go_line (by simp[limW]) hl,go_lim l _ _ _ (fun t ht=>h t (by simp[ht]))]
  simp[Nat.add_assoc,Nat.add_comm 1]
theorem go_par {f:Fld}(hf:FieldOk f): ∀(l:List Par) (g:Fld) (n:Nat) (r:List (List ByteArray)),g.st=f.st->g.li=f.li->(∀p∈l,p∈f.pa)->fieldGo g n (l.map (parW f)++r)=fieldGo {g with pa:=g.pa++l} (n+l.length) r
 | [],g,n,r,_,_,_=>by simp
 | p::l,g,n,r,e1,e2,h=>by
  have hp:=h p (by simp)
  have h1:=List.all_eq_true.1 hf.pn p.name (List.mem_map_of_mem hp)
  have hin:=parIn_all (hf.par p hp)
  obtain⟨_,h2,h2'⟩:=liN_name hf (i:=p.south) (by unfold inN;omega)
  obtain⟨_,h3,h3'⟩:=stN_name hf (i:=p.fr) (by unfold inN;omega)
  obtain⟨_,h4,h4'⟩:=stN_name hf (i:=p.till) (by unfold inN;omega)
  unfold limOf at h2'
  unfold staOf at h3' h4'
  have n1:max p.south 0=p.south:=by omega
  have n2:max p.fr 0=p.fr:=by omega
  have n3:max p.till 0=p.till:=by omega
  have hl:fieldLine g (parW f p)=.ok {g with pa:=g.pa++[p]}:=by
   unfold fieldLine parW item
   simp only[h1,h2,h3,h4,and_self,if_true]
   simp only[added,e1,e2,h2',h3',h4']
   rw[if_pos (by omega)]
   cases p
   simp_all
  rw[List.map_cons,List.cons_append,go_line (by simp[parW]) hl,go_par hf l {g with pa:=g.pa++[p]} _ _ e1 e2 (fun q hq=>h q (by simp[hq]))]
  simp[Nat.add_assoc,Nat.add_comm 1]
theorem go_var : ∀(l:List (Int×Int)) (g:Fld) (n:Nat) (r:List (List ByteArray)),(∀v∈l,(1<=v.1∧v.1<=3000)∧ -60<=v.2∧v.2<=60)->fieldGo g n (l.map varW++r)=fieldGo {g with va:=g.va++l} (n+l.length) r
 | [],g,n,r,_=>by simp
 | v::l,g,n,r,h=>by
  obtain⟨⟨h1,h2⟩,h3,h4⟩:=h v (by simp)
  have hne:=fixed_plain2.2.2.2.2.2
  have hl:fieldLine g (varW v)=.ok {g with va:=g.va++[v]}:=by
   unfold fieldLine varW item
   simp[hne,numF_spelt (show 0<=v.1 by omega) (by omega),sgnV_spelt (show-999999999<=v.2 by omega) (by omega),added]
  rw[List.map_cons,List.cons_append,go_line (by simp[varW]) hl,go_var l _ _ _ (fun t ht=>h t (by simp[ht]))]
  simp[Nat.add_assoc,Nat.add_comm 1]
theorem name_24 {s:ByteArray}(h:isName s=true):s.data.toList.length<=24:=by rw[list_size];exact(isName_size h).2
theorem spelt_10 {k:Int}(h0: -99999999<=k)(h1:k<=99999999):(spelt k).data.toList.length<=21:=by
 rw[spelt_list]
 exact Lib.itoa_length_le k (by omega) (by omega)
theorem lens_all {n:Nat}: ∀(wss:List (List ByteArray)),(∀ws∈wss,(lineL ws).length<=n)->(wss.flatMap lineL).length<=n*wss.length
 | [],_=>by simp
 |ws::r,h=>by
  have ih:=lens_all r (fun xs hx=>h xs (List.mem_cons_of_mem _ hx))
  have:=h ws (by simp)
  rw[List.flatMap_cons,List.length_append,List.length_cons,Nat.mul_add]
  omega
theorem line_len {ws:List ByteArray}(h: ∀w∈ws,w.data.toList.length<=24)(h5:ws.length<=5):(lineL ws).length<=126:=by
 unfold lineL
 have:=join_le (N:=24) [32] (xs:=ws.map (·.data.toList)) (by
  intro x hx
  obtain⟨w,hw,rfl⟩:=List.mem_map.1 hx
  exact h w hw)
 simp at this ⊢
 omega
theorem printB_size {f:Fld}(hf:FieldOk f):(printL f).length<=20000:=by
 rw[printL_all]
 have hva:=vars_all hf.va
 have hvl:f.va.length<=40:=by
  have:=hf.va
  unfold vars at this
  split at this
  ·omega
  ·omega
 have hl: ∀ws∈allW f,(lineL ws).length<=126:=by
  have f1:wStation.data.toList.length<=24∧wLimit.data.toList.length<=24∧wParcel.data.toList.length<=24∧wVariation.data.toList.length<=24:=by decide+kernel
  obtain⟨f1,f2,f3,f4⟩:=f1
  intro ws hw
  unfold allW at hw
  rcases List.mem_append.1 hw with hw|hw
  ·obtain⟨s,hs,rfl⟩:=List.mem_map.1 hw
   have:=name_24 (List.all_eq_true.1 hf.sn s.1 (List.mem_map_of_mem hs))
   obtain⟨x0,x1⟩:=hf.x s hs
   have h2:=spelt_10 (k:=s.2) (by omega) (by omega)
   refine line_len (fun w hw=> ?_) (by simp[staW])
   simp only[staW,List.mem_cons,List.not_mem_nil,or_false]at hw
   rcases hw with rfl|rfl|rfl<;>omega
  rcases List.mem_append.1 hw with hw|hw
  ·obtain⟨s,hs,rfl⟩:=List.mem_map.1 hw
   have:=name_24 (List.all_eq_true.1 hf.ln s hs)
   refine line_len (fun w hw=> ?_) (by simp[limW])
   simp only[limW,List.mem_cons,List.not_mem_nil,or_false]at hw
   rcases hw with rfl|rfl<;>omega
  rcases List.mem_append.1 hw with hw|hw
  ·obtain⟨p,hp,rfl⟩:=List.mem_map.1 hw
   have h1:=name_24 (List.all_eq_true.1 hf.pn p.name (List.mem_map_of_mem hp))
   have hin:=parIn_all (hf.par p hp)
   have h2:=name_24 (liN_name hf (i:=p.south) (by unfold inN;omega)).2.1
   have h3:=name_24 (stN_name hf (i:=p.fr) (by unfold inN;omega)).2.1
   have h4:=name_24 (stN_name hf (i:=p.till) (by unfold inN;omega)).2.1
   refine line_len (fun w hw=> ?_) (by simp[parW])
   simp only[parW,List.mem_cons,List.not_mem_nil,or_false]at hw
   rcases hw with rfl|rfl|rfl|rfl|rfl<;>omega
  ·obtain⟨v,hv,rfl⟩:=List.mem_map.1 hw
   obtain⟨⟨y0,y1⟩,e0,e1⟩:=hva v hv
   have h1:=spelt_10 (k:=v.1) (by omega) (by omega)
   have h2:=spelt_10 (k:=v.2) (by omega) (by omega)
   refine line_len (fun w hw=> ?_) (by simp[varW])
   simp only[varW,List.mem_cons,List.not_mem_nil,or_false]at hw
   rcases hw with rfl|rfl|rfl<;>omega
 have:=lens_all _ hl
 have hn:(allW f).length<=102:=by
  unfold allW
  have:=hf.st12
  have:=hf.li10
  have:=hf.pa40
  simp only[List.length_append,List.length_map]
  omega
 have:126*(allW f).length<=126*102:=Nat.mul_le_mul_left _ hn
 omega
theorem field_back {f:Fld}(h:fieldE f=0):parseField (printB f)=(f,0,0):=by
 have hf:=fieldE_ok h
 have hs:=printB_size hf
 unfold parseField printB
 rw[if_pos h]
 have e:(⟨(printL f).toArray⟩:ByteArray)=mkB (printL f):=rfl
 rw[e,if_neg (by
  have:(mkB (printL f)).size=(printL f).length:=by unfold mkB ByteArray.size;simp
  omega),printL_all,lines_words (allW_plain hf)]
 unfold allW
 rw[List.append_assoc,List.append_assoc,List.append_assoc,go_sta _ _ _ _ (fun s hs=>⟨List.all_eq_true.1 hf.sn s.1 (List.mem_map_of_mem hs),hf.x s hs⟩),go_lim _ _ _ _ (fun s hs=>List.all_eq_true.1 hf.ln s hs)]
 rw[go_par hf _ _ _ _ (by simp[Fld.none]) (by simp[Fld.none]) (fun p hp=>hp),go_var _ _ _ _ (vars_all hf.va)]
 simp only[Fld.none,List.nil_append]
 rw[fieldGo,if_pos rfl,fieldGo,if_pos h]
end Pl
namespace Pl
noncomputable def callsE (f:Fld)(year:Int):List Cal->Int
 | []=>0
 |c::l=>if callE f c≠0 then callE f c else if c.kind=3∧c.crs.y≠year then 1 else callsE f year l
def datedB (y r:Int):Bool:=inB y 1 3000&&inB r 0 1000
noncomputable def dedE (f:Fld)(d:Ded):Int:=
 if 20<d.calls.length then 2 else if isName d.name=false then 4 else if datedB d.year d.rank=false then 1 else callsE f d.year d.calls
noncomputable def dedsGo (f:Fld)(done:List ByteArray):List Ded->Int
 | []=>0
 |d::l=>if dedE f d≠0 then dedE f d else if done.any (fun x=>decide (x=d.name))=true then 6 else dedsGo f (done++[d.name]) l
noncomputable def deedsE (f:Fld)(l:List Ded):Int:=if fieldE f=0 then (if 60<l.length then 2 else dedsGo f [] l)else fieldE f
theorem callsE_ok {f:Fld}{y:Int}: ∀ {l:List Cal},callsE f y l=0-> ∀c∈l,callE f c=0∧(c.kind=3->c.crs.y=y)
 | [],_,c,hc=>by cases hc
 | c::l,h,d,hd=>by
  unfold callsE at h
  split at h
  ·exact absurd h ‹_›
  rename_i h1
  split at h
  ·cases h
  rename_i h2
  rcases List.mem_cons.1 hd with e|hd
  ·subst e
   exact⟨by simpa using h1,fun hk=>by simpa [hk]using h2⟩
  ·exact callsE_ok h d hd
structure DedOk (f:Fld)(d:Ded):Prop where
 few:d.calls.length<=20
 name:isName d.name=true
 year:1<=d.year∧d.year<=3000
 rank:0<=d.rank∧d.rank<=1000
 calls: ∀c∈d.calls,callE f c=0∧(c.kind=3->c.crs.y=d.year)
theorem dedE_ok {f:Fld}{d:Ded}(h:dedE f d=0):DedOk f d:=by
 unfold dedE at h
 split at h
 ·cases h
 rename_i h1
 split at h
 ·cases h
 rename_i h2
 split at h
 ·cases h
 rename_i h3
 unfold datedB inB at h3
 simp at h3
 exact⟨by omega,by simpa using h2,by omega,by omega,callsE_ok h⟩
theorem dedsGo_ok {f:Fld}: ∀ {l:List Ded} {done:List ByteArray},dedsGo f done l=0->(∀d∈l,DedOk f d)∧(l.map Ded.name).Nodup∧ ∀d∈l,d.name∉done
 | [],_,_=>by simp
 | d::l,done,h=>by
  unfold dedsGo at h
  split at h
  ·exact absurd h ‹_›
  rename_i h1
  split at h
  ·cases h
  rename_i h2
  obtain⟨a,b,c⟩:=dedsGo_ok h
  have hd:d.name∉done:=by
   intro hm
   exact h2 (List.any_eq_true.2 ⟨_,hm,by simp⟩)
  refine⟨fun x hx=> ?_,?_,fun x hx=> ?_⟩
  ·rcases List.mem_cons.1 hx with e|hx
   ·subst e;exact dedE_ok (by simpa using h1)
   ·exact a x hx
  ·rw[List.map_cons,List.nodup_cons]
   refine⟨fun hm=> ?_,b⟩
   obtain⟨x,hx,e⟩:=List.mem_map.1 hm
   exact c x hx (by rw[e];simp)
  ·rcases List.mem_cons.1 hx with e|hx
   ·subst e;exact hd
   ·exact fun hm=>c x hx (by simp[hm])
def dedW (d:Ded):List ByteArray:=[wDeed,d.name,spelt d.year,spelt d.rank]
def deedsW (f:Fld)(l:List Ded):List (List ByteArray):=l.flatMap fun d=>dedW d::d.calls.map fun c=>(callX f c).flatten
def deedsL (f:Fld)(l:List Ded):List UInt8:=(deedsW f l).flatMap lineL
noncomputable def deedsB (f:Fld)(l:List Ded):ByteArray:=if deedsE f l=0 then mkB (deedsL f l)else ⟨#[]⟩
theorem line_text {f:Fld}{c:Cal}(h:c.kind=3->c.crs.ok=true):lineL (callX f c).flatten=(lineB f c).data.toList++[10]:=by
 obtain⟨e1,e2⟩:=callX_join (f:=f) h
 unfold lineB
 rw[<-e1,joinB_flat e2]
 unfold lineL joinB mkB
 simp
theorem dedW_plain {f:Fld}{d:Ded}(h:DedOk f d):dedW d≠ []∧ ∀w∈dedW d,plainL w.data.toList=true:=by
 have h1:=name_plain h.name
 have h2:=fixed_plain2.2.2.2.2.1
 have a3:=spelt_ok
 simp[dedW,h1,h2,a3]
theorem deedsW_plain {f:Fld}(hf:FieldOk f){l:List Ded}(h: ∀d∈l,DedOk f d): ∀ws∈deedsW f l,ws≠ []∧ ∀w∈ws,plainL w.data.toList=true:=by
 intro ws hw
 obtain⟨d,hd,hw⟩:=List.mem_flatMap.1 hw
 have hd:=h d hd
 rcases List.mem_cons.1 hw with e|hw
 ·subst e;exact dedW_plain hd
 ·obtain⟨c,hc,rfl⟩:=List.mem_map.1 hw
  obtain⟨hc,_⟩:=hd.calls c hc
  have ht:=callE_tab hc
  refine⟨?_,callX_plain hf ht fun hk=>(callE_three hc hk).1⟩
  unfold callX
  rcases tab_kind ht with hk|hk|hk|hk|hk<;>simp[hk]
theorem head_call {f:Fld}{c:Cal}(ht:c.tab f.st.length f.li.length):(callX f c).flatten.head?≠some wDeed:=by
 have h:wStone≠wDeed∧wWidth≠wDeed∧wCourse≠wDeed∧wAlong≠wDeed∧wLevel≠wDeed:=by decide+kernel
 obtain⟨h1,h2,h3,h4,h5⟩:=h
 unfold callX
 rcases tab_kind ht with hk|hk|hk|hk|hk<;>simp[hk,h1,h2,h3,h4,h5]
theorem call_line {f:Fld}(hf:fieldE f=0){all:List Ded}{d:Ded}{c:Cal}(hc:callE f c=0)(hy:c.kind=3->c.crs.y=d.year)(h20:d.calls.length<20):
  deedLine f (all++[d]) (callX f c).flatten=.ok (all++[{d with calls:=d.calls++[c]}]):=by
 have hok:=fieldE_ok hf
 have ht:=callE_tab hc
 unfold deedLine
 rw[if_neg (head_call ht),form_line hok ht (fun hk=>(callE_three hc hk).1)]
 simp only[List.getLast?_append,List.getLast?_singleton,Option.some_or]
 rw[if_neg (by omega)]
 unfold madeC
 rw[looked_line hok ht hy]
 simp only
 rw[if_pos hc]
 simp
theorem calls_go {f:Fld}(hf:fieldE f=0): ∀(l:List Cal) (all:List Ded) (d:Ded) (n:Nat) (r:List (List ByteArray)),(∀c∈l,callE f c=0∧(c.kind=3->c.crs.y=d.year))->d.calls.length+l.length<=20->
  deedsGo f (all++[d]) n (l.map (fun c=>(callX f c).flatten)++r)=deedsGo f (all++[{d with calls:=d.calls++l}]) (n+l.length) r
 | [],all,d,n,r,_,_=>by simp
 | c::l,all,d,n,r,h,hl=>by
  obtain⟨hc,hy⟩:=h c (by simp)
  rw[List.length_cons]at hl
  have hne:(callX f c).flatten≠ []:=by
   unfold callX
   rcases tab_kind (callE_tab hc)with hk|hk|hk|hk|hk<;>simp[hk]
  rw[List.map_cons,List.cons_append,deedsGo,if_neg hne,call_line hf hc hy (by omega)]
  simp only
  have:=calls_go hf l all {d with calls:=d.calls++[c]} (n+1) r (fun x hx=>h x (by simp[hx])) (by simp;omega)
  rw[this]
  simp[Nat.add_assoc,Nat.add_comm 1]
theorem deeds_go {f:Fld}(hf:fieldE f=0): ∀(l:List Ded) (all:List Ded) (n:Nat) (r:List (List ByteArray)),(∀d∈l,DedOk f d)->(l.map Ded.name).Nodup->(∀d∈l,∀x∈all,x.name≠d.name)->all.length+l.length<=60->
  deedsGo f all n (deedsW f l++r)=deedsGo f (all++l) (n+(deedsW f l).length) r
 | [],all,n,r,_,_,_,_=>by simp[deedsW]
 | d::l,all,n,r,h,hn,ha,hl=>by
  have hd:=h d (by simp)
  rw[List.length_cons]at hl
  rw[List.map_cons,List.nodup_cons]at hn
  have e:deedsW f (d::l)=dedW d::(d.calls.map fun c=>(callX f c).flatten)++deedsW f l:=by unfold deedsW;rw[List.flatMap_cons]
  have hline:deedLine f all (dedW d)=.ok (all++[{d with calls:=[]}]):=by
   unfold deedLine dedW
   rw[if_pos (show([wDeed,d.name,spelt d.year,spelt d.rank]:List ByteArray).head?=some wDeed from rfl)]
   simp only
   rw[if_pos hd.name,numF_spelt (by have:=hd.year;omega) (by have:=hd.year;omega),numF_spelt (by have:=hd.rank;omega) (by have:=hd.rank;omega)]
   simp only[Option.bind_some,Option.map_some]
   rw[if_neg (by omega),if_neg (by have:=hd.year;have:=hd.rank;omega),if_neg]
   intro hm
   obtain⟨x,hx,e⟩:=List.any_eq_true.1 hm
   exact ha d (by simp) x hx (by simpa using e)
  have h1:=calls_go hf d.calls all {d with calls:=[]} (n+1) (deedsW f l++r) hd.calls (by simpa using hd.few)
  have h2:=deeds_go hf l (all++[d]) (n+1+d.calls.length) r (fun x hx=>h x (by simp[hx])) hn.2 (by
   intro x hx y hy
   rcases List.mem_append.1 hy with hy|hy
   ·exact ha x (by simp[hx]) y hy
   ·rw[List.mem_singleton]at hy
    subst hy
    intro e
    exact hn.1 (by rw[e];exact List.mem_map_of_mem hx)) (by simp;omega)
  rw[e,List.append_assoc,List.cons_append,deedsGo,if_neg (by simp[dedW]),hline]
  simp only
  rw[h1]
  have e3:({name:=d.name,year:=d.year,rank:=d.rank,calls:=[]++d.calls}:Ded)=d:=by simp
  rw[e3,h2]
  have e4:n+1+d.calls.length+(deedsW f l).length=n+(dedW d::(d.calls.map fun c=>(callX f c).flatten)++deedsW f l).length:=by simp;omega
  rw[e4]
  simp
theorem deeds_back {f:Fld}{l:List Ded}(h:deedsE f l=0)(hs:(deedsB f l).size<=20000):parseDeeds f (deedsB f l)=(l,0,0):=by
 have h0:=h
 unfold deedsE at h
 split at h
 ·rename_i hf
  split at h
  ·cases h
  rename_i h60
  obtain⟨a,b,_⟩:=dedsGo_ok h
  unfold parseDeeds
  rw[if_neg (fun k=>k hf),if_neg (by omega)]
  unfold deedsB
  rw[if_pos h0]
  unfold deedsL
  rw[lines_words (deedsW_plain (fieldE_ok hf) a),deeds_go hf l [] 0 _ a b (by simp) (by simp;omega)]
  rw[deedsGo,if_pos rfl,deedsGo]
  rfl
 ·exact absurd h ‹_›
end Pl
namespace Pl
theorem name_size {s:ByteArray}(h:isName s=true):s.size<=24:=by
 unfold isName at h
 have hs:s.size=s.data.toList.length:=by simp
 split at h
 ·cases h
 ·rename_i e
  simp only[Bool.and_eq_true,decide_eq_true_eq]at h
  rw[hs,e]
  simp
  omega
theorem spelt_size {v:Int}(h0: -9223372036854775808<=v)(h1:v<=9223372036854775807):(spelt v).size<=21:=by
 unfold spelt
 have:=Lib.itoa_length_le v h0 h1
 show(Lib.itoa v).toArray.size<=21
 simpa using this
theorem joinB_size {ws:List ByteArray}{n:Nat}(h: ∀x∈ws,x.size<=n):(Lib.join (ws.map (·.data.toList)) [32]).length<=(n+1)*ws.length:=by
 cases ws with
 |nil=>simp[Lib.join]
 | cons a r=>
  rw[List.map_cons,Lib.join_length,<-List.map_cons (f:=fun x:ByteArray=>x.data.toList)]
  have:=lens_le (xs:=(a::r).map (·.data.toList)) (N:=n) (fun x hx=>by
   obtain⟨y,hy,rfl⟩:=List.mem_map.1 hx
   simpa using h y hy)
  simp at this ⊢
  simp only[Nat.add_mul,Nat.mul_add]at*
  omega
theorem unit_size (k:Int): ∀u∈poles,(word k u).size<=6:=by
 intro u hu
 unfold word
 split<;>revert u<;>decide
theorem namedL_size : ∀(us:List Unit) (c:Int),0<=c->c<=1000000000000->(∀u∈us,1<=u.1∧ ∀k,(word k u).size<=6)-> ∀w∈namedL c us,w.size<=21
 | [],_,_,_,_=>by simp[namedL]
 | u::us,c,h0,h1,hu=>by
  intro w hw
  obtain⟨hs,hk⟩:=hu u (by simp)
  obtain⟨_,_,p0,p1,m0,m1⟩:=part_eq h0 h1 hs
  simp only[namedL,List.mem_append]at hw
  rcases hw with hw|hw
  ·split at hw
   ·simp only[List.mem_cons,List.not_mem_nil,or_false]at hw
    rcases hw with e|e
    ·subst e;exact spelt_size (by omega) (by omega)
    ·subst e;have:=hk (c/u.1);omega
   ·simp at hw
  ·exact namedL_size us (c%u.1) m0 m1 (fun v hv=>hu v (by simp[hv])) w hw
theorem lengthV_size {n:Int}(h0:1<=n)(h1:n<=100000):(lengthV n).size<=200:=by
 obtain⟨_,m1,_,m2⟩:=lengthW_ok h0 h1
 rw[<-m2]
 have h:=namedL_size poles n (by omega) (by omega) (fun u hu=>⟨by revert u;decide,fun k=>unit_size k u hu⟩)
 have:=joinB_size h
 show(Lib.join _ [32]).toArray.size<=200
 simp only[List.size_toArray]
 omega
theorem quadB_size {b:Int}(h0:0<=b)(h1:b<=359):(quadB b).size<=200:=by
 have h: ∀k:Fin 360,(quad ((k.val:Nat):Int)).length<=200:=by decide+kernel
 have:=h ⟨b.toNat,by omega⟩
 unfold quadB
 show(quad b).toArray.size<=200
 rw[show((b.toNat:Nat):Int)=b by omega]at this
 simpa using this
theorem callW_size {f:Fld}{c:Cal}(hf:FieldOk f)(ht:c.tab f.st.length f.li.length)(h:c.kind=3->c.crs.ok=true): ∀x∈callW f c,x.size<=200:=by
 have a1:=name_size (liN_name hf ht.1).2.1
 have a2:=name_size (stN_name hf ht.2.1).2.1
 have a3: ∀v:Int,-1000000<=v->v<=1000000->(spelt v).size<=200:=fun v p q=>by have:=spelt_size (v:=v) (by omega) (by omega);omega
 have p:wStone.size<=200∧wWidth.size<=200∧wCourse.size<=200∧wAlong.size<=200∧wLevel.size<=200∧wBy.size<=200∧wGive.size<=200∧wWear.size<=200∧wSlack.size<=200:=by decide
 have b1:(liN f c.lim).size<=200:=by omega
 have b2:(stN f c.fr).size<=200:=by omega
 unfold callW
 rcases tab_kind ht with hk|hk|hk|hk|hk
 ·have s:=ht.2.2
  have e1:=a3 c.size (by omega) (by omega)
  have e2:=a3 c.er (by omega) (by omega)
  simp[hk,b1,b2,e1,e2,p]
 ·have b4:(liN f c.oth).size<=200:=by have:=name_size (liN_name hf (tab_oth ht (.inl hk))).2.1;omega
  have s:=ht.2.2
  have e1:=a3 c.size (by omega) (by omega)
  have e2:=a3 c.er (by omega) (by omega)
  simp[hk,b1,b2,b4,e1,e2,p]
 ·have b4:(stN f c.till).size<=200:=by have:=name_size (stN_name hf (tab_far ht (.inl hk))).2.1;omega
  obtain⟨⟨r0,r1⟩,⟨n0,n1⟩,⟨l0,l1⟩,_,⟨x0,x1⟩,s0,s1⟩:=Crs.ok_iff (h hk)
  have e1:=a3 c.crs.n (by omega) (by omega)
  have e2:=a3 c.crs.x (by omega) (by omega)
  have e3:=a3 c.crs.s (by omega) (by omega)
  have e4:=lengthV_size l0 l1
  have e5:=quadB_size r0 r1
  simp[hk,b1,b2,b4,e1,e2,e3,e4,e5,p]
 ·have b4:(liN f c.oth).size<=200:=by have:=name_size (liN_name hf (tab_oth ht (.inr hk))).2.1;omega
  have b5:(stN f c.till).size<=200:=by have:=name_size (stN_name hf (tab_far ht (.inr (.inl hk)))).2.1;omega
  simp[hk,b1,b2,b4,b5,p]
 ·have b5:(stN f c.till).size<=200:=by have:=name_size (stN_name hf (tab_far ht (.inr (.inr hk)))).2.1;omega
  have s:=ht.2.2
  have e1:=a3 c.size (by omega) (by omega)
  have e2:=a3 c.er (by omega) (by omega)
  simp[hk,b1,b2,b5,e1,e2,p]
theorem callW_len (f:Fld)(c:Cal):(callW f c).length<=13:=by
 unfold callW
 repeat' split
 all_goals simp
theorem lineB_size {f:Fld}{c:Cal}(hf:FieldOk f)(ht:c.tab f.st.length f.li.length)(h:c.kind=3->c.crs.ok=true):(lineB f c).size<=3000:=by
 have h1:=joinB_size (callW_size hf ht h)
 have h2:=callW_len f c
 show(Lib.join _ [32]).toArray.size<=3000
 simp only[List.size_toArray]
 have:(200+1)*(callW f c).length<=201*13:=Nat.mul_le_mul_left _ h2
 omega
end Pl
namespace Pl
def callL (f:Fld)(c:Cal):List UInt8:=(lineB f c).data.toList++[10]
def dedL (f:Fld)(d:Ded):List UInt8:=lineL (dedW d)++d.calls.flatMap (callL f)
theorem flatMap_same {α β:Type}{g h:α->List β}: ∀ {l:List α},(∀x∈l,g x=h x)->l.flatMap g=l.flatMap h
 | [],_=>rfl
 |x::l,e=>by rw[List.flatMap_cons,List.flatMap_cons,e x (by simp),flatMap_same fun y hy=>e y (by simp[hy])]
theorem deedsL_eq {f:Fld}: ∀ {l:List Ded},(∀d∈l,DedOk f d)->deedsL f l=l.flatMap (dedL f)
 | [],_=>rfl
 |d::l,h=>by
  have ih:=deedsL_eq (f:=f) (l:=l) fun x hx=>h x (by simp[hx])
  unfold deedsL deedsW at ih ⊢
  rw[List.flatMap_cons,List.flatMap_append,ih,List.flatMap_cons]
  congr 1
  unfold dedL
  congr 1
  rw[List.flatMap_map]
  refine flatMap_same fun c hc=> ?_
  obtain⟨hc,_⟩:=(h d (by simp)).calls c hc
  exact line_text fun hk=>(callE_three hc hk).1
theorem take_zero {α β:Type}(g:α->List β)(l:List α):(l.take 0).flatMap g=[]:=by simp
theorem take_succ {α β:Type}(g:α->List β){l:List α}{k:Nat}(h:k<l.length):(l.take (k+1)).flatMap g=(l.take k).flatMap g++g l[k]:=by
 rw[List.take_succ_eq_append_getElem h,List.flatMap_append]
 simp
theorem take_len {α β:Type}(g:α->List β)(l:List α)(m:Nat)(h: ∀x∈l,(g x).length<=m): ∀k:Nat,((l.take k).flatMap g).length<=k*m
 |0=>by simp
 | k+1=>by
  have ih:=take_len g l m h k
  by_cases hk:k<l.length
  ·rw[take_succ g hk,List.length_append,Nat.add_mul,Nat.one_mul]
   have:=h _ (List.getElem_mem hk)
   omega
  ·rw[List.take_of_length_le (by omega)]
   rw[List.take_of_length_le (by omega)]at ih
   rw[Nat.add_mul]
   omega
theorem callL_len {f:Fld}{c:Cal}(hf:FieldOk f)(hc:callE f c=0):(callL f c).length<=3001:=by
 have:=lineB_size hf (callE_tab hc) fun hk=>(callE_three hc hk).1
 unfold callL
 simp
 exact this
theorem dedW_text (d:Ded):lineL (dedW d)=(((((([100,101,101,100,32]++d.name.data.toList)++[32])++Lib.itoa d.year)++[32])++Lib.itoa d.rank)++[10]):=by
 unfold dedW lineL spelt wDeed
 simp[Lib.join_cons,Lib.joinTail]
theorem dedW_len {d:Ded}(hn:d.name.size<=24)(hy:1<=d.year∧d.year<=3000)(hr:0<=d.rank∧d.rank<=1000):(lineL (dedW d)).length<=100:=by
 rw[dedW_text]
 have h1:=Lib.itoa_length_le d.year (by omega) (by omega)
 have h2:=Lib.itoa_length_le d.rank (by omega) (by omega)
 have h3:d.name.data.toList.length<=24:=by simpa using hn
 simp only[List.length_append,List.length_cons,List.length_nil]
 omega
theorem dedL_len {f:Fld}{d:Ded}(hf:FieldOk f)(hd:DedOk f d):(dedL f d).length<=70000:=by
 unfold dedL
 rw[List.length_append]
 have h1:=dedW_len (name_size hd.name) hd.year hd.rank
 have h2:=take_len (callL f) d.calls 3001 (fun c hc=>callL_len hf (hd.calls c hc).1) d.calls.length
 rw[List.take_length]at h2
 have h3:d.calls.length*3001<=20*3001:=Nat.mul_le_mul_right _ hd.few
 omega
end Pl
end Go.Proofs.YtgbpekeoegfjpaaGreatDoor
set_option maxRecDepth 100000
namespace Go.Proofs.YtgbpekeoegfjpaaGreatDoor
open Go.RowKit
abbrev Keeps (b:Nat)(w w':World):Prop:=Lib.OthersKept 5 (some b) w w'
theorem Keeps.of {b:Nat}{w w':World}(h:Below w.heap.size w w'):Keeps b w w':=fun k _ hk _ _=>(h.block k (lO hk)).trans hk
theorem Keeps.at_ {b k:Nat}{w w':World}(h:Keeps b w w'){cs:Array Value}{T:TypeId}{z:Nat×Nat}(hk:w.heap[k]?=some (.cells cs T z))(hb:k≠b)(hT:T≠5):w'.heap[k]?=some (.cells cs T z):=
 h k _ hk (fun e=>hb (Option.some.inj e)) fun c z' e=>hT (by cases e;rfl)
abbrev IsBd (B b:Nat)(bs:List UInt8)(w:World):Prop:=Lib.IsBuilderF 154 5 B b (Lib.byteCells bs) w
theorem IsBd.below {B b:Nat}{bs:List UInt8}{w w':World}(h:IsBd B b bs w)(hx:Below w.heap.size w w'):IsBd B b bs w':=by
 rcases h with ⟨hB,v,hb,hown,hne⟩|⟨hB,v,hb,hown,hne⟩
 ·exact .inl ⟨hB,v,(hx.block b (lO hb)).trans hb,hown.kept (grownBy_of_below hx) (by cases v.ownBlock<;>simp),hne⟩
 ·exact .inr ⟨hB,v,(hx.block b (lO hb)).trans hb,hown.kept (grownBy_of_below hx) (by cases v.ownBlock<;>simp),hne⟩
theorem IsBd.lt {B b:Nat}{bs:List UInt8}{w:World}(h:IsBd B b bs w):b<w.heap.size∧B<=b:=by
 rcases h with ⟨hB,v,hb,_,_⟩|⟨hB,v,hb,_,_⟩
 ·exact⟨(lO hb),hB⟩
 ·exact⟨(lO hb),hB⟩
theorem byteCells_str (bs:List UInt8)(s:List UInt8):Lib.byteCells bs++Lib.strCells ⟨s.toArray⟩=Lib.byteCells (bs++s):=by
 simp[Lib.byteCells,Lib.strCells]
theorem ba_size (s:List UInt8):(⟨s.toArray⟩:ByteArray).size=s.length:=by show s.toArray.size=_;simp
theorem lays166 :Go.Proofs.Lays.n166 Tryz.prog Tryz.lays156_ren:= {Tryz.lays156 with}
theorem writeS (B b:Nat)(bs s:List UInt8)(w:World)(h:IsBd B b bs w)(hl:bs.length+s.length<=140737488355328):
  Calls Tryz.prog 118 #[.pointer (some ⟨b,0,none⟩),.string ⟨s.toArray⟩] w fun e w'=>e=.returned (.tuple #[.int .i64 s.length,.nilIface])∧IsBd B b (bs++s) w'∧Below B w w'∧Keeps b w w':=by
 have hlt:=h.lt
 refine(Any.Builder_WriteString_k lays166 Tryz.Builder_Extra_156 B b (Lib.byteCells bs) ⟨s.toArray⟩ w h (by rw[ba_size];simpa [Lib.byteCells]using hl) (by omega)).mono fun e w' ⟨he,hb,hx,hk⟩=>⟨?_,.inr ?_,hx,hk⟩
 ·rw[he,ba_size]
 ·rw[byteCells_str]at hb;exact hb
theorem join_h (g c:Nat)(ws:List ByteArray)(J:List UInt8)(w:World)(hJ:Hid (Lib.join (ws.map (·.data.toList)) [32]=J))(hl:J.length<=1000000)(hw:Nms w w.heap.size (some ⟨g,0,none⟩) ws)(h0:0<ws.length)(hn:ws.length<=c)(hn5:ws.length<=100):
  Calls Tryz.prog 119 #[.slice (some ⟨g,0,none⟩) ws.length c,.string ⟨#[32]⟩] w fun e w'=>e=.returned (.string ⟨J.toArray⟩)∧Below w.heap.size w w':=by
 have hg:g<w.heap.size:=by
  rcases hw with hw|⟨b,off,hA,hb,_⟩
  ·rw[hw]at h0;cases h0
  ·cases hA;exact hb
 have hc: ∀(j:Nat) x,ws[j]?=some x->w.cell? ⟨g,0+j,none⟩=some (.string x):=by
  intro j x hx
  obtain⟨hj,rfl⟩:=List.getElem?_eq_some_iff.1 hx
  obtain⟨b,off,hA,hb,q0⟩:=Nms.at1 hw hj
  cases hA
  simpa using q0
 have:=Tryz.strings_Join g 0 c ws ⟨#[32]⟩ w hc hg (by omega) hn (by show(Lib.join (ws.map (·.data.toList)) [32]).length<=_;rw[hJ.out];omega)
 refine this.mono fun e w' ⟨he,hx⟩=>⟨?_,hx⟩
 rw[he]
 show Ending.returned (.string ⟨(Lib.join (ws.map (·.data.toList)) [32]).toArray⟩)=_
 rw[hJ.out]
set_option maxHeartbeats 1000000 in
theorem say_a (b g c:Nat)(bs:List UInt8)(ws:List ByteArray)(J:List UInt8)(w:World)(hJ:Hid (Lib.join (ws.map (·.data.toList)) [32]=J))(hl:J.length<=1000000)(hbs:bs.length<=100000000000000)(h:IsBd b b bs w)(hw:Nms w w.heap.size (some ⟨g,0,none⟩) ws)(h0:0<ws.length)(hn:ws.length<=c)(hn5:ws.length<=100):
  Calls Tryz.prog 117 #[.slice (some ⟨g,0,none⟩) ws.length c,.pointer (some ⟨b,0,none⟩)] w fun e w'=>e=.returned (.tuple #[])∧IsBd b b (bs++(J++[10])) w'∧Below b w w'∧Keeps b w w':=by
 have hadd: ∀W,(Op.stringOp .add ⟨J.toArray⟩ ⟨#[10]⟩).run Tryz.prog W=.ok (.string ⟨(J++[10]).toArray⟩) W:=fun W=>by
  rw[run_string_add W ⟨J.toArray⟩ ⟨#[10]⟩ (by rw[ba_size];omega) (by decide),ba_append]
  simp
 have hlt:=h.lt
 go_enter Tryz.func117,Tryz.ntmps117
 go_wp2_with fail
 refine(join_h g c ws J _ hJ hl hw h0 hn hn5).mono ?_
 rintro e w1 ⟨rfl,hx⟩
 have h1:=h.below hx
 have hb1:=hx.mono (show b<=w.heap.size by omega)
 have hk1:Keeps b w w1:=Keeps.of hx
 clear hx
 go_wp2_with fail
 refine(writeS b b bs (J++[10]) _ h1 (by simp;omega)).mono ?_
 rintro e w2 ⟨rfl,h2,hx,hk2⟩
 have hb2:=hb1.trans hx
 have hk2:=hk1.trans hk2
 go_wp2
 go_end0
 exact⟨rfl,h2,hb2,hk2⟩
theorem strB (B b:Nat)(bs:List UInt8)(w:World)(h:IsBd B b bs w):
  Calls Tryz.prog 121 #[.pointer (some ⟨b,0,none⟩)] w fun e w'=>e=.returned (.string ⟨bs.toArray⟩)∧Below B w w':=by
 have hlt:=h.lt
 exact(Any.Builder_String_any_k Tryz.lays169 Tryz.Builder_Extra_169 B b bs w h (by omega)).mono fun e w' ⟨he,_,hx,_⟩=>⟨he,hx⟩
end Go.Proofs.YtgbpekeoegfjpaaGreatDoor
set_option maxRecDepth 100000
namespace Go.Proofs.YtgbpekeoegfjpaaGreatDoor
open Go.RowKit
variable (A1 A2 A3 A4 : Option Addr) (c1 c2 c3 c4 : Nat) (f : Pl.Fld)
theorem line_one (ws:List ByteArray):Pl.lineL ws=Lib.join (ws.map (·.data.toList)) [32]++[10]:=rfl
theorem spelt_len {n:Int}(h0: -1000000<=n)(h1:n<=1000000):(Pl.spelt n).data.toList.length<=21:=by
 unfold Pl.spelt
 have:=Lib.itoa_length_le n (by omega) (by omega)
 simpa using this
theorem nms_new (w:World)(ws:List ByteArray)(T:TypeId)(cs:Array Value)(h:cs.toList=ws.map fun s=>Value.string s):Nms (w.alloc (.cells cs T)) (w.alloc (.cells cs T)).heap.size (some ⟨w.heap.size,0,none⟩) ws:=by
 refine .inr ⟨w.heap.size,0,rfl,by simp,fun k x hx j v hv=> ?_⟩
 simp only[encNm]at hv
 obtain⟨hj,rfl⟩:j=0∧v=.string x:=by
  match j,hv with
  |0,hv=>simp at hv;exact⟨rfl,hv.symm⟩
  |j+1,hv=>simp at hv
 subst hj
 have hk:=(blk_cells (heap_alloc_new w (.cells cs T))).1 k
 rw[Nat.mul_one,Nat.add_zero,Nat.zero_add,hk,<-Array.getElem?_toList,h,List.getElem?_map,hx]
 rfl
theorem list_len (s:ByteArray):s.data.toList.length=s.size:=by rw[Array.length_toList];rfl
theorem line2_len (a b:ByteArray):(Pl.lineL [a,b]).length=a.size+b.size+2:=by
 unfold Pl.lineL
 rw[List.map_cons,List.map_cons,List.map_nil,Pl.join2]
 simp only[List.length_append,List.length_cons,List.length_nil,list_len]
 omega
theorem line3_len (a b c:ByteArray):(Pl.lineL [a,b,c]).length=a.size+b.size+c.size+3:=by
 unfold Pl.lineL
 rw[List.map_cons,List.map_cons,List.map_cons,List.map_nil,Pl.join3]
 simp only[List.length_append,List.length_cons,List.length_nil,list_len]
 omega
theorem line5_len (a b c d e:ByteArray):(Pl.lineL [a,b,c,d,e]).length=a.size+b.size+c.size+d.size+e.size+5:=by
 unfold Pl.lineL
 rw[List.map_cons,List.map_cons,List.map_cons,List.map_cons,List.map_cons,List.map_nil,Pl.join5]
 simp only[List.length_append,List.length_cons,List.length_nil,list_len]
 omega
theorem spelt_size {n:Int}(h0: -1000000<=n)(h1:n<=1000000):(Pl.spelt n).size<=21:=by rw[<-list_len];exact spelt_len h0 h1
theorem say2 (b:Nat)(bs:List UInt8)(a1 a2:ByteArray)(w:World)(hbs:bs.length<=100000000000000)(h:IsBd b b bs w)(hl:(Pl.lineL [a1,a2]).length<=1000000):
  Calls Tryz.prog 117 #[.slice (some ⟨w.heap.size,0,none⟩) 2 2,.pointer (some ⟨b,0,none⟩)] (w.alloc (.cells #[.string a1,.string a2] 9)) fun e w'=>e=.returned (.tuple #[])∧IsBd b b (bs++Pl.lineL [a1,a2]) w'∧Below b w w'∧Keeps b w w':=by
 have hb:Below w.heap.size w (w.alloc (.cells #[.string a1,.string a2] 9)):=(Below.refl _ w).alloc (Nat.le_refl _) _
 have hJ:(Lib.join ([a1,a2].map (·.data.toList)) [32]).length<=1000000:=by rw[line_one,List.length_append]at hl;omega
 exact(say_a b w.heap.size 2 bs [a1,a2] _ _ (Lib.hid rfl) hJ hbs (h.below hb) (nms_new w [a1,a2] _ _ rfl) (by simp) (by simp) (by simp)).mono fun e w' ⟨he,hi,hx,hk⟩=>⟨he,hi,(hb.mono (Nat.le_of_lt h.lt.1)).trans hx,(Keeps.of hb).trans hk⟩
theorem say3 (b:Nat)(bs:List UInt8)(a1 a2 a3:ByteArray)(w:World)(hbs:bs.length<=100000000000000)(h:IsBd b b bs w)(hl:(Pl.lineL [a1,a2,a3]).length<=1000000):
  Calls Tryz.prog 117 #[.slice (some ⟨w.heap.size,0,none⟩) 3 3,.pointer (some ⟨b,0,none⟩)] (w.alloc (.cells #[.string a1,.string a2,.string a3] 9)) fun e w'=>e=.returned (.tuple #[])∧IsBd b b (bs++Pl.lineL [a1,a2,a3]) w'∧Below b w w'∧Keeps b w w':=by
 have hb:Below w.heap.size w (w.alloc (.cells #[.string a1,.string a2,.string a3] 9)):=(Below.refl _ w).alloc (Nat.le_refl _) _
 have hJ:(Lib.join ([a1,a2,a3].map (·.data.toList)) [32]).length<=1000000:=by rw[line_one,List.length_append]at hl;omega
 exact(say_a b w.heap.size 3 bs [a1,a2,a3] _ _ (Lib.hid rfl) hJ hbs (h.below hb) (nms_new w [a1,a2,a3] _ _ rfl) (by simp) (by simp) (by simp)).mono fun e w' ⟨he,hi,hx,hk⟩=>⟨he,hi,(hb.mono (Nat.le_of_lt h.lt.1)).trans hx,(Keeps.of hb).trans hk⟩
theorem say5g (b g:Nat)(bs:List UInt8)(a1 a2 a3 a4 a5:ByteArray)(w:World)(hbs:bs.length<=100000000000000)(h:IsBd b b bs w)(hl:(Pl.lineL [a1,a2,a3,a4,a5]).length<=1000000)(hw:Nms w w.heap.size (some ⟨g,0,none⟩) [a1,a2,a3,a4,a5]):
  Calls Tryz.prog 117 #[.slice (some ⟨g,0,none⟩) 5 5,.pointer (some ⟨b,0,none⟩)] w fun e w'=>e=.returned (.tuple #[])∧IsBd b b (bs++Pl.lineL [a1,a2,a3,a4,a5]) w'∧Below b w w'∧Keeps b w w':=by
 have hJ:(Lib.join ([a1,a2,a3,a4,a5].map (·.data.toList)) [32]).length<=1000000:=by rw[line_one,List.length_append]at hl;omega
 exact say_a b g 5 bs [a1,a2,a3,a4,a5] _ w (Lib.hid rfl) hJ hbs h hw (by simp) (by simp) (by simp)
theorem sta_len {f:Pl.Fld}(hm:Small f)(hx: ∀s∈f.st,0<=s.2∧s.2<=100000): ∀s∈f.st,(Pl.lineL (Pl.staW s)).length<=1000000:=by
 intro s hs
 unfold Pl.staW
 have h1:=hm.sn s hs
 have h2:=hx s hs
 have h3:=spelt_size (n:=s.2) (by omega) (by omega)
 have h4:Pl.wStation.size=7:=rfl
 rw[line3_len]
 omega
theorem lim_len {f:Pl.Fld}(hm:Small f): ∀s∈f.li,(Pl.lineL (Pl.limW s)).length<=1000000:=by
 intro s hs
 unfold Pl.limW
 have h1:=hm.ln s hs
 have h4:Pl.wLimit.size=5:=rfl
 rw[line2_len]
 omega
theorem par_len {f:Pl.Fld}(hm:Small f): ∀p∈f.pa,(Pl.lineL (Pl.parW f p)).length<=1000000:=by
 intro p hp
 have h0: ∀i,(Pl.stN f i).size<=100000:=by
  intro i
  unfold Pl.stN
  cases h:f.st[i.toNat]? with
  |none=>decide
  |some s=>exact hm.sn s (List.mem_of_getElem? h)
 have h1: ∀i,(Pl.liN f i).size<=100000:=by
  intro i
  unfold Pl.liN
  cases h:f.li[i.toNat]? with
  |none=>decide
  |some s=>exact hm.ln s (List.mem_of_getElem? h)
 have h2:=hm.pn p hp
 have h4:Pl.wParcel.size=6:=rfl
 unfold Pl.parW
 have a:=h1 p.south
 have b:=h0 p.fr
 have c:=h0 p.till
 rw[line5_len]
 omega
theorem var_len {f:Pl.Fld}(hv: ∀v∈f.va,(1<=v.1∧v.1<=3000)∧ -60<=v.2∧v.2<=60): ∀v∈f.va,(Pl.lineL (Pl.varW v)).length<=1000000:=by
 intro v hm
 have h2:=hv v hm
 have h3:=spelt_size (n:=v.1) (by omega) (by omega)
 have h4:=spelt_size (n:=v.2) (by omega) (by omega)
 have h5:Pl.wVariation.size=9:=rfl
 unfold Pl.varW
 rw[line3_len]
 omega
set_option maxHeartbeats 8000000 in
theorem PrintField_ok (w:World) (hEn:Env w) (hf:FldS w w.heap.size A1 A2 A3 A4 f) (hm:Small f) (hc:Caps c1 c2 c3 c4 f) (hE:Pl.fieldE f=0):
  Calls Tryz.prog 44 #[.agg (fq A1 A2 A3 A4 c1 c2 c3 c4 f)] w fun e w'=>e=.returned (.string ⟨(Pl.printL f).toArray⟩)∧Below w.heap.size w w':=by
 have hok:=Pl.fieldE_ok hE
 have hS:=hok.st12
 have hL:=hok.li10
 have hP:=hok.pa40
 have hxs:=hok.x
 have hxs0:=Lib.hid hxs
 have hpk:=Lib.hid hok.par
 have hva0:=Lib.hid (Pl.vars_all hok.va)
 have HE:=Lib.hid hE
 clear hE hok
 have kb:=heap_alloc_new w (.cells (fq A1 A2 A3 A4 c1 c2 c3 c4 f) 28)
 have hmf: ∀(fn:Fn) (first cap:Array Value) (w:World),(Instr.makeFunc fn first cap).run Tryz.prog w=.ok (.func fn first cap) w:=fun _ _ _ _=>rfl
 go_enter Tryz.func44,Tryz.ntmps44
 go_wp2_with (go_at_call 22;refine(checkField_h A1 A2 A3 A4 c1 c2 c3 c4 f 0 _ HE (hf.up (by go_grown)) hm hc).mono ?_;rintro e w1 ⟨rfl,hx⟩;obtain⟨kb,hckb,hfkb,hltkb⟩:=kB hx kb;have hall:Below w.heap.size w w1:=Below.trans (by go_grown) (hx.mono (by go_size));have hsz:w.heap.size<=w1.heap.size:=hall.size;clear hx)
 have hbd:IsBd w1.heap.size w1.heap.size [] (w1.alloc (.cells #[.pointer none,.slice none 0 0] 154)):=Lib.IsBuilderF.of (Lib.fresh_isBuilder _ _ _)
 have kb:=(Below.heap_alloc _ (.cells #[.pointer none,.slice none 0 0] 154) _ hltkb).trans kb
 have hall:Below w.heap.size w (w1.alloc (.cells #[.pointer none,.slice none 0 0] 154)):=hall.trans ((Below.refl _ w1).alloc hsz _)
 go_loopw [20] (fun i wr=> ∃(k:Nat),k<=f.st.length∧i=.int .i64 k∧IsBd w1.heap.size w1.heap.size (Pl.prn Pl.staW f.st k) wr∧wr.heap[w.heap.size]?=some (.cells (fq A1 A2 A3 A4 c1 c2 c3 c4 f) 28 (0,0))∧Below w.heap.size w wr) (fun i _=>f.st.length-(intOf i).toNat)
 case atStart=>exact⟨0,by omega,rfl,by rw[Pl.prn_zero];exact hbd,kb,hall⟩
 case round=>
  clear kb hckb hfkb hall hsz hbd
  obtain⟨k,hk,rfl,hbd,kb,hall⟩:=hrel
  obtain⟨hckb,hfkb⟩:=blk_cells kb
  have hltb:=hbd.lt
  have hsz:=hall.size
  by_cases hlt:k<f.st.length
  ·obtain⟨b0,off,hA,hbB,q0,q1⟩:=Stas.at2 (hf.st.below hall) hlt
   have hnm:=hm.sn _ (List.getElem_mem hlt)
   have hxx:=hxs _ (List.getElem_mem hlt)
   have hpre:=Pl.prn_len Pl.staW f.st _ (sta_len hm hxs) k
   have hll:=sta_len hm hxs _ (List.getElem_mem hlt)
   have HN:=Lib.hid (Pl.prn_succ Pl.staW hlt)
   obtain⟨⟨nm,x⟩,hsx⟩: ∃s,f.st[k]=s:=⟨_,rfl⟩
   rw[hsx]at q0 q1 hnm hxx HN hll
   simp only at q0 q1 hnm hxx
   clear hsx
   subst hA
   have kq:=heap_alloc_new wr (.cells #[.string nm,.int .i64 x] 50)
   obtain⟨hckq,hfkq⟩:=blk_cells kq
   go_wp2
   go_region_held3 (fun W=> ∀j,W.cell? ⟨wr.heap.size,j,none⟩=(#[.string nm,.int .i64 x]:Array Value)[j]?) (first|exact hckq|exact hckq3|exact fun j=>(World.cell?_of_block (Below.heap_alloc _ _ _ hltkq)).trans (hckq j)) (first
    |(go_at_call 120;refine(itoa_lib x _ (hEn.up (by go_grown)) (by omega) (by omega)).mono ?_;rintro e w2 ⟨rfl,hx⟩;obtain⟨kb,hckb,hfkb,hltkb⟩:=kB hx kb;have kq:=(hx.block (wr.heap.size) (by first|exact(lO kq)|omega|(simp;done)|(simp;omega))).trans (by first|exact kq|exact(Below.heap_alloc _ _ _ (lO kq)).trans kq);obtain⟨hckq,hfkq⟩:=blk_cells kq;have hltkq:=(lO kq);have hall:Below w.heap.size w w2:=Below.trans (by go_grown) (hx.mono (by go_size));have hsz:w.heap.size<=w2.heap.size:=hall.size;have h02:Below wr.heap.size wr w2:=Below.trans (by go_grown) (hx.mono (by go_size));have hbd2:=hbd.below h02;clear hx)
    |(go_at_call 117;refine(say3 w1.heap.size _ Pl.wStation nm (Pl.spelt x) _ (by omega) hbd2 hll).mono ?_;rintro e w3 ⟨rfl,hbd3,hx3,hk3⟩;have kq3:=hk3.at_ kq (by omega) (by decide);obtain⟨hckq3,hfkq3⟩:=blk_cells kq3;have hsz3:=hx3.size;have kb3:=(hx3.block w.heap.size (by omega)).trans kb;have hall3:=hall.trans (hx3.mono (by omega))))
   all_goals go_wp2
   all_goals (
    go_roundw
    case rel=>exact⟨k+1,by omega,by go_num,by rw[HN.out];exact hbd3,kb3,hall3⟩
    case measure=>first|(simp[intOf];done)|(simp[intOf];omega))
  ·obtain rfl:k=f.st.length:=by omega
   clear hxs
   have hp1:=Pl.prn_len Pl.staW f.st _ (sta_len hm hxs0.out) f.st.length
   obtain⟨P1,hP1⟩: ∃P,Pl.prn Pl.staW f.st f.st.length=P:=⟨_,rfl⟩
   rw[hP1]at hbd hp1
   have HP1:=Lib.hid hP1
   clear hP1
   go_wp2
   go_loopw [36] (fun i wr=> ∃(k:Nat),k<=f.li.length∧i=.int .i64 k∧IsBd w1.heap.size w1.heap.size (P1++Pl.prn Pl.limW f.li k) wr∧wr.heap[w.heap.size]?=some (.cells (fq A1 A2 A3 A4 c1 c2 c3 c4 f) 28 (0,0))∧Below w.heap.size w wr) (fun i _=>f.li.length-(intOf i).toNat)
   case atStart=>exact⟨0,by omega,rfl,by rw[Pl.prn_zero,List.append_nil];exact hbd,kb,hall⟩
   case round=>
    clear kb hckb hfkb hall hsz hbd hltb
    obtain⟨k,hk,rfl,hbd,kb,hall⟩:=hrel
    obtain⟨hckb,hfkb⟩:=blk_cells kb
    have hltb:=hbd.lt
    have hsz:=hall.size
    by_cases hlt:k<f.li.length
    ·obtain⟨b0,off,hA,hbB,q0⟩:=Nms.at1 (hf.li.below hall) hlt
     have hpre:=Pl.prn_len Pl.limW f.li _ (lim_len hm) k
     have hll:=lim_len hm _ (List.getElem_mem hlt)
     have HN:=Lib.hid (Pl.prn_succ Pl.limW hlt)
     obtain⟨nm,hsx⟩: ∃s,f.li[k]=s:=⟨_,rfl⟩
     rw[hsx]at q0 HN hll
     clear hsx
     subst hA
     go_wp2_with fail
     refine(say2 w1.heap.size _ Pl.wLimit nm _ (by rw[List.length_append];omega) hbd hll).mono ?_
     rintro e w3 ⟨rfl,hbd3,hx3,hk3⟩
     have hsz3:=hx3.size
     have kb3:=(hx3.block w.heap.size (by omega)).trans kb
     have hall3:=hall.trans (hx3.mono (by omega))
     go_wp2
     go_roundw
     case rel=>exact⟨k+1,by omega,by go_num,by rw[HN.out,<-List.append_assoc];exact hbd3,kb3,hall3⟩
     case measure=>first|(simp[intOf];done)|(simp[intOf];omega)
    ·obtain rfl:k=f.li.length:=by omega
     have hp2:=Pl.prn_len Pl.limW f.li _ (lim_len hm) f.li.length
     obtain⟨P2,hP2⟩: ∃P,P1++Pl.prn Pl.limW f.li f.li.length=P:=⟨_,rfl⟩
     have hp3:P2.length<=12000000+10000000:=by rw[<-hP2,List.length_append];omega
     rw[hP2]at hbd
     have HP2:=Lib.hid hP2
     clear hP2 hp1 hp2
     go_wp2
     go_loopw [48] (fun i wr=> ∃(k:Nat),k<=f.pa.length∧i=.int .i64 k∧IsBd w1.heap.size w1.heap.size (P2++Pl.prn (Pl.parW f) f.pa k) wr∧wr.heap[w.heap.size]?=some (.cells (fq A1 A2 A3 A4 c1 c2 c3 c4 f) 28 (0,0))∧Below w.heap.size w wr) (fun i _=>f.pa.length-(intOf i).toNat)
     case atStart=>exact⟨0,by omega,rfl,by rw[Pl.prn_zero,List.append_nil];exact hbd,kb,hall⟩
     case round=>
      clear kb hckb hfkb hall hsz hbd hltb
      obtain⟨k,hk,rfl,hbd,kb,hall⟩:=hrel
      obtain⟨hckb,hfkb⟩:=blk_cells kb
      have hltb:=hbd.lt
      have hsz:=hall.size
      by_cases hlt:k<f.pa.length
      ·obtain⟨b3,off3,hA3,hbB3,q0,q1,q2,q3⟩:=Pars.at4 (hf.pa.below hall) hlt
       have hpre:=Pl.prn_len (Pl.parW f) f.pa _ (par_len hm) k
       have hll:=par_len hm _ (List.getElem_mem hlt)
       have HN:=Lib.hid (Pl.prn_succ (Pl.parW f) hlt)
       have po:=Pl.parIn_all (hpk.out _ (List.getElem_mem hlt))
       obtain⟨⟨nm,ps,pf,pt⟩,hsx⟩: ∃s,f.pa[k]=s:=⟨_,rfl⟩
       rw[hsx]at q0 q1 q2 q3 HN hll po
       obtain⟨p1,p2,p3,p4,p5,p6⟩:=po
       simp only at p1 p2 p3 p4 p5 p6 q0 q1 q2 q3
       clear hsx
       obtain⟨sn,rfl⟩:=Int.eq_ofNat_of_zero_le p1
       obtain⟨fn,rfl⟩:=Int.eq_ofNat_of_zero_le p3
       obtain⟨tn,rfl⟩:=Int.eq_ofNat_of_zero_le p5
       have hs1:sn<f.li.length:=by omega
       have hs2:fn<f.st.length:=by omega
       have hs3:tn<f.st.length:=by omega
       have hW:Pl.parW f ⟨nm,sn,fn,tn⟩=[Pl.wParcel,nm,f.li[sn],f.st[fn].1,f.st[tn].1]:=by
        simp[Pl.parW,Pl.liN,Pl.stN,List.getElem?_eq_getElem hs1,List.getElem?_eq_getElem hs2,List.getElem?_eq_getElem hs3]
       rw[hW]at HN hll
       obtain⟨b2,off2,hA2,hbB2,r0⟩:=Nms.at1 (hf.li.below hall) hs1
       obtain⟨b1,off1,hA1,hbB1,u0,_⟩:=Stas.at2 (hf.st.below hall) hs2
       obtain⟨b1',off1',hA1',_,v0,_⟩:=Stas.at2 (hf.st.below hall) hs3
       rw[hA1]at hA1'
       obtain⟨rfl,rfl⟩:b1=b1'∧off1=off1':=by simpa using hA1'
       obtain⟨n1,hn1⟩: ∃s,f.li[sn]=s:=⟨_,rfl⟩
       obtain⟨n2,hn2⟩: ∃s,f.st[fn].1=s:=⟨_,rfl⟩
       obtain⟨n3,hn3⟩: ∃s,f.st[tn].1=s:=⟨_,rfl⟩
       rw[hn1]at r0 HN hll
       rw[hn2]at u0 HN hll
       rw[hn3]at v0 HN hll
       clear hW hA1' hn1 hn2 hn3
       subst hA1 hA2 hA3
       have kq:=heap_alloc_new wr (.cells #[.string nm,.int .i64 sn,.int .i64 fn,.int .i64 tn] 112)
       obtain⟨hckq,hfkq⟩:=blk_cells kq
       have a1:(0:Int)<=(sn:Int):=by omega
       have a2:(sn:Int)<(f.li.length:Int):=by omega
       have a3:(0:Int)<=(fn:Int):=by omega
       have a4:(fn:Int)<(f.st.length:Int):=by omega
       have a5:(0:Int)<=(tn:Int):=by omega
       have a6:(tn:Int)<(f.st.length:Int):=by omega
       have l1:decide ((sn:Int)<0)=false:=by simp
       have l2:decide (f.li.length<=sn)=false:=by simp;omega
       have l3:decide ((fn:Int)<0)=false:=by simp
       have l4:decide (f.st.length<=fn)=false:=by simp;omega
       have l5:decide ((tn:Int)<0)=false:=by simp
       have l6:decide (f.st.length<=tn)=false:=by simp;omega
       obtain⟨X,hX⟩: ∃X,(wr.alloc (.cells #[.string nm,.int .i64 (sn:Int),.int .i64 fn,.int .i64 tn] 112))=X:=⟨_,rfl⟩
       have hbX:Below wr.heap.size wr X:=hX▸(Below.refl wr.heap.size wr).alloc (Nat.le_refl _) _
       have hXs:X.heap.size=wr.heap.size+1:=by rw[<-hX];simp
       rw[hX]at kq hckq
       have hbXY:Below X.heap.size X (X.alloc (.cells #[.string Pl.wParcel,.string nm,.string n1,.string n2,.string n3] 9)):=(Below.refl _ X).alloc (Nat.le_refl _) _
       have hbY:=hbX.trans (hbXY.mono (by omega))
       have hbdY:=hbd.below hbY
       have kbX:=(hbX.block w.heap.size (by omega)).trans kb
       have kbY:=(hbY.block w.heap.size (by omega)).trans kb
       have kqY:=(hbXY.block wr.heap.size (by omega)).trans kq
       obtain⟨hckbX,_⟩:=blk_cells kbX
       obtain⟨hckbY,_⟩:=blk_cells kbY
       obtain⟨hckqY,_⟩:=blk_cells kqY
       have rX:=(hbX.cell (p:=⟨b2,off2+sn,none⟩) (show b2<wr.heap.size by omega)).trans r0
       have uX:=(hbX.cell (p:=⟨b1,off1+fn*2,none⟩) (show b1<wr.heap.size by omega)).trans u0
       have vX:=(hbX.cell (p:=⟨b1,off1+tn*2,none⟩) (show b1<wr.heap.size by omega)).trans v0
       have rY:=(hbY.cell (p:=⟨b2,off2+sn,none⟩) (show b2<wr.heap.size by omega)).trans r0
       have uY:=(hbY.cell (p:=⟨b1,off1+fn*2,none⟩) (show b1<wr.heap.size by omega)).trans u0
       have vY:=(hbY.cell (p:=⟨b1,off1+tn*2,none⟩) (show b1<wr.heap.size by omega)).trans v0
       have hNY:=nms_new X [Pl.wParcel,nm,n1,n2,n3] 9 #[.string Pl.wParcel,.string nm,.string n1,.string n2,.string n3] rfl
       rw[hXs]at hNY
       have hallY:=hall.trans (hbY.mono (by omega))
       have hbdZ:IsBd w1.heap.size w1.heap.size (P2++Pl.prn (Pl.parW f) f.pa k) (X.alloc (.cells #[.string Pl.wParcel,.string nm,.string n1,.string n2,.string n3] 9)).drew:=hbdY
       have hNZ:Nms (X.alloc (.cells #[.string Pl.wParcel,.string nm,.string n1,.string n2,.string n3] 9)).drew (X.alloc (.cells #[.string Pl.wParcel,.string nm,.string n1,.string n2,.string n3] 9)).drew.heap.size (some ⟨wr.heap.size+1,0,none⟩) [Pl.wParcel,nm,n1,n2,n3]:=hNY
       have hafter: ∀w3,Below w1.heap.size (X.alloc (.cells #[.string Pl.wParcel,.string nm,.string n1,.string n2,.string n3] 9)).drew w3->Keeps w1.heap.size (X.alloc (.cells #[.string Pl.wParcel,.string nm,.string n1,.string n2,.string n3] 9)).drew w3->((∀j,w3.cell? ⟨wr.heap.size,j,none⟩=(#[.string nm,.int .i64 (sn:Int),.int .i64 fn,.int .i64 tn]:Array Value)[j]?)∧(∀j,w3.cell? ⟨w.heap.size,j,none⟩=((fq (some ⟨b1,off1,none⟩) (some ⟨b2,off2,none⟩) (some ⟨b3,off3,none⟩) A4 c1 c2 c3 c4 f):Array Value)[j]?)∧w3.cell? ⟨b2,off2+sn,none⟩=some (.string n1)∧w3.cell? ⟨b1,off1+fn*2,none⟩=some (.string n2)∧w3.cell? ⟨b1,off1+tn*2,none⟩=some (.string n3))∧w3.heap[w.heap.size]?=some (.cells (fq (some ⟨b1,off1,none⟩) (some ⟨b2,off2,none⟩) (some ⟨b3,off3,none⟩) A4 c1 c2 c3 c4 f) 28 (0,0))∧Below w.heap.size w w3:=by
        intro w3 hx3 hk3
        have kq3:=hk3.at_ (k:=wr.heap.size) kqY (by omega) (by decide)
        have kb3:=(hx3.block w.heap.size (by omega)).trans kbY
        have h8:Below w.heap.size w (X.alloc (.cells #[.string Pl.wParcel,.string nm,.string n1,.string n2,.string n3] 9)).drew:=by first|exact hallY.drew|exact below_drewN hallY 1
        have h9:Below w.heap.size (X.alloc (.cells #[.string Pl.wParcel,.string nm,.string n1,.string n2,.string n3] 9)).drew w3:=hx3.mono (by omega)
        exact⟨⟨(blk_cells kq3).1,(blk_cells kb3).1,(hx3.cell (p:=⟨b2,off2+sn,none⟩) (show b2<w1.heap.size by omega)).trans rY,(hx3.cell (p:=⟨b1,off1+fn*2,none⟩) (show b1<w1.heap.size by omega)).trans uY,(hx3.cell (p:=⟨b1,off1+tn*2,none⟩) (show b1<w1.heap.size by omega)).trans vY⟩,kb3,h8.trans h9⟩
       have hafter:=Lib.hid hafter
       clear hfkq hfkb
       subst hX
       go_wp2
       go_region_held3 (fun W=>(∀j,W.cell? ⟨wr.heap.size,j,none⟩=(#[.string nm,.int .i64 (sn:Int),.int .i64 fn,.int .i64 tn]:Array Value)[j]?)∧(∀j,W.cell? ⟨w.heap.size,j,none⟩=((fq (some ⟨b1,off1,none⟩) (some ⟨b2,off2,none⟩) (some ⟨b3,off3,none⟩) A4 c1 c2 c3 c4 f):Array Value)[j]?)∧W.cell? ⟨b2,off2+sn,none⟩=some (.string n1)∧W.cell? ⟨b1,off1+fn*2,none⟩=some (.string n2)∧W.cell? ⟨b1,off1+tn*2,none⟩=some (.string n3))
        (first|exact⟨hckq,hckbX,rX,uX,vX⟩|exact⟨hckqY,hckbY,rY,uY,vY⟩|exact ha3)
        (first|(go_at_call 117;refine(say5g w1.heap.size _ _ Pl.wParcel nm n1 n2 n3 _ (by rw[List.length_append];omega) hbdZ hll hNZ).mono ?_;rintro e w3 ⟨rfl,hbd3,hx3,hk3⟩;obtain⟨ha3,kb3,hall3⟩:=hafter.out w3 hx3 hk3))
       all_goals go_wp2
       all_goals (
        go_roundw
        case rel=>exact⟨k+1,by omega,by go_num,by rw[HN.out,<-List.append_assoc];exact hbd3,kb3,hall3⟩
        case measure=>first|(simp[intOf];done)|(simp[intOf];omega))
      ·obtain rfl:k=f.pa.length:=by omega
       have hp4:=Pl.prn_len (Pl.parW f) f.pa _ (par_len hm) f.pa.length
       obtain⟨P3,hP3⟩: ∃P,P2++Pl.prn (Pl.parW f) f.pa f.pa.length=P:=⟨_,rfl⟩
       have hp5:P3.length<=22000000+40000000:=by rw[<-hP3,List.length_append];omega
       rw[hP3]at hbd
       have HP3:=Lib.hid hP3
       clear hP3 hp3 hp4
       go_wp2
       go_loopw [81] (fun i wr=> ∃(k:Nat),k<=f.va.length∧i=.int .i64 k∧IsBd w1.heap.size w1.heap.size (P3++Pl.prn Pl.varW f.va k) wr∧wr.heap[w.heap.size]?=some (.cells (fq A1 A2 A3 A4 c1 c2 c3 c4 f) 28 (0,0))∧Below w.heap.size w wr) (fun i _=>f.va.length-(intOf i).toNat)
       case atStart=>exact⟨0,by omega,rfl,by rw[Pl.prn_zero,List.append_nil];exact hbd,kb,hall⟩
       case round=>
        clear kb hckb hfkb hall hsz hbd hltb
        obtain⟨k,hk,rfl,hbd,kb,hall⟩:=hrel
        obtain⟨hckb,hfkb⟩:=blk_cells kb
        have hltb:=hbd.lt
        have hsz:=hall.size
        have hvm:=hm.va
        by_cases hlt:k<f.va.length
        ·obtain⟨b0,off,hA,hbB,q0,q1⟩:=Vars.at2 (hf.va.below hall) hlt
         have hxx:=hva0.out _ (List.getElem_mem hlt)
         have hpre:=Pl.prn_len Pl.varW f.va _ (var_len hva0.out) k
         have hll:=var_len hva0.out _ (List.getElem_mem hlt)
         have HN:=Lib.hid (Pl.prn_succ Pl.varW hlt)
         obtain⟨⟨x,y⟩,hsx⟩: ∃s,f.va[k]=s:=⟨_,rfl⟩
         rw[hsx]at q0 q1 hxx HN hll
         obtain⟨⟨x0,x1⟩,y0,y1⟩:=hxx
         simp only at x0 x1 y0 y1 q0 q1
         clear hsx
         subst hA
         have kq:=heap_alloc_new wr (.cells (i2 x y) 114)
         obtain⟨hckq,hfkq⟩:=blk_cells kq
         go_wp2
         go_region_held3 (fun W=> ∀j,W.cell? ⟨wr.heap.size,j,none⟩=((i2 x y):Array Value)[j]?) (first|exact hckq|exact hckq3|exact fun j=>(World.cell?_of_block (Below.heap_alloc _ _ _ hltkq)).trans (hckq j)) (first
          |(go_at_call 120;refine(itoa_lib x _ (hEn.up (by go_grown)) (by omega) (by omega)).mono ?_;rintro e w2 ⟨rfl,hx⟩;obtain⟨kb,hckb,hfkb,hltkb⟩:=kB hx kb;have kq:=(hx.block (wr.heap.size) (by first|exact(lO kq)|omega|(simp;done)|(simp;omega))).trans (by first|exact kq|exact(Below.heap_alloc _ _ _ (lO kq)).trans kq);obtain⟨hckq,hfkq⟩:=blk_cells kq;have hltkq:=(lO kq);have hall:Below w.heap.size w w2:=Below.trans (by go_grown) (hx.mono (by go_size));have hsz:w.heap.size<=w2.heap.size:=hall.size;have h02:Below wr.heap.size wr w2:=Below.trans (by go_grown) (hx.mono (by go_size));have hbd2:=hbd.below h02;clear hx)
          |(go_at_call 120;refine(itoa_lib y _ (hEn.up (by go_grown)) (by omega) (by omega)).mono ?_;rintro e w4 ⟨rfl,hx4⟩;have kb:=(hx4.block w.heap.size (by omega)).trans kb;have kq:=(hx4.block wr.heap.size (by omega)).trans kq;obtain⟨hckq,hfkq⟩:=blk_cells kq;have hltkq:=(lO kq);have hall:=hall.trans (hx4.mono (by omega));have hbd4:=hbd2.below hx4)
          |(go_at_call 117;refine(say3 w1.heap.size _ Pl.wVariation (Pl.spelt x) (Pl.spelt y) _ (by rw[List.length_append];omega) hbd4 hll).mono ?_;rintro e w3 ⟨rfl,hbd3,hx3,hk3⟩;have kq3:=hk3.at_ kq (by omega) (by decide);obtain⟨hckq3,hfkq3⟩:=blk_cells kq3;have hsz3:=hx3.size;have kb3:=(hx3.block w.heap.size (by omega)).trans kb;have hall3:=hall.trans (hx3.mono (by omega))))
         all_goals go_wp2
         all_goals (
          go_roundw
          case rel=>exact⟨k+1,by omega,by go_num,by rw[HN.out,<-List.append_assoc];exact hbd3,kb3,hall3⟩
          case measure=>first|(simp[intOf];done)|(simp[intOf];omega))
        ·obtain rfl:k=f.va.length:=by omega
         have HR:Hid (P3++Pl.prn Pl.varW f.va f.va.length=Pl.printL f):=Lib.hid (by unfold Pl.printL;rw[<-HP3.out,<-HP2.out,<-HP1.out])
         rw[HR.out]at hbd
         go_wp2_with fail
         refine(strB w1.heap.size w1.heap.size (Pl.printL f) _ hbd).mono ?_
         rintro e w5 ⟨rfl,hx⟩
         have hall5:=hall.trans (hx.mono (by omega))
         go_wp2
         go_ret
         exact⟨rfl,hall5⟩
theorem PrintField_no (w:World)(hf:FldS w w.heap.size A1 A2 A3 A4 f)(hm:Small f)(hc:Caps c1 c2 c3 c4 f)(hE:Pl.fieldE f≠0):
  Calls Tryz.prog 44 #[.agg (fq A1 A2 A3 A4 c1 c2 c3 c4 f)] w fun e w'=>e=.returned (.string ⟨#[]⟩)∧Below w.heap.size w w':=by
 obtain⟨E,he⟩: ∃E,Pl.fieldE f=E:=⟨_,rfl⟩
 rw[he]at hE
 have HE:=Lib.hid he
 have hne:(E !=0)=true:=by simpa using hE
 clear he hE
 have kb:=heap_alloc_new w (.cells (fq A1 A2 A3 A4 c1 c2 c3 c4 f) 28)
 go_enter Tryz.func44,Tryz.ntmps44
 go_wp2_with (go_at_call 22;refine(checkField_h A1 A2 A3 A4 c1 c2 c3 c4 f E _ HE (hf.up (by go_grown)) hm hc).mono ?_;rintro e w1 ⟨rfl,hx⟩;obtain⟨kb,hckb,hfkb,hltkb⟩:=kB hx kb;have hall:Below w.heap.size w w1:=Below.trans (by go_grown) (hx.mono (by go_size));have hsz:w.heap.size<=w1.heap.size:=hall.size;clear hx)
 go_ret
 exact⟨rfl,hall⟩
theorem PrintField_h (S:ByteArray)(w:World)(hEn:Env w)(h:Hid (Pl.printB f=S))(hf:FldS w w.heap.size A1 A2 A3 A4 f)(hm:Small f)(hc:Caps c1 c2 c3 c4 f):
  Calls Tryz.prog 44 #[.agg (fq A1 A2 A3 A4 c1 c2 c3 c4 f)] w fun e w'=>e=.returned (.string S)∧Below w.heap.size w w':=by
 rw[<-h.out]
 unfold Pl.printB
 split
 ·exact PrintField_ok A1 A2 A3 A4 c1 c2 c3 c4 f w hEn hf hm hc ‹_›
 ·exact PrintField_no A1 A2 A3 A4 c1 c2 c3 c4 f w hf hm hc ‹_›
end Go.Proofs.YtgbpekeoegfjpaaGreatDoor
set_option maxRecDepth 100000
namespace Go.Proofs.YtgbpekeoegfjpaaGreatDoor
open Go.RowKit
variable (A1 A2 A3 A4 : Option Addr) (c1 c2 c3 c4 : Nat) (f : Pl.Fld)
attribute [-go_sem] loadVar storeVar run_equalIn_agg
attribute [local go_sem] lv_int lv_bool lv_u8 lv_string lv_calls lv_errno
set_option maxHeartbeats 8000000 in
theorem ded_many (x:Pl.Ded×Option Addr×Nat)(w:World)(_hf:FldS w w.heap.size A1 A2 A3 A4 f)(_hm:Small f)(_hc:Caps c1 c2 c3 c4 f)(_hF:Pl.fieldE f=0)(_hcl:Cals w w.heap.size x.2.1 x.1.calls)(_hk: ∀c∈x.1.calls,c.kind<=255)(_hn:x.1.name.size<=100000)(h:20<x.1.calls.length):
  Calls Tryz.prog 123 #[.agg (fq A1 A2 A3 A4 c1 c2 c3 c4 f),.agg #[.string x.1.name,.int .i64 x.1.year,.int .i64 x.1.rank,.slice x.2.1 x.1.calls.length x.2.2]] w fun e w'=>e=.returned (.int .i64 (Pl.dedE f x.1))∧Below w.heap.size w w':=by
 have kf:=heap_alloc2_old w (.cells (fq A1 A2 A3 A4 c1 c2 c3 c4 f) 28) (.cells #[.string x.1.name,.int .i64 x.1.year,.int .i64 x.1.rank,.slice x.2.1 x.1.calls.length x.2.2] 90)
 have kd:=heap_alloc2_new w (.cells (fq A1 A2 A3 A4 c1 c2 c3 c4 f) 28) (.cells #[.string x.1.name,.int .i64 x.1.year,.int .i64 x.1.rank,.slice x.2.1 x.1.calls.length x.2.2] 90)
 have hb0:Below w.heap.size w ((w.alloc (.cells (fq A1 A2 A3 A4 c1 c2 c3 c4 f) 28)).alloc (.cells #[.string x.1.name,.int .i64 x.1.year,.int .i64 x.1.rank,.slice x.2.1 x.1.calls.length x.2.2] 90)):=((Below.refl _ w).alloc (Nat.le_refl _) _).alloc (by simp) _
 obtain⟨hcf,hff⟩:=blk_cells kf
 obtain⟨hcd,hfd⟩:=blk_cells kd
 have l01:=ld_row kf Tryz.underlying28 rfl info_fld
 have HV:Hid (Pl.dedE f x.1=2):=Lib.hid (by unfold Pl.dedE;rw[if_pos h])
 have n1:(20:Int)<(x.1.calls.length:Int):=by omega
 go_enter Tryz.func123,Tryz.ntmps123
 go_wp2
 go_ret
 exact⟨by rw[HV.out];rfl,hb0⟩
set_option maxHeartbeats 8000000 in
theorem ded_name (x:Pl.Ded×Option Addr×Nat)(w:World)(_hf:FldS w w.heap.size A1 A2 A3 A4 f)(_hm:Small f)(_hc:Caps c1 c2 c3 c4 f)(_hF:Pl.fieldE f=0)(_hcl:Cals w w.heap.size x.2.1 x.1.calls)(_hk: ∀c∈x.1.calls,c.kind<=255)(hn:x.1.name.size<=100000)(h: ¬20<x.1.calls.length)(hN:Pl.isName x.1.name=false):
  Calls Tryz.prog 123 #[.agg (fq A1 A2 A3 A4 c1 c2 c3 c4 f),.agg #[.string x.1.name,.int .i64 x.1.year,.int .i64 x.1.rank,.slice x.2.1 x.1.calls.length x.2.2]] w fun e w'=>e=.returned (.int .i64 (Pl.dedE f x.1))∧Below w.heap.size w w':=by
 have kf:=heap_alloc2_old w (.cells (fq A1 A2 A3 A4 c1 c2 c3 c4 f) 28) (.cells #[.string x.1.name,.int .i64 x.1.year,.int .i64 x.1.rank,.slice x.2.1 x.1.calls.length x.2.2] 90)
 have kd:=heap_alloc2_new w (.cells (fq A1 A2 A3 A4 c1 c2 c3 c4 f) 28) (.cells #[.string x.1.name,.int .i64 x.1.year,.int .i64 x.1.rank,.slice x.2.1 x.1.calls.length x.2.2] 90)
 have hb0:Below w.heap.size w ((w.alloc (.cells (fq A1 A2 A3 A4 c1 c2 c3 c4 f) 28)).alloc (.cells #[.string x.1.name,.int .i64 x.1.year,.int .i64 x.1.rank,.slice x.2.1 x.1.calls.length x.2.2] 90)):=((Below.refl _ w).alloc (Nat.le_refl _) _).alloc (by simp) _
 obtain⟨hcf,hff⟩:=blk_cells kf
 obtain⟨hcd,hfd⟩:=blk_cells kd
 have l01:=ld_row kf Tryz.underlying28 rfl info_fld
 have HV:Hid (Pl.dedE f x.1=4):=Lib.hid (by unfold Pl.dedE;rw[if_neg h,if_pos hN])
 have n1: ¬(20:Int)<(x.1.calls.length:Int):=by omega
 have HN:=Lib.hid hN
 clear hN
 go_enter Tryz.func123,Tryz.ntmps123
 go_wp2_with (go_at_call 82;refine(isName_a _ _ hn).mono ?_;rintro e w' ⟨rfl,rfl⟩;rw[HN.out])
 go_ret
 exact⟨by rw[HV.out];rfl,hb0⟩
set_option maxHeartbeats 8000000 in
theorem ded_date (x:Pl.Ded×Option Addr×Nat)(w:World)(_hf:FldS w w.heap.size A1 A2 A3 A4 f)(_hm:Small f)(_hc:Caps c1 c2 c3 c4 f)(_hF:Pl.fieldE f=0)(_hcl:Cals w w.heap.size x.2.1 x.1.calls)(_hk: ∀c∈x.1.calls,c.kind<=255)(hn:x.1.name.size<=100000)(h: ¬20<x.1.calls.length)(hN:Pl.isName x.1.name=true)(hD:(Pl.inB x.1.year 1 3000&&Pl.inB x.1.rank 0 1000)=false):
  Calls Tryz.prog 123 #[.agg (fq A1 A2 A3 A4 c1 c2 c3 c4 f),.agg #[.string x.1.name,.int .i64 x.1.year,.int .i64 x.1.rank,.slice x.2.1 x.1.calls.length x.2.2]] w fun e w'=>e=.returned (.int .i64 (Pl.dedE f x.1))∧Below w.heap.size w w':=by
 have kf:=heap_alloc2_old w (.cells (fq A1 A2 A3 A4 c1 c2 c3 c4 f) 28) (.cells #[.string x.1.name,.int .i64 x.1.year,.int .i64 x.1.rank,.slice x.2.1 x.1.calls.length x.2.2] 90)
 have kd:=heap_alloc2_new w (.cells (fq A1 A2 A3 A4 c1 c2 c3 c4 f) 28) (.cells #[.string x.1.name,.int .i64 x.1.year,.int .i64 x.1.rank,.slice x.2.1 x.1.calls.length x.2.2] 90)
 have hb0:Below w.heap.size w ((w.alloc (.cells (fq A1 A2 A3 A4 c1 c2 c3 c4 f) 28)).alloc (.cells #[.string x.1.name,.int .i64 x.1.year,.int .i64 x.1.rank,.slice x.2.1 x.1.calls.length x.2.2] 90)):=((Below.refl _ w).alloc (Nat.le_refl _) _).alloc (by simp) _
 obtain⟨hcf,hff⟩:=blk_cells kf
 obtain⟨hcd,hfd⟩:=blk_cells kd
 have l01:=ld_row kf Tryz.underlying28 rfl info_fld
 have HV:Hid (Pl.dedE f x.1=1):=Lib.hid (by unfold Pl.dedE Pl.datedB;rw[if_neg h,if_neg (by rw[hN];decide),if_pos hD])
 have n1: ¬(20:Int)<(x.1.calls.length:Int):=by omega
 have HN:=Lib.hid hN
 have HD:=Lib.hid hD
 clear hN hD
 go_enter Tryz.func123,Tryz.ntmps123
 go_wp2_with (first|(go_at_call 82;refine(isName_a _ _ hn).mono ?_;rintro e w' ⟨rfl,rfl⟩;rw[HN.out])|(go_at_call 160;refine(dated_a _ _ _).mono ?_;rintro e w' ⟨rfl,rfl⟩;rw[HD.out]))
 go_ret
 exact⟨by rw[HV.out];rfl,hb0⟩
set_option maxHeartbeats 8000000 in
theorem ded_calls (x:Pl.Ded×Option Addr×Nat)(w:World)(hf:FldS w w.heap.size A1 A2 A3 A4 f)(hm:Small f)(hc:Caps c1 c2 c3 c4 f)(hF:Pl.fieldE f=0)(hcl:Cals w w.heap.size x.2.1 x.1.calls)(hk: ∀c∈x.1.calls,c.kind<=255)(hn:x.1.name.size<=100000)(h: ¬20<x.1.calls.length)(hN:Pl.isName x.1.name=true)(hD:(Pl.inB x.1.year 1 3000&&Pl.inB x.1.rank 0 1000)=true):
  Calls Tryz.prog 123 #[.agg (fq A1 A2 A3 A4 c1 c2 c3 c4 f),.agg #[.string x.1.name,.int .i64 x.1.year,.int .i64 x.1.rank,.slice x.2.1 x.1.calls.length x.2.2]] w fun e w'=>e=.returned (.int .i64 (Pl.dedE f x.1))∧Below w.heap.size w w':=by
 have kf:=heap_alloc2_old w (.cells (fq A1 A2 A3 A4 c1 c2 c3 c4 f) 28) (.cells #[.string x.1.name,.int .i64 x.1.year,.int .i64 x.1.rank,.slice x.2.1 x.1.calls.length x.2.2] 90)
 have kd:=heap_alloc2_new w (.cells (fq A1 A2 A3 A4 c1 c2 c3 c4 f) 28) (.cells #[.string x.1.name,.int .i64 x.1.year,.int .i64 x.1.rank,.slice x.2.1 x.1.calls.length x.2.2] 90)
 have hb0:Below w.heap.size w ((w.alloc (.cells (fq A1 A2 A3 A4 c1 c2 c3 c4 f) 28)).alloc (.cells #[.string x.1.name,.int .i64 x.1.year,.int .i64 x.1.rank,.slice x.2.1 x.1.calls.length x.2.2] 90)):=((Below.refl _ w).alloc (Nat.le_refl _) _).alloc (by simp) _
 obtain⟨hcf,hff⟩:=blk_cells kf
 obtain⟨hcd,hfd⟩:=blk_cells kd
 have l01:=ld_row kf Tryz.underlying28 rfl info_fld
 have HV:Hid (Pl.dedE f x.1=Pl.callsE f x.1.year x.1.calls):=Lib.hid (by unfold Pl.dedE Pl.datedB;rw[if_neg h,if_neg (by rw[hN];decide),if_neg (by rw[hD];decide)])
 have n1: ¬(20:Int)<(x.1.calls.length:Int):=by omega
 have HN:=Lib.hid hN
 have HD:=Lib.hid hD
 clear hN hD
 obtain⟨⟨nm,yr,rk,cs⟩,P,pc⟩:=x
 simp only at*
 go_enter Tryz.func123,Tryz.ntmps123
 go_wp2_with (first|(go_at_call 82;refine(isName_a _ _ hn).mono ?_;rintro e w' ⟨rfl,rfl⟩;rw[HN.out])|(go_at_call 160;refine(dated_a _ _ _).mono ?_;rintro e w' ⟨rfl,rfl⟩;rw[HD.out]))
 obtain⟨W0,hW0⟩: ∃W0,((w.alloc (.cells (fq A1 A2 A3 A4 c1 c2 c3 c4 f) 28)).alloc (.cells #[.string nm,.int .i64 yr,.int .i64 rk,.slice P cs.length pc] 90))=W0:=⟨_,rfl⟩
 rw[hW0]at kf kd hb0 hcf hcd hff hfd l01 ⊢
 clear hW0 hcf hcd hff hfd l01
 have hal:w.heap.size+1<W0.heap.size:=(lO kd)
 obtain⟨E,hE⟩: ∃E,Pl.callsE f yr cs=E:=⟨_,rfl⟩
 rw[hE]at HV
 go_loopw [28] (fun i wr=> ∃(k:Nat),k<=cs.length∧i=.int .i64 k∧Hid (Pl.callsE f yr (cs.drop k)=E)∧Below W0.heap.size W0 wr) (fun i _=>cs.length-(intOf i).toNat)
 case atStart=>exact⟨0,by omega,rfl,Lib.hid (by rw[List.drop_zero];exact hE),Below.refl _ _⟩
 case round=>
  obtain⟨k,hkl,rfl,hdr,hall⟩:=hrel
  have kf:=(hall.block _ (by omega)).trans kf
  have kd:=(hall.block _ hal).trans kd
  obtain⟨hcd,hfd⟩:=blk_cells kd
  have hsz:=hall.size
  have hbw:Below w.heap.size w wr:=hb0.trans (hall.mono hb0.size)
  by_cases hlt:k<cs.length
  ·obtain⟨g,o,hP,hg,u0⟩:=Cals.ld hcl hlt
   have hkc:=hk _ (List.getElem_mem hlt)
   have hdr2:Hid (Pl.callsE f yr (cs[k]::cs.drop (k+1))=E):=Lib.hid (by rw[<-List.drop_eq_getElem_cons hlt];exact hdr.out)
   obtain⟨c,hcd0⟩: ∃c,cs[k]=c:=⟨_,rfl⟩
   rw[hcd0]at u0 hkc hdr2
   clear hcd0
   subst hP
   have e1:(0:Int)<=(k:Int):=by omega
   have e2:(k:Int)<(cs.length:Int):=by omega
   have u1:=u0 _ hbw
   have kn:=heap_alloc_new wr (.cells z13 48)
   obtain⟨W1,st1,k1,hg1⟩:=st_row (wr.alloc (.cells z13 48)) wr.heap.size 48 48 z13 (kq c) kn info_cal rfl (by simp[Value.oneCell'])
   have hx1:Below wr.heap.size wr W1:=((Below.refl _ wr).alloc (Nat.le_refl _) _).grown hg1 (by simp) (fun j e=>by cases e;exact Nat.le_refl _)
   have kf1:=(hx1.block _ (by omega)).trans kf
   have kd1:=(hx1.block _ (by omega)).trans kd
   have l1:=ld_row kf1 Tryz.underlying28 rfl info_fld
   have l2:=ld_row k1 Tryz.underlying48 rfl info_cal
   have hb1:Below w.heap.size w W1:=hbw.trans (hx1.mono (by omega))
   have hchk:=check_a A1 A2 A3 A4 c1 c2 c3 c4 f c W1 (hf.up hb1) hm hc hF hkc
   obtain⟨Ec,hEc⟩: ∃E,Pl.callE f c=E:=⟨_,rfl⟩
   rw[hEc]at hchk
   have HEc:=Lib.hid hEc
   have hln:=(lO k1)
   clear hEc kn u0
   by_cases h0:Ec=0
   ·subst h0
    clear hcd hfd
    have HR:Hid ((if c.kind=3∧c.crs.y≠yr then 1 else Pl.callsE f yr (cs.drop (k+1)))=E):=Lib.hid (by have:=hdr2.out;unfold Pl.callsE at this;rw[HEc.out,if_neg (by simp)]at this;exact this)
    by_cases h3:c.kind=3
    ·have b3:((c.kind:Int)==3)=true:=by simp;omega
     by_cases hyr:c.crs.y=yr
     ·have b4:(c.crs.y !=yr)=false:=by simpa using hyr
      have HN2:Hid (Pl.callsE f yr (cs.drop (k+1))=E):=Lib.hid (by have:=HR.out;rw[if_neg (fun h=>h.2 hyr)]at this;exact this)
      clear h3 hyr
      go_wp2_with (go_at_call 108;refine hchk.mono ?_;rintro e w2 ⟨rfl,hy⟩;have hb2:=hb1.trans (hy.mono hb1.size);have ha2:Below W0.heap.size W0 w2:=(hall.trans (hx1.mono hsz)).trans (hy.mono (by have:=hx1.size;omega));have k2:=(hy.block _ hln).trans k1;obtain⟨hck,hfk⟩:=blk_cells k2;have kd2:=kE hy kd1;obtain⟨hcd2,hfd2⟩:=blk_cells kd2)
      go_roundw
      case rel=>exact⟨k+1,by omega,by go_num,HN2,ha2⟩
      case measure=>first|(simp[intOf];done)|(simp[intOf];omega)
     ·have b4:(c.crs.y !=yr)=true:=by simpa using hyr
      have HN2:Hid (1=E):=Lib.hid (by have:=HR.out;rw[if_pos ⟨h3,hyr⟩]at this;exact this)
      clear h3 hyr
      go_wp2_with (go_at_call 108;refine hchk.mono ?_;rintro e w2 ⟨rfl,hy⟩;have hb2:=hb1.trans (hy.mono hb1.size);have ha2:Below W0.heap.size W0 w2:=(hall.trans (hx1.mono hsz)).trans (hy.mono (by have:=hx1.size;omega));have k2:=(hy.block _ hln).trans k1;obtain⟨hck,hfk⟩:=blk_cells k2;have kd2:=kE hy kd1;obtain⟨hcd2,hfd2⟩:=blk_cells kd2)
      go_ret
      exact⟨by rw[HV.out,<-HN2.out];rfl,hb2⟩
    ·have b3:((c.kind:Int)==3)=false:=by simp;omega
     have HN2:Hid (Pl.callsE f yr (cs.drop (k+1))=E):=Lib.hid (by have:=HR.out;rw[if_neg (fun h=>h3 h.1)]at this;exact this)
     clear h3
     go_wp2_with (go_at_call 108;refine hchk.mono ?_;rintro e w2 ⟨rfl,hy⟩;have hb2:=hb1.trans (hy.mono hb1.size);have ha2:Below W0.heap.size W0 w2:=(hall.trans (hx1.mono hsz)).trans (hy.mono (by have:=hx1.size;omega));have k2:=(hy.block _ hln).trans k1;obtain⟨hck,hfk⟩:=blk_cells k2;have kd2:=kE hy kd1;obtain⟨hcd2,hfd2⟩:=blk_cells kd2)
     go_roundw
     case rel=>exact⟨k+1,by omega,by go_num,HN2,ha2⟩
     case measure=>first|(simp[intOf];done)|(simp[intOf];omega)
   ·have hne:(Ec !=0)=true:=by simpa using h0
    have HR:Hid (Ec=E):=Lib.hid (by have:=hdr2.out;unfold Pl.callsE at this;rw[HEc.out,if_pos h0]at this;exact this)
    clear h0
    go_wp2_with (go_at_call 108;refine hchk.mono ?_;rintro e w2 ⟨rfl,hy⟩;have hb2:=hb1.trans (hy.mono hb1.size))
    go_ret
    exact⟨by rw[HV.out,<-HR.out];rfl,hb2⟩
  ·have HR:Hid (0=E):=Lib.hid (by have:=hdr.out;rw[List.drop_of_length_le (by omega)]at this;exact this)
   go_wp2
   go_ret
   exact⟨by rw[HV.out,<-HR.out];rfl,hbw⟩
end Go.Proofs.YtgbpekeoegfjpaaGreatDoor
set_option maxRecDepth 100000
namespace Go.Proofs.YtgbpekeoegfjpaaGreatDoor
open Go.RowKit
variable (A1 A2 A3 A4 : Option Addr) (c1 c2 c3 c4 : Nat) (f : Pl.Fld)
attribute [-go_sem] loadVar storeVar run_equalIn_agg
attribute [local go_sem] lv_int lv_bool lv_u8 lv_string lv_calls lv_errno
theorem ded_a (x:Pl.Ded×Option Addr×Nat)(w:World)(hf:FldS w w.heap.size A1 A2 A3 A4 f)(hm:Small f)(hc:Caps c1 c2 c3 c4 f)(hF:Pl.fieldE f=0)(hcl:Cals w w.heap.size x.2.1 x.1.calls)(hk: ∀c∈x.1.calls,c.kind<=255)(hn:x.1.name.size<=100000):
  Calls Tryz.prog 123 #[.agg (fq A1 A2 A3 A4 c1 c2 c3 c4 f),.agg #[.string x.1.name,.int .i64 x.1.year,.int .i64 x.1.rank,.slice x.2.1 x.1.calls.length x.2.2]] w fun e w'=>e=.returned (.int .i64 (Pl.dedE f x.1))∧Below w.heap.size w w':=by
 by_cases h:20<x.1.calls.length
 ·exact ded_many A1 A2 A3 A4 c1 c2 c3 c4 f x w hf hm hc hF hcl hk hn h
 cases hN:Pl.isName x.1.name with
 |false=>exact ded_name A1 A2 A3 A4 c1 c2 c3 c4 f x w hf hm hc hF hcl hk hn h hN
 |true=>
  cases hD:(Pl.inB x.1.year 1 3000&&Pl.inB x.1.rank 0 1000)with
  |false=>exact ded_date A1 A2 A3 A4 c1 c2 c3 c4 f x w hf hm hc hF hcl hk hn h hN hD
  |true=>exact ded_calls A1 A2 A3 A4 c1 c2 c3 c4 f x w hf hm hc hF hcl hk hn h hN hD
theorem isDed2_a (bx:Nat)(n:ByteArray)(y r:Int)(u v:Value)(nm:ByteArray)(y' r':Int)(w:World)(hb:w.heap[bx]?=some (.cells #[.string n,.int .i64 y,.int .i64 r,v] 90 (0,0))):
  Calls Tryz.prog 125 #[.agg #[.string nm,.int .i64 y',.int .i64 r',u],.pointer (some ⟨bx,0,none⟩)] w fun e w'=>e=.returned (.bool (decide (nm=n)))∧Below w.heap.size w w':=by
 obtain⟨hc,hf⟩:=blk_cells hb
 have hlt:=(lO hb)
 go_enter Tryz.func125,Tryz.ntmps125
 go_wp2
 go_ret
 exact⟨ret_bool (str_same nm n),by go_grown⟩
theorem Seg.take {α:Type}{enc:α->List Value}{size B:Nat}{w:World}{A:Option Addr}{l:List α}(h:Seg enc size w B A l)(k:Nat):Seg enc size w B A (l.take k):=by
 rcases h with h|⟨b,off,hA,hb,hc⟩
 ·exact .inl (by rw[h];simp)
 ·refine .inr ⟨b,off,hA,hb,fun j x hj i v hv=>hc j x ?_ i v hv⟩
  rw[List.getElem?_take]at hj
  split at hj
  ·exact hj
  ·cases hj
set_option maxHeartbeats 8000000 in
theorem CheckDeeds_ok (A:Option Addr)(c:Nat)(l:List (Pl.Ded×Option Addr×Nat))(w:World)(hf:FldS w w.heap.size A1 A2 A3 A4 f)(hm:Small f)(hc:Caps c1 c2 c3 c4 f)(hE:Pl.fieldE f=0)(hD:DedS w w.heap.size A l)(hlc:l.length<=c)(hk: ∀x∈l,∀c∈x.1.calls,c.kind<=255)(hn: ∀x∈l,x.1.name.size<=100000)(hl:l.length<=60):
  Calls Tryz.prog 48 #[.agg (fq A1 A2 A3 A4 c1 c2 c3 c4 f),.slice A l.length c] w fun e w'=>e=.returned (.int .i64 (Pl.dedsGo f [] (l.map (·.1))))∧Below w.heap.size w w':=by
 have kf:=heap_alloc_new w (.cells (fq A1 A2 A3 A4 c1 c2 c3 c4 f) 28)
 have hb0:Below w.heap.size w (w.alloc (.cells (fq A1 A2 A3 A4 c1 c2 c3 c4 f) 28)):=(Below.refl _ w).alloc (Nat.le_refl _) _
 have l01:=ld_row kf Tryz.underlying28 rfl info_fld
 have HE:=Lib.hid hE
 have n1: ¬(60:Int)<(l.length:Int):=by omega
 obtain⟨E,hV⟩: ∃E,Pl.dedsGo f [] (l.map (·.1))=E:=⟨_,rfl⟩
 rw[hV]
 clear hE
 go_enter Tryz.func48,Tryz.ntmps48
 go_wp2_with (go_at_call 22;refine(checkField_h A1 A2 A3 A4 c1 c2 c3 c4 f 0 _ HE (hf.up hb0) hm hc).mono ?_;rintro e w1 ⟨rfl,hx⟩;have kf:=kE hx kf;have hb1:Below w.heap.size w w1:=hb0.trans (hx.mono hb0.size);clear l01)
 have hal:w.heap.size<w1.heap.size:=(lO kf)
 go_loopw [19] (fun i wr=> ∃(k:Nat),k<=l.length∧i=.int .i64 k∧Hid (Pl.dedsGo f ((l.take k).map (·.1.name)) ((l.drop k).map (·.1))=E)∧Below w1.heap.size w1 wr) (fun i _=>l.length-(intOf i).toNat)
 case atStart=>exact⟨0,by omega,rfl,Lib.hid (by simpa using hV),Below.refl _ _⟩
 case round=>
  obtain⟨k,hkl,rfl,hdr,hall⟩:=hrel
  have kf2:=(hall.block _ hal).trans kf
  have hsz:=hall.size
  have hbw:Below w.heap.size w wr:=hb1.trans (hall.mono hb1.size)
  by_cases hlt:k<l.length
  ·obtain⟨g,o,hP,hg,u0⟩:=Dds.ld hD.row hlt
   have hmem:=List.getElem_mem hlt
   have hcl:=hD.own _ hmem
   have hkc:=hk _ hmem
   have hnc:=hn _ hmem
   have hdr2:Hid (Pl.dedsGo f ((l.take k).map (·.1.name)) (l[k].1::(l.drop (k+1)).map (·.1))=E):=Lib.hid (by
    have:=hdr.out;rw[List.drop_eq_getElem_cons hlt]at this;exact this)
   have htk:(l.take (k+1)).map (·.1.name)=(l.take k).map (·.1.name)++[l[k].1.name]:=by rw[List.take_add_one,List.getElem?_eq_getElem hlt,List.map_append];rfl
   have htl:(l.take k).length=k:=by rw[List.length_take];omega
   obtain⟨x,hxd⟩: ∃x,l[k]=x:=⟨_,rfl⟩
   rw[hxd]at u0 hcl hkc hnc hdr2 htk
   clear hxd hmem
   subst hP
   have e1:(0:Int)<=(k:Int):=by omega
   have e2:(k:Int)<(l.length:Int):=by omega
   have e3:(k:Int)<=(c:Int):=by omega
   have u1:=u0 _ hbw
   have kn:=heap_alloc_new wr (.cells #[.string ⟨#[]⟩,.int .i64 0,.int .i64 0,.slice none 0 0] 90)
   obtain⟨W1,st1,k1,hg1⟩:=st_row (wr.alloc (.cells #[.string ⟨#[]⟩,.int .i64 0,.int .i64 0,.slice none 0 0] 90)) wr.heap.size 90 90 #[.string ⟨#[]⟩,.int .i64 0,.int .i64 0,.slice none 0 0] #[.string x.1.name,.int .i64 x.1.year,.int .i64 x.1.rank,.slice x.2.1 x.1.calls.length x.2.2] kn (by kernel_rfl) rfl (by simp[Value.oneCell'])
   have hx1:Below wr.heap.size wr W1:=((Below.refl _ wr).alloc (Nat.le_refl _) _).grown hg1 (by simp) (fun j e=>by cases e;exact Nat.le_refl _)
   have kf3:=(hx1.block _ (by omega)).trans kf2
   have l1:=ld_row kf3 Tryz.underlying28 rfl info_fld
   have l2:=ld_row k1 Tryz.underlying90 rfl (by kernel_rfl)
   have hb2:Below w.heap.size w W1:=hbw.trans (hx1.mono (by omega))
   have hded:=ded_a A1 A2 A3 A4 c1 c2 c3 c4 f x W1 (hf.up hb2) hm hc HE.out (hcl.up hb2) hkc hnc
   have hln:=(lO k1)
   obtain⟨Ed,hEd⟩: ∃E,Pl.dedE f x.1=E:=⟨_,rfl⟩
   rw[hEd]at hded
   have HEd:=Lib.hid hEd
   clear hEd kn u0
   by_cases h0:Ed=0
   ·subst h0
    have HR:Hid ((if ((l.take k).map (·.1.name)).any (fun y=>decide (y=x.1.name))=true then 6 else Pl.dedsGo f ((l.take k).map (·.1.name)++[x.1.name]) ((l.drop (k+1)).map (·.1)))=E):=Lib.hid (by
     have:=hdr2.out;unfold Pl.dedsGo at this;rw[HEd.out,if_neg (by simp)]at this;exact this)
    have hcon:=fun(W:World) (hW:Below w.heap.size w W) (hkW:W.heap[wr.heap.size]?=some (.cells #[.string x.1.name,.int .i64 x.1.year,.int .i64 x.1.rank,.slice x.2.1 x.1.calls.length x.2.2] 90 (0,0)))=>
     conF_d (some ⟨g,o,none⟩) c (l.take k) 125 #[.pointer (some ⟨wr.heap.size,0,none⟩)] (fun y=>decide (y.1.name=x.1.name)) W ((hD.row.take k).up hW) (by omega) (enters_of (P:=Tryz.prog) Tryz.func125 (by kernel_rfl) rfl)
      (fun y _ W' hW'=>isDed2_a wr.heap.size x.1.name x.1.year x.1.rank (slv y.2 y.1.calls.length) _ y.1.name y.1.year y.1.rank W' ((hW'.block _ (lO hkW)).trans hkW))
    rw[htl]at hcon
    have hany:((l.take k).map (·.1.name)).any (fun y=>decide (y=x.1.name))=(l.take k).any fun y=>decide (y.1.name=x.1.name):=by rw[List.any_map];rfl
    obtain⟨q,hq⟩: ∃q,((l.take k).any fun y=>decide (y.1.name=x.1.name))=q:=⟨_,rfl⟩
    rw[hany,hq]at HR
    simp only[hq]at hcon
    have HTK:=Lib.hid htk
    clear hany hq htk hdr2
    cases q with
    | true=>
     have HR2:Hid (6=E):=Lib.hid (by have:=HR.out;rw[if_pos rfl]at this;exact this)
     go_wp2_with (first
      |(go_at_call 123;refine hded.mono ?_;rintro e w2 ⟨rfl,hy⟩;have hb3:=hb2.trans (hy.mono hb2.size);have k2:=(hy.block _ hln).trans k1)
      |(go_at_call 124;refine(hcon _ hb3 k2).mono ?_;rintro e w3 ⟨rfl,hz⟩;have hb4:=hb3.trans (hz.mono hb3.size)))
     go_ret
     exact⟨by rw[<-HR2.out];rfl,hb4⟩
    | false=>
     have HR2:Hid (Pl.dedsGo f ((l.take (k+1)).map (·.1.name)) ((l.drop (k+1)).map (·.1))=E):=Lib.hid (by have:=HR.out;rw[if_neg (by simp),<-HTK.out]at this;exact this)
     go_wp2_with (first
      |(go_at_call 123;refine hded.mono ?_;rintro e w2 ⟨rfl,hy⟩;have hb3:=hb2.trans (hy.mono hb2.size);have k2:=(hy.block _ hln).trans k1;have ha2:Below w1.heap.size w1 w2:=(hall.trans (hx1.mono hsz)).trans (hy.mono (by have:=hx1.size;omega)))
      |(go_at_call 124;refine(hcon _ hb3 k2).mono ?_;rintro e w3 ⟨rfl,hz⟩;have ha3:=ha2.trans (hz.mono ha2.size)))
     go_roundw
     case rel=>exact⟨k+1,by omega,by go_num,HR2,ha3⟩
     case measure=>first|(simp[intOf];done)|(simp[intOf];omega)
   ·have hne:(Ed !=0)=true:=by simpa using h0
    have HR:Hid (Ed=E):=Lib.hid (by have:=hdr2.out;unfold Pl.dedsGo at this;rw[HEd.out,if_pos h0]at this;exact this)
    clear h0
    go_wp2_with (go_at_call 123;refine hded.mono ?_;rintro e w2 ⟨rfl,hy⟩;have hb3:=hb2.trans (hy.mono hb2.size))
    go_ret
    exact⟨by rw[<-HR.out];rfl,hb3⟩
  ·have HR:Hid (0=E):=Lib.hid (by have:=hdr.out;rw[List.drop_of_length_le (by omega)]at this;exact this)
   go_wp2
   go_ret
   exact⟨by rw[<-HR.out];rfl,hbw⟩
end Go.Proofs.YtgbpekeoegfjpaaGreatDoor
set_option maxRecDepth 100000
namespace Go.Proofs.YtgbpekeoegfjpaaGreatDoor
open Go.RowKit
attribute [-go_sem] loadVar storeVar run_equalIn_agg
attribute [local go_sem] lv_int lv_bool lv_u8 lv_string lv_calls lv_errno
set_option maxHeartbeats 2000000 in
theorem CheckDeeds_a (A1 A2 A3 A4:Option Addr)(c1 c2 c3 c4:Nat)(f:Pl.Fld)(A:Option Addr)(c:Nat)(l:List (Pl.Ded×Option Addr×Nat))(w:World)(hf:FldS w w.heap.size A1 A2 A3 A4 f)(hm:Small f)(hc:Caps c1 c2 c3 c4 f)(hD:DedS w w.heap.size A l)(hlc:l.length<=c)(hk: ∀x∈l,∀c∈x.1.calls,c.kind<=255)(hn: ∀x∈l,x.1.name.size<=100000)(hl:l.length<=100000):
  Calls Tryz.prog 48 #[.agg (fq A1 A2 A3 A4 c1 c2 c3 c4 f),.slice A l.length c] w fun e w'=>e=.returned (.int .i64 (Pl.deedsE f (l.map (·.1))))∧Below w.heap.size w w':=by
 by_cases hE:Pl.fieldE f=0
 ·by_cases h60:60<l.length
  ·have HV:Hid (Pl.deedsE f (l.map (·.1))=2):=Lib.hid (by unfold Pl.deedsE;rw[if_pos hE,if_pos (by simpa using h60)])
   have HE:=Lib.hid hE
   have kf:=heap_alloc_new w (.cells (fq A1 A2 A3 A4 c1 c2 c3 c4 f) 28)
   have hb0:Below w.heap.size w (w.alloc (.cells (fq A1 A2 A3 A4 c1 c2 c3 c4 f) 28)):=(Below.refl _ w).alloc (Nat.le_refl _) _
   have l01:=ld_row kf Tryz.underlying28 rfl info_fld
   have n1:(60:Int)<(l.length:Int):=by omega
   clear hE
   go_enter Tryz.func48,Tryz.ntmps48
   go_wp2_with (go_at_call 22;refine(checkField_h A1 A2 A3 A4 c1 c2 c3 c4 f 0 _ HE (hf.up hb0) hm hc).mono ?_;rintro e w1 ⟨rfl,hx⟩;have hb1:Below w.heap.size w w1:=hb0.trans (hx.mono hb0.size))
   go_ret
   exact⟨by rw[HV.out];rfl,hb1⟩
  ·have HV:Pl.deedsE f (l.map (·.1))=Pl.dedsGo f [] (l.map (·.1)):=by unfold Pl.deedsE;rw[if_pos hE,if_neg (by simpa using h60)]
   rw[HV]
   exact CheckDeeds_ok A1 A2 A3 A4 c1 c2 c3 c4 f A c l w hf hm hc hE hD hlc hk hn (by omega)
 ·obtain⟨E,he⟩: ∃E,Pl.fieldE f=E:=⟨_,rfl⟩
  have HV:Hid (Pl.deedsE f (l.map (·.1))=E):=Lib.hid (by unfold Pl.deedsE;rw[if_neg hE,he])
  rw[he]at hE
  have HE:=Lib.hid he
  have hne:(E !=0)=true:=by simpa using hE
  have kf:=heap_alloc_new w (.cells (fq A1 A2 A3 A4 c1 c2 c3 c4 f) 28)
  have hb0:Below w.heap.size w (w.alloc (.cells (fq A1 A2 A3 A4 c1 c2 c3 c4 f) 28)):=(Below.refl _ w).alloc (Nat.le_refl _) _
  have l01:=ld_row kf Tryz.underlying28 rfl info_fld
  clear he hE
  go_enter Tryz.func48,Tryz.ntmps48
  go_wp2_with (go_at_call 22;refine(checkField_h A1 A2 A3 A4 c1 c2 c3 c4 f E _ HE (hf.up hb0) hm hc).mono ?_;rintro e w1 ⟨rfl,hx⟩;have hb1:Below w.heap.size w w1:=hb0.trans (hx.mono hb0.size))
  go_ret
  exact⟨by rw[HV.out];rfl,hb1⟩
end Go.Proofs.YtgbpekeoegfjpaaGreatDoor
set_option maxRecDepth 100000
namespace Go.Proofs.YtgbpekeoegfjpaaGreatDoor
open Go.RowKit
variable (A1 A2 A3 A4 : Option Addr) (c1 c2 c3 c4 : Nat) (f : Pl.Fld)
attribute [-go_sem] loadVar run_equalIn_agg
attribute [local go_sem] lv_int lv_bool lv_u8 lv_string lv_strings lv_stas
theorem limit_w (c:Pl.Cal)(n:Nat)(w:World)(hl:Nms w w.heap.size A2 f.li)(hn:n<f.li.length):
  Calls Tryz.prog 273 #[.agg (fcq A1 A2 A3 A4 c1 c2 c3 c4 f c),.int .i64 (n:Int)] w fun e w'=>e=.returned (.string f.li[n])∧Below w.heap.size w w':=by
 have kb:=heap_alloc_new w (.cells (fcq A1 A2 A3 A4 c1 c2 c3 c4 f c) 128)
 have hb0:Below w.heap.size w (w.alloc (.cells (fcq A1 A2 A3 A4 c1 c2 c3 c4 f c) 128)):=(Below.refl _ w).alloc (Nat.le_refl _) _
 obtain⟨hcb,hfb⟩:=blk_cells kb
 obtain⟨b,off,hA,hbB,q0⟩:=Nms.at1 (hl.below hb0) hn
 obtain⟨x,hx⟩: ∃x,f.li[n]=x:=⟨_,rfl⟩
 rw[hx]at q0 ⊢
 subst hA
 have e1:(0:Int)<=(n:Int):=by omega
 have e2:(n:Int)<(f.li.length:Int):=by omega
 go_enter Tryz.func273,Tryz.ntmps273
 go_wp2
 go_ret
 exact⟨rfl,hb0⟩
theorem station_w (c:Pl.Cal)(n:Nat)(w:World)(hl:Stas w w.heap.size A1 f.st)(hn:n<f.st.length):
  Calls Tryz.prog 274 #[.agg (fcq A1 A2 A3 A4 c1 c2 c3 c4 f c),.int .i64 (n:Int)] w fun e w'=>e=.returned (.string f.st[n].1)∧Below w.heap.size w w':=by
 have kb:=heap_alloc_new w (.cells (fcq A1 A2 A3 A4 c1 c2 c3 c4 f c) 128)
 have hb0:Below w.heap.size w (w.alloc (.cells (fcq A1 A2 A3 A4 c1 c2 c3 c4 f c) 128)):=(Below.refl _ w).alloc (Nat.le_refl _) _
 obtain⟨hcb,hfb⟩:=blk_cells kb
 obtain⟨b,off,hA,hbB,q0,q1⟩:=Stas.at2 (hl.below hb0) hn
 obtain⟨⟨x,y⟩,hx⟩: ∃x,f.st[n]=x:=⟨_,rfl⟩
 rw[hx]at q0 q1 ⊢
 simp only at q0 q1 ⊢
 subst hA
 have e1:(0:Int)<=(n:Int):=by omega
 have e2:(n:Int)<(f.st.length:Int):=by omega
 go_enter Tryz.func274,Tryz.ntmps274
 go_wp2
 go_ret
 exact⟨rfl,hb0⟩
def EndW (l:List ByteArray)(w:World)(e:Ending)(w':World):Prop:=
 ∃g,e=.returned (.slice (some ⟨g,0,none⟩) l.length l.length)∧w'.heap[g]?=some (.cells (l.map Value.string).toArray 9 (0,0))∧w.heap.size<=g∧Below w.heap.size w w'
set_option maxHeartbeats 8000000 in
theorem stoneWords_a (c:Pl.Cal)(w:World)(hE:Env w)(hf:FldS w w.heap.size A1 A2 A3 A4 f)(ilim ifr:Nat)(hlim:c.lim=(ilim:Int))(llim:ilim<f.li.length)(hfr:c.fr=(ifr:Int))(lfr:ifr<f.st.length)(bsize: -1000000<=c.size∧c.size<=1000000)(ber: -1000000<=c.er∧c.er<=1000000):
  Calls Tryz.prog 212 #[.agg (fcq A1 A2 A3 A4 c1 c2 c3 c4 f c)] w (EndW [f.li[ilim],f.st[ifr].1,Pl.spelt c.size,Pl.spelt c.er] w):=by
 have kb:=heap_alloc_new w (.cells (fcq A1 A2 A3 A4 c1 c2 c3 c4 f c) 128)
 have hb0:Below w.heap.size w (w.alloc (.cells (fcq A1 A2 A3 A4 c1 c2 c3 c4 f c) 128)):=(Below.refl _ w).alloc (Nat.le_refl _) _
 have plim:=fun W (hW:Below w.heap.size w W)=>limit_w A1 A2 A3 A4 c1 c2 c3 c4 f c ilim W (hf.li.up hW) llim
 obtain⟨alim,halim⟩: ∃a,f.li[ilim]=a:=⟨_,rfl⟩
 simp only[halim,<-hlim]at plim
 have pfr:=fun W (hW:Below w.heap.size w W)=>station_w A1 A2 A3 A4 c1 c2 c3 c4 f c ifr W (hf.st.up hW) lfr
 obtain⟨afr,hafr⟩: ∃a,f.st[ifr].1=a:=⟨_,rfl⟩
 simp only[hafr,<-hfr]at pfr
 have psize:=fun W (hW:Below w.heap.size w W)=>itoa_lib c.size W (hE.up hW) (by omega) (by omega)
 obtain⟨asize,hasize⟩: ∃a,Pl.spelt c.size=a:=⟨_,rfl⟩
 rw[show(⟨(Lib.itoa c.size).toArray⟩:ByteArray)=asize from hasize]at psize
 have per:=fun W (hW:Below w.heap.size w W)=>itoa_lib c.er W (hE.up hW) (by omega) (by omega)
 obtain⟨aer,haer⟩: ∃a,Pl.spelt c.er=a:=⟨_,rfl⟩
 rw[show(⟨(Lib.itoa c.er).toArray⟩:ByteArray)=aer from haer]at per
 rw[halim,hafr,hasize,haer]
 clear halim hafr hasize haer hlim llim hfr lfr bsize ber hf hE
 have whole:=fun(W:World) (k:W.heap[w.heap.size]?=some (.cells (fcq A1 A2 A3 A4 c1 c2 c3 c4 f c) 128 (0,0)))=>CBox.whole (CBox.mk (f:=f) (c:=c) (k:=(c.kind:Int)) k)
 go_enter Tryz.func212,Tryz.ntmps212
 go_wp2
 have kb:=(show(w.alloc (.cells (fcq A1 A2 A3 A4 c1 c2 c3 c4 f c) 128)).drew.heap[w.heap.size]?=_ from kb)
 have hall:=hb0.drew
 clear hb0
 go_region_held3 (fun W=>(loadVar 128 ⟨w.heap.size,0,none⟩).run Tryz.prog W=.ok (.agg (fcq A1 A2 A3 A4 c1 c2 c3 c4 f c)) W∧W.cell? ⟨w.heap.size,5,none⟩=some (.int .i64 c.lim)∧W.cell? ⟨w.heap.size,7,none⟩=some (.int .i64 c.fr)∧W.cell? ⟨w.heap.size,9,none⟩=some (.int .i64 c.size)∧W.cell? ⟨w.heap.size,10,none⟩=some (.int .i64 c.er)) (first|exact⟨whole _ kb,(blk_cells kb).1 5,(blk_cells kb).1 7,(blk_cells kb).1 9,(blk_cells kb).1 10⟩|exact⟨whole _ ((Below.heap_alloc _ _ _ (lO kb)).trans kb),(blk_cells ((Below.heap_alloc _ _ _ (lO kb)).trans kb)).1 5,(blk_cells ((Below.heap_alloc _ _ _ (lO kb)).trans kb)).1 7,(blk_cells ((Below.heap_alloc _ _ _ (lO kb)).trans kb)).1 9,(blk_cells ((Below.heap_alloc _ _ _ (lO kb)).trans kb)).1 10⟩) (first
  |(go_at_call 273;refine(plim _ hall).mono ?_;rintro e w1 ⟨rfl,hx⟩;have kb:=kE hx kb;have hall:=hall.trans (hx.mono hall.size);clear hx plim)
  |(go_at_call 274;refine(pfr _ hall).mono ?_;rintro e w1 ⟨rfl,hx⟩;have kb:=kE hx kb;have hall:=hall.trans (hx.mono hall.size);clear hx pfr)
  |(go_at_call 120;refine(psize _ hall).mono ?_;rintro e w1 ⟨rfl,hx⟩;have kb:=kE hx kb;have hall:=hall.trans (hx.mono hall.size);clear hx psize)
  |(go_at_call 120;refine(per _ hall).mono ?_;rintro e w1 ⟨rfl,hx⟩;have kb:=kE hx kb;have hall:=hall.trans (hx.mono hall.size);clear hx per))
 all_goals go_wp2
 all_goals go_ret
 all_goals exact⟨_,rfl,heap_alloc_new _ _,hall.size,hall.alloc hall.size _⟩
set_option maxHeartbeats 8000000 in
theorem widthWords_a (c:Pl.Cal)(w:World)(hE:Env w)(hf:FldS w w.heap.size A1 A2 A3 A4 f)(ilim ioth ifr:Nat)(hlim:c.lim=(ilim:Int))(llim:ilim<f.li.length)(hoth:c.oth=(ioth:Int))(loth:ioth<f.li.length)(hfr:c.fr=(ifr:Int))(lfr:ifr<f.st.length)(bsize: -1000000<=c.size∧c.size<=1000000)(ber: -1000000<=c.er∧c.er<=1000000):
  Calls Tryz.prog 214 #[.agg (fcq A1 A2 A3 A4 c1 c2 c3 c4 f c)] w (EndW [f.li[ilim],f.li[ioth],f.st[ifr].1,Pl.spelt c.size,Pl.spelt c.er] w):=by
 have kb:=heap_alloc_new w (.cells (fcq A1 A2 A3 A4 c1 c2 c3 c4 f c) 128)
 have hb0:Below w.heap.size w (w.alloc (.cells (fcq A1 A2 A3 A4 c1 c2 c3 c4 f c) 128)):=(Below.refl _ w).alloc (Nat.le_refl _) _
 have plim:=fun W (hW:Below w.heap.size w W)=>limit_w A1 A2 A3 A4 c1 c2 c3 c4 f c ilim W (hf.li.up hW) llim
 obtain⟨alim,halim⟩: ∃a,f.li[ilim]=a:=⟨_,rfl⟩
 simp only[halim,<-hlim]at plim
 have poth:=fun W (hW:Below w.heap.size w W)=>limit_w A1 A2 A3 A4 c1 c2 c3 c4 f c ioth W (hf.li.up hW) loth
 obtain⟨aoth,haoth⟩: ∃a,f.li[ioth]=a:=⟨_,rfl⟩
 simp only[haoth,<-hoth]at poth
 have pfr:=fun W (hW:Below w.heap.size w W)=>station_w A1 A2 A3 A4 c1 c2 c3 c4 f c ifr W (hf.st.up hW) lfr
 obtain⟨afr,hafr⟩: ∃a,f.st[ifr].1=a:=⟨_,rfl⟩
 simp only[hafr,<-hfr]at pfr
 have psize:=fun W (hW:Below w.heap.size w W)=>itoa_lib c.size W (hE.up hW) (by omega) (by omega)
 obtain⟨asize,hasize⟩: ∃a,Pl.spelt c.size=a:=⟨_,rfl⟩
 rw[show(⟨(Lib.itoa c.size).toArray⟩:ByteArray)=asize from hasize]at psize
 have per:=fun W (hW:Below w.heap.size w W)=>itoa_lib c.er W (hE.up hW) (by omega) (by omega)
 obtain⟨aer,haer⟩: ∃a,Pl.spelt c.er=a:=⟨_,rfl⟩
 rw[show(⟨(Lib.itoa c.er).toArray⟩:ByteArray)=aer from haer]at per
 rw[halim,haoth,hafr,hasize,haer]
 clear halim haoth hafr hasize haer hlim llim hoth loth hfr lfr bsize ber hf hE
 have whole:=fun(W:World) (k:W.heap[w.heap.size]?=some (.cells (fcq A1 A2 A3 A4 c1 c2 c3 c4 f c) 128 (0,0)))=>CBox.whole (CBox.mk (f:=f) (c:=c) (k:=(c.kind:Int)) k)
 go_enter Tryz.func214,Tryz.ntmps214
 go_wp2
 have kb:=(show(w.alloc (.cells (fcq A1 A2 A3 A4 c1 c2 c3 c4 f c) 128)).drew.heap[w.heap.size]?=_ from kb)
 have hall:=hb0.drew
 clear hb0
 go_region_held3 (fun W=>(loadVar 128 ⟨w.heap.size,0,none⟩).run Tryz.prog W=.ok (.agg (fcq A1 A2 A3 A4 c1 c2 c3 c4 f c)) W∧W.cell? ⟨w.heap.size,5,none⟩=some (.int .i64 c.lim)∧W.cell? ⟨w.heap.size,6,none⟩=some (.int .i64 c.oth)∧W.cell? ⟨w.heap.size,7,none⟩=some (.int .i64 c.fr)∧W.cell? ⟨w.heap.size,9,none⟩=some (.int .i64 c.size)∧W.cell? ⟨w.heap.size,10,none⟩=some (.int .i64 c.er)) (first|exact⟨whole _ kb,(blk_cells kb).1 5,(blk_cells kb).1 6,(blk_cells kb).1 7,(blk_cells kb).1 9,(blk_cells kb).1 10⟩|exact⟨whole _ ((Below.heap_alloc _ _ _ (lO kb)).trans kb),(blk_cells ((Below.heap_alloc _ _ _ (lO kb)).trans kb)).1 5,(blk_cells ((Below.heap_alloc _ _ _ (lO kb)).trans kb)).1 6,(blk_cells ((Below.heap_alloc _ _ _ (lO kb)).trans kb)).1 7,(blk_cells ((Below.heap_alloc _ _ _ (lO kb)).trans kb)).1 9,(blk_cells ((Below.heap_alloc _ _ _ (lO kb)).trans kb)).1 10⟩) (first
  |(go_at_call 273;refine(plim _ hall).mono ?_;rintro e w1 ⟨rfl,hx⟩;have kb:=kE hx kb;have hall:=hall.trans (hx.mono hall.size);clear hx plim)
  |(go_at_call 273;refine(poth _ hall).mono ?_;rintro e w1 ⟨rfl,hx⟩;have kb:=kE hx kb;have hall:=hall.trans (hx.mono hall.size);clear hx poth)
  |(go_at_call 274;refine(pfr _ hall).mono ?_;rintro e w1 ⟨rfl,hx⟩;have kb:=kE hx kb;have hall:=hall.trans (hx.mono hall.size);clear hx pfr)
  |(go_at_call 120;refine(psize _ hall).mono ?_;rintro e w1 ⟨rfl,hx⟩;have kb:=kE hx kb;have hall:=hall.trans (hx.mono hall.size);clear hx psize)
  |(go_at_call 120;refine(per _ hall).mono ?_;rintro e w1 ⟨rfl,hx⟩;have kb:=kE hx kb;have hall:=hall.trans (hx.mono hall.size);clear hx per))
 all_goals go_wp2
 all_goals go_ret
 all_goals exact⟨_,rfl,heap_alloc_new _ _,hall.size,hall.alloc hall.size _⟩
set_option maxHeartbeats 8000000 in
theorem alongWords_a (c:Pl.Cal)(w:World)(_hE:Env w)(hf:FldS w w.heap.size A1 A2 A3 A4 f)(ilim ioth ifr itill:Nat)(hlim:c.lim=(ilim:Int))(llim:ilim<f.li.length)(hoth:c.oth=(ioth:Int))(loth:ioth<f.li.length)(hfr:c.fr=(ifr:Int))(lfr:ifr<f.st.length)(htill:c.till=(itill:Int))(ltill:itill<f.st.length):
  Calls Tryz.prog 218 #[.agg (fcq A1 A2 A3 A4 c1 c2 c3 c4 f c)] w (EndW [f.li[ilim],f.li[ioth],f.st[ifr].1,f.st[itill].1] w):=by
 have kb:=heap_alloc_new w (.cells (fcq A1 A2 A3 A4 c1 c2 c3 c4 f c) 128)
 have hb0:Below w.heap.size w (w.alloc (.cells (fcq A1 A2 A3 A4 c1 c2 c3 c4 f c) 128)):=(Below.refl _ w).alloc (Nat.le_refl _) _
 have plim:=fun W (hW:Below w.heap.size w W)=>limit_w A1 A2 A3 A4 c1 c2 c3 c4 f c ilim W (hf.li.up hW) llim
 obtain⟨alim,halim⟩: ∃a,f.li[ilim]=a:=⟨_,rfl⟩
 simp only[halim,<-hlim]at plim
 have poth:=fun W (hW:Below w.heap.size w W)=>limit_w A1 A2 A3 A4 c1 c2 c3 c4 f c ioth W (hf.li.up hW) loth
 obtain⟨aoth,haoth⟩: ∃a,f.li[ioth]=a:=⟨_,rfl⟩
 simp only[haoth,<-hoth]at poth
 have pfr:=fun W (hW:Below w.heap.size w W)=>station_w A1 A2 A3 A4 c1 c2 c3 c4 f c ifr W (hf.st.up hW) lfr
 obtain⟨afr,hafr⟩: ∃a,f.st[ifr].1=a:=⟨_,rfl⟩
 simp only[hafr,<-hfr]at pfr
 have ptill:=fun W (hW:Below w.heap.size w W)=>station_w A1 A2 A3 A4 c1 c2 c3 c4 f c itill W (hf.st.up hW) ltill
 obtain⟨atill,hatill⟩: ∃a,f.st[itill].1=a:=⟨_,rfl⟩
 simp only[hatill,<-htill]at ptill
 rw[halim,haoth,hafr,hatill]
 clear halim haoth hafr hatill hlim llim hoth loth hfr lfr htill ltill hf
 have whole:=fun(W:World) (k:W.heap[w.heap.size]?=some (.cells (fcq A1 A2 A3 A4 c1 c2 c3 c4 f c) 128 (0,0)))=>CBox.whole (CBox.mk (f:=f) (c:=c) (k:=(c.kind:Int)) k)
 go_enter Tryz.func218,Tryz.ntmps218
 go_wp2
 have kb:=(show(w.alloc (.cells (fcq A1 A2 A3 A4 c1 c2 c3 c4 f c) 128)).drew.heap[w.heap.size]?=_ from kb)
 have hall:=hb0.drew
 clear hb0
 go_region_held3 (fun W=>(loadVar 128 ⟨w.heap.size,0,none⟩).run Tryz.prog W=.ok (.agg (fcq A1 A2 A3 A4 c1 c2 c3 c4 f c)) W∧W.cell? ⟨w.heap.size,5,none⟩=some (.int .i64 c.lim)∧W.cell? ⟨w.heap.size,6,none⟩=some (.int .i64 c.oth)∧W.cell? ⟨w.heap.size,7,none⟩=some (.int .i64 c.fr)∧W.cell? ⟨w.heap.size,8,none⟩=some (.int .i64 c.till)) (first|exact⟨whole _ kb,(blk_cells kb).1 5,(blk_cells kb).1 6,(blk_cells kb).1 7,(blk_cells kb).1 8⟩|exact⟨whole _ ((Below.heap_alloc _ _ _ (lO kb)).trans kb),(blk_cells ((Below.heap_alloc _ _ _ (lO kb)).trans kb)).1 5,(blk_cells ((Below.heap_alloc _ _ _ (lO kb)).trans kb)).1 6,(blk_cells ((Below.heap_alloc _ _ _ (lO kb)).trans kb)).1 7,(blk_cells ((Below.heap_alloc _ _ _ (lO kb)).trans kb)).1 8⟩) (first
  |(go_at_call 273;refine(plim _ hall).mono ?_;rintro e w1 ⟨rfl,hx⟩;have kb:=kE hx kb;have hall:=hall.trans (hx.mono hall.size);clear hx plim)
  |(go_at_call 273;refine(poth _ hall).mono ?_;rintro e w1 ⟨rfl,hx⟩;have kb:=kE hx kb;have hall:=hall.trans (hx.mono hall.size);clear hx poth)
  |(go_at_call 274;refine(pfr _ hall).mono ?_;rintro e w1 ⟨rfl,hx⟩;have kb:=kE hx kb;have hall:=hall.trans (hx.mono hall.size);clear hx pfr)
  |(go_at_call 274;refine(ptill _ hall).mono ?_;rintro e w1 ⟨rfl,hx⟩;have kb:=kE hx kb;have hall:=hall.trans (hx.mono hall.size);clear hx ptill))
 all_goals go_wp2
 all_goals go_ret
 all_goals exact⟨_,rfl,heap_alloc_new _ _,hall.size,hall.alloc hall.size _⟩
set_option maxHeartbeats 8000000 in
theorem levelWords_a (c:Pl.Cal)(w:World)(hE:Env w)(hf:FldS w w.heap.size A1 A2 A3 A4 f)(ilim ifr itill:Nat)(hlim:c.lim=(ilim:Int))(llim:ilim<f.li.length)(hfr:c.fr=(ifr:Int))(lfr:ifr<f.st.length)(htill:c.till=(itill:Int))(ltill:itill<f.st.length)(bsize: -1000000<=c.size∧c.size<=1000000)(ber: -1000000<=c.er∧c.er<=1000000):
  Calls Tryz.prog 220 #[.agg (fcq A1 A2 A3 A4 c1 c2 c3 c4 f c)] w (EndW [f.li[ilim],f.st[ifr].1,f.st[itill].1,Pl.spelt c.size,Pl.spelt c.er] w):=by
 have kb:=heap_alloc_new w (.cells (fcq A1 A2 A3 A4 c1 c2 c3 c4 f c) 128)
 have hb0:Below w.heap.size w (w.alloc (.cells (fcq A1 A2 A3 A4 c1 c2 c3 c4 f c) 128)):=(Below.refl _ w).alloc (Nat.le_refl _) _
 have plim:=fun W (hW:Below w.heap.size w W)=>limit_w A1 A2 A3 A4 c1 c2 c3 c4 f c ilim W (hf.li.up hW) llim
 obtain⟨alim,halim⟩: ∃a,f.li[ilim]=a:=⟨_,rfl⟩
 simp only[halim,<-hlim]at plim
 have pfr:=fun W (hW:Below w.heap.size w W)=>station_w A1 A2 A3 A4 c1 c2 c3 c4 f c ifr W (hf.st.up hW) lfr
 obtain⟨afr,hafr⟩: ∃a,f.st[ifr].1=a:=⟨_,rfl⟩
 simp only[hafr,<-hfr]at pfr
 have ptill:=fun W (hW:Below w.heap.size w W)=>station_w A1 A2 A3 A4 c1 c2 c3 c4 f c itill W (hf.st.up hW) ltill
 obtain⟨atill,hatill⟩: ∃a,f.st[itill].1=a:=⟨_,rfl⟩
 simp only[hatill,<-htill]at ptill
 have psize:=fun W (hW:Below w.heap.size w W)=>itoa_lib c.size W (hE.up hW) (by omega) (by omega)
 obtain⟨asize,hasize⟩: ∃a,Pl.spelt c.size=a:=⟨_,rfl⟩
 rw[show(⟨(Lib.itoa c.size).toArray⟩:ByteArray)=asize from hasize]at psize
 have per:=fun W (hW:Below w.heap.size w W)=>itoa_lib c.er W (hE.up hW) (by omega) (by omega)
 obtain⟨aer,haer⟩: ∃a,Pl.spelt c.er=a:=⟨_,rfl⟩
 rw[show(⟨(Lib.itoa c.er).toArray⟩:ByteArray)=aer from haer]at per
 rw[halim,hafr,hatill,hasize,haer]
 clear halim hafr hatill hasize haer hlim llim hfr lfr htill ltill bsize ber hf hE
 have whole:=fun(W:World) (k:W.heap[w.heap.size]?=some (.cells (fcq A1 A2 A3 A4 c1 c2 c3 c4 f c) 128 (0,0)))=>CBox.whole (CBox.mk (f:=f) (c:=c) (k:=(c.kind:Int)) k)
 go_enter Tryz.func220,Tryz.ntmps220
 go_wp2
 have kb:=(show(w.alloc (.cells (fcq A1 A2 A3 A4 c1 c2 c3 c4 f c) 128)).drew.heap[w.heap.size]?=_ from kb)
 have hall:=hb0.drew
 clear hb0
 go_region_held3 (fun W=>(loadVar 128 ⟨w.heap.size,0,none⟩).run Tryz.prog W=.ok (.agg (fcq A1 A2 A3 A4 c1 c2 c3 c4 f c)) W∧W.cell? ⟨w.heap.size,5,none⟩=some (.int .i64 c.lim)∧W.cell? ⟨w.heap.size,7,none⟩=some (.int .i64 c.fr)∧W.cell? ⟨w.heap.size,8,none⟩=some (.int .i64 c.till)∧W.cell? ⟨w.heap.size,9,none⟩=some (.int .i64 c.size)∧W.cell? ⟨w.heap.size,10,none⟩=some (.int .i64 c.er)) (first|exact⟨whole _ kb,(blk_cells kb).1 5,(blk_cells kb).1 7,(blk_cells kb).1 8,(blk_cells kb).1 9,(blk_cells kb).1 10⟩|exact⟨whole _ ((Below.heap_alloc _ _ _ (lO kb)).trans kb),(blk_cells ((Below.heap_alloc _ _ _ (lO kb)).trans kb)).1 5,(blk_cells ((Below.heap_alloc _ _ _ (lO kb)).trans kb)).1 7,(blk_cells ((Below.heap_alloc _ _ _ (lO kb)).trans kb)).1 8,(blk_cells ((Below.heap_alloc _ _ _ (lO kb)).trans kb)).1 9,(blk_cells ((Below.heap_alloc _ _ _ (lO kb)).trans kb)).1 10⟩) (first
  |(go_at_call 273;refine(plim _ hall).mono ?_;rintro e w1 ⟨rfl,hx⟩;have kb:=kE hx kb;have hall:=hall.trans (hx.mono hall.size);clear hx plim)
  |(go_at_call 274;refine(pfr _ hall).mono ?_;rintro e w1 ⟨rfl,hx⟩;have kb:=kE hx kb;have hall:=hall.trans (hx.mono hall.size);clear hx pfr)
  |(go_at_call 274;refine(ptill _ hall).mono ?_;rintro e w1 ⟨rfl,hx⟩;have kb:=kE hx kb;have hall:=hall.trans (hx.mono hall.size);clear hx ptill)
  |(go_at_call 120;refine(psize _ hall).mono ?_;rintro e w1 ⟨rfl,hx⟩;have kb:=kE hx kb;have hall:=hall.trans (hx.mono hall.size);clear hx psize)
  |(go_at_call 120;refine(per _ hall).mono ?_;rintro e w1 ⟨rfl,hx⟩;have kb:=kE hx kb;have hall:=hall.trans (hx.mono hall.size);clear hx per))
 all_goals go_wp2
 all_goals go_ret
 all_goals exact⟨_,rfl,heap_alloc_new _ _,hall.size,hall.alloc hall.size _⟩
end Go.Proofs.YtgbpekeoegfjpaaGreatDoor
set_option maxRecDepth 100000
namespace Go.Proofs.YtgbpekeoegfjpaaGreatDoor
open Go.RowKit
attribute [-go_sem] loadVar run_equalIn_agg
attribute [local go_sem] lv_int lv_bool lv_u8 lv_string lv_strings lv_stas
set_option maxHeartbeats 16000000 in
theorem courseWords_a (A1 A2 A3 A4:Option Addr)(c1 c2 c3 c4:Nat)(f:Pl.Fld)(c:Pl.Cal)(w:World)(hE:Env w)(hf:FldS w w.heap.size A1 A2 A3 A4 f)(ilim ifr itill:Nat)(hlim:c.lim=(ilim:Int))(llim:ilim<f.li.length)(hfr:c.fr=(ifr:Int))(lfr:ifr<f.st.length)(htill:c.till=(itill:Int))(ltill:itill<f.st.length)
  (bn: -1000000<=c.crs.n∧c.crs.n<=1000000) (bx: -1000000<=c.crs.x∧c.crs.x<=1000000) (bs: -1000000<=c.crs.s∧c.crs.s<=1000000):
  Calls Tryz.prog 216 #[.agg (fcq A1 A2 A3 A4 c1 c2 c3 c4 f c)] w (EndW [f.li[ilim],f.st[ifr].1,f.st[itill].1,Pl.lengthV c.crs.l,⟨#[98,121]⟩,Pl.quadB c.crs.b,⟨#[103,105,118,101]⟩,Pl.spelt c.crs.n,⟨#[119,101,97,114]⟩,Pl.spelt c.crs.x,⟨#[115,108,97,99,107]⟩,Pl.spelt c.crs.s] w):=by
 have kb0:=heap_alloc_new w (.cells (fcq A1 A2 A3 A4 c1 c2 c3 c4 f c) 128)
 have kb:=heap_alloc2_old w (.cells (fcq A1 A2 A3 A4 c1 c2 c3 c4 f c) 128) (.cells (cq c.crs) 46)
 have kx:=heap_alloc2_new w (.cells (fcq A1 A2 A3 A4 c1 c2 c3 c4 f c) 128) (.cells (cq c.crs) 46)
 have hb0:Below w.heap.size w ((w.alloc (.cells (fcq A1 A2 A3 A4 c1 c2 c3 c4 f c) 128)).alloc (.cells (cq c.crs) 46)):=((Below.refl _ w).alloc (Nat.le_refl _) _).alloc (by simp) _
 have l46:=CBox.crs (CBox.mk (f:=f) (c:=c) (k:=(c.kind:Int)) kb0)
 have plim:=fun W (hW:Below w.heap.size w W)=>limit_w A1 A2 A3 A4 c1 c2 c3 c4 f c ilim W (hf.li.up hW) llim
 obtain⟨ulim,halim⟩: ∃a,f.li[ilim]=a:=⟨_,rfl⟩
 simp only[halim,<-hlim]at plim
 have pfr:=fun W (hW:Below w.heap.size w W)=>station_w A1 A2 A3 A4 c1 c2 c3 c4 f c ifr W (hf.st.up hW) lfr
 obtain⟨ufr,hafr⟩: ∃a,f.st[ifr].1=a:=⟨_,rfl⟩
 simp only[hafr,<-hfr]at pfr
 have ptill:=fun W (hW:Below w.heap.size w W)=>station_w A1 A2 A3 A4 c1 c2 c3 c4 f c itill W (hf.st.up hW) ltill
 obtain⟨utill,hatill⟩: ∃a,f.st[itill].1=a:=⟨_,rfl⟩
 simp only[hatill,<-htill]at ptill
 have pl:=fun W (hW:Below w.heap.size w W)=>length_a c.crs.l W (hE.up hW)
 obtain⟨ul,hal⟩: ∃a,Pl.lengthV c.crs.l=a:=⟨_,rfl⟩
 rw[hal]at pl
 have pb:=fun(W:World) (_:Below w.heap.size w W)=>quad_a c.crs.b W
 obtain⟨ub,hab⟩: ∃a,Pl.quadB c.crs.b=a:=⟨_,rfl⟩
 rw[show(⟨(Pl.quad c.crs.b).toArray⟩:ByteArray)=ub from hab]at pb
 have pn:=fun W (hW:Below w.heap.size w W)=>itoa_lib c.crs.n W (hE.up hW) (by omega) (by omega)
 obtain⟨un,han⟩: ∃a,Pl.spelt c.crs.n=a:=⟨_,rfl⟩
 rw[show(⟨(Lib.itoa c.crs.n).toArray⟩:ByteArray)=un from han]at pn
 have px:=fun W (hW:Below w.heap.size w W)=>itoa_lib c.crs.x W (hE.up hW) (by omega) (by omega)
 obtain⟨ux,hax⟩: ∃a,Pl.spelt c.crs.x=a:=⟨_,rfl⟩
 rw[show(⟨(Lib.itoa c.crs.x).toArray⟩:ByteArray)=ux from hax]at px
 have ps:=fun W (hW:Below w.heap.size w W)=>itoa_lib c.crs.s W (hE.up hW) (by omega) (by omega)
 obtain⟨us,has⟩: ∃a,Pl.spelt c.crs.s=a:=⟨_,rfl⟩
 rw[show(⟨(Lib.itoa c.crs.s).toArray⟩:ByteArray)=us from has]at ps
 rw[halim,hafr,hatill,hal,hab,han,hax,has]
 clear halim hafr hatill hal hab han hax has hlim hfr htill llim lfr ltill bn bx bs hf hE
 have whole:=fun(W:World) (k:W.heap[w.heap.size]?=some (.cells (fcq A1 A2 A3 A4 c1 c2 c3 c4 f c) 128 (0,0)))=>CBox.whole (CBox.mk (f:=f) (c:=c) (k:=(c.kind:Int)) k)
 clear kb0
 go_enter Tryz.func216,Tryz.ntmps216
 go_wp2
 have kb:=(show((w.alloc (.cells (fcq A1 A2 A3 A4 c1 c2 c3 c4 f c) 128)).alloc (.cells (cq c.crs) 46)).drew.heap[w.heap.size]?=_ from kb)
 have kx:=(show((w.alloc (.cells (fcq A1 A2 A3 A4 c1 c2 c3 c4 f c) 128)).alloc (.cells (cq c.crs) 46)).drew.heap[w.heap.size+1]?=_ from kx)
 have hall:=hb0.drew
 clear hb0 l46
 go_region_held3 (fun W=>(loadVar 128 ⟨w.heap.size,0,none⟩).run Tryz.prog W=.ok (.agg (fcq A1 A2 A3 A4 c1 c2 c3 c4 f c)) W∧W.cell? ⟨w.heap.size,5,none⟩=some (.int .i64 c.lim)∧W.cell? ⟨w.heap.size,7,none⟩=some (.int .i64 c.fr)∧W.cell? ⟨w.heap.size,8,none⟩=some (.int .i64 c.till)∧W.cell? ⟨w.heap.size+1,2,none⟩=some (.int .i64 c.crs.l)∧W.cell? ⟨w.heap.size+1,0,none⟩=some (.int .i64 c.crs.b)∧W.cell? ⟨w.heap.size+1,1,none⟩=some (.int .i64 c.crs.n)∧W.cell? ⟨w.heap.size+1,4,none⟩=some (.int .i64 c.crs.x)∧W.cell? ⟨w.heap.size+1,5,none⟩=some (.int .i64 c.crs.s)) (first|exact⟨whole _ kb,(blk_cells kb).1 5,(blk_cells kb).1 7,(blk_cells kb).1 8,(blk_cells kx).1 2,(blk_cells kx).1 0,(blk_cells kx).1 1,(blk_cells kx).1 4,(blk_cells kx).1 5⟩|exact⟨whole _ ((Below.heap_alloc _ _ _ (lO kb)).trans kb),(blk_cells ((Below.heap_alloc _ _ _ (lO kb)).trans kb)).1 5,(blk_cells ((Below.heap_alloc _ _ _ (lO kb)).trans kb)).1 7,(blk_cells ((Below.heap_alloc _ _ _ (lO kb)).trans kb)).1 8,(blk_cells ((Below.heap_alloc _ _ _ (lO kx)).trans kx)).1 2,(blk_cells ((Below.heap_alloc _ _ _ (lO kx)).trans kx)).1 0,(blk_cells ((Below.heap_alloc _ _ _ (lO kx)).trans kx)).1 1,(blk_cells ((Below.heap_alloc _ _ _ (lO kx)).trans kx)).1 4,(blk_cells ((Below.heap_alloc _ _ _ (lO kx)).trans kx)).1 5⟩) (first
  |(go_at_call 273;refine(plim _ hall).mono ?_;rintro e w1 ⟨rfl,hx⟩;have kb:=kE hx kb;have kx:=kE hx kx;have hall:=hall.trans (hx.mono hall.size);clear hx plim)
  |(go_at_call 274;refine(pfr _ hall).mono ?_;rintro e w1 ⟨rfl,hx⟩;have kb:=kE hx kb;have kx:=kE hx kx;have hall:=hall.trans (hx.mono hall.size);clear hx pfr)
  |(go_at_call 274;refine(ptill _ hall).mono ?_;rintro e w1 ⟨rfl,hx⟩;have kb:=kE hx kb;have kx:=kE hx kx;have hall:=hall.trans (hx.mono hall.size);clear hx ptill)
  |(go_at_call 275;refine(pl _ hall).mono ?_;rintro e w1 ⟨rfl,hx⟩;have kb:=kE hx kb;have kx:=kE hx kx;have hall:=hall.trans (hx.mono hall.size);clear hx pl)
  |(go_at_call 276;refine(pb _ hall).mono ?_;rintro e w1 ⟨rfl,rfl⟩;clear pb)
  |(go_at_call 120;refine(pn _ hall).mono ?_;rintro e w1 ⟨rfl,hx⟩;have kb:=kE hx kb;have kx:=kE hx kx;have hall:=hall.trans (hx.mono hall.size);clear hx pn)
  |(go_at_call 120;refine(px _ hall).mono ?_;rintro e w1 ⟨rfl,hx⟩;have kb:=kE hx kb;have kx:=kE hx kx;have hall:=hall.trans (hx.mono hall.size);clear hx px)
  |(go_at_call 120;refine(ps _ hall).mono ?_;rintro e w1 ⟨rfl,hx⟩;have kb:=kE hx kb;have kx:=kE hx kx;have hall:=hall.trans (hx.mono hall.size);clear hx ps))
 all_goals go_wp2
 all_goals go_ret
 all_goals exact⟨_,rfl,heap_alloc_new _ _,hall.size,hall.alloc hall.size _⟩
end Go.Proofs.YtgbpekeoegfjpaaGreatDoor
set_option maxRecDepth 100000
namespace Go.Proofs.YtgbpekeoegfjpaaGreatDoor
open Go.RowKit
variable (A1 A2 A3 A4 : Option Addr) (c1 c2 c3 c4 : Nat) (f : Pl.Fld)
attribute [-go_sem] run_equalIn_agg loadVar storeVar
attribute [local go_sem] lv_int lv_bool lv_u8 lv_string
theorem lv_words (a:Addr)(w:World):(loadVar 202 a).run Tryz.prog w=(load a).run Tryz.prog w:=lv_scalar Tryz.underlying202 rfl a w
attribute [local go_sem] lv_words
theorem info_kind1 :(Tryz.prog.info? 204).map (·.size)=some 3:=by kernel_rfl
theorem nms_blk {w:World}{g:Nat}{ws:List ByteArray}(h:w.heap[g]?=some (.cells (ws.map Value.string).toArray 9 (0,0))):Nms w w.heap.size (some ⟨g,0,none⟩) ws:=by
 obtain⟨hc,_⟩:=blk_cells h
 refine .inr ⟨g,0,rfl,(lO h),fun k x hx j v hv=> ?_⟩
 simp only[encNm]at hv
 obtain⟨hj,rfl⟩:j=0∧v=.string x:=by
  match j,hv with
  |0,hv=>simp at hv;exact⟨rfl,hv.symm⟩
  |j+1,hv=>simp at hv
 subst hj
 rw[Nat.mul_one,Nat.add_zero,Nat.zero_add,hc k,<-Array.getElem?_toList,List.getElem?_map,hx]
 rfl
set_option maxHeartbeats 8000000 in
theorem line_stone (c:Pl.Cal)(ws:List ByteArray)(J:List UInt8)(w:World)(hJ:Hid (Lib.join (ws.map (·.data.toList)) [32]=J))(hl:J.length<=1000000)(h0:0<ws.length)(hn:ws.length<=100)
  (hR: ∀W,Below w.heap.size w W->Calls Tryz.prog 212 #[.agg (fkq A1 A2 A3 A4 c1 c2 c3 c4 f 1 c)] W (EndW ws W)):
  Calls Tryz.prog 91 #[.agg (fkq A1 A2 A3 A4 c1 c2 c3 c4 f 1 c)] w fun e w'=>e=.returned (.string ⟨([115,116,111,110,101,32]++J).toArray⟩)∧Below w.heap.size w w':=by
 have kb:=heap_alloc_new w (.cells (fkq A1 A2 A3 A4 c1 c2 c3 c4 f 1 c) 128)
 have hall:Below w.heap.size w (w.alloc (.cells (fkq A1 A2 A3 A4 c1 c2 c3 c4 f 1 c) 128)):=(Below.refl _ w).alloc (Nat.le_refl _) _
 have hix: ∀W,(Instr.index 205 (.agg #[.string ⟨#[]⟩,.nilFunc,.nilFunc,.string ⟨#[115,116,111,110,101]⟩,.func (.func 211) #[] #[],.func (.func 212) #[] #[],.string ⟨#[119,105,100,116,104]⟩,.func (.func 213) #[] #[],.func (.func 214) #[] #[],.string ⟨#[99,111,117,114,115,101]⟩,.func (.func 215) #[] #[],.func (.func 216) #[] #[],.string ⟨#[97,108,111,110,103]⟩,.func (.func 217) #[] #[],.func (.func 218) #[] #[],.string ⟨#[108,101,118,101,108]⟩,.func (.func 219) #[] #[],.func (.func 220) #[] #[]]) (.int .u8 1)).run Tryz.prog W=.ok (.agg #[.string ⟨#[115,116,111,110,101]⟩,.func (.func 211) #[] #[],.func (.func 212) #[] #[]]) W:=fun _=>by kernel_rfl
 have hadd1: ∀W,(Op.stringOp .add ⟨#[115,116,111,110,101]⟩ ⟨#[32]⟩).run Tryz.prog W=.ok (.string ⟨#[115,116,111,110,101,32]⟩) W:=fun _=>by kernel_rfl
 have hadd2: ∀W,(Op.stringOp .add ⟨#[115,116,111,110,101,32]⟩ ⟨J.toArray⟩).run Tryz.prog W=.ok (.string ⟨([115,116,111,110,101,32]++J).toArray⟩) W:=fun W=>by
  rw[run_string_add W ⟨#[115,116,111,110,101,32]⟩ ⟨J.toArray⟩ (by decide) (by rw[ba_size];omega),show(⟨#[115,116,111,110,101,32]⟩:ByteArray)=⟨([115,116,111,110,101,32]:List UInt8).toArray⟩ from rfl,ba_append]
  simp
 have hlt:=lO kb
 have q0:=(blk_cells kb).1 4
 have whole:=fun(W:World) (k:W.heap[w.heap.size]?=some (.cells (fkq A1 A2 A3 A4 c1 c2 c3 c4 f 1 c) 128 (0,0)))=>CBox.whole (CBox.mk (f:=f) (c:=c) (k:=1) k)
 go_enter Tryz.func91,Tryz.ntmps91
 go_wp2
 generalize w.alloc (.cells (fkq A1 A2 A3 A4 c1 c2 c3 c4 f 1 c) 128)=W0 at*
 refine wp_region_held_drew (S:=fun W=>W.cell? ⟨w.heap.size,4,none⟩=some (.int .u8 1)) (by kernel_rfl) q0 (fun hHeld=> ?_)
 refine tH 1 (some 5) (v:= ?v1) rfl rfl (fun W hW=> ?hy1) ?hr1
 case hy1=>(try dsimp only at hW);go_simp;try with_reducible rfl
 try simp only[Act.put,q1,q2,q3]
 refine tH 2 (some 6) (v:= ?v2) rfl rfl (fun W hW=> ?hy2) ?hr2
 case hy2=>(try dsimp only at hW);go_simp;try with_reducible rfl
 try simp only[Act.put,q1,q2,q3]
 refine tH 3 (some 7) (v:= ?v3) rfl rfl (fun W hW=> ?hy3) ?hr3
 case hy3=>(try dsimp only at hW);go_simp;try with_reducible rfl
 try simp only[Act.put,q1,q2,q3]
 refine wpAnyH_ready (rs:=[0,5]) (by kernel_rfl) (by simp) ?_
 refine readyH (some 4) rfl rfl (fun K hK=> ?_) (readyH (some 3) rfl rfl (fun K hK=> ?_) AllReadyH.nil)
 ·go_simp
  refine(kinds_v _).mono ?_
  rintro e w1 ⟨rfl,hx⟩
  have kb1:=(hx.block w.heap.size hlt).trans kb
  have hall1:Below w.heap.size w w1:=hall.drew.trans (hx.mono hall.size)
  refine hK.out _ _ ((blk_cells kb1).1 4) (fun hHeld=> ?_)
  clear hK K hx kb hall
  try simp only[Act.put,q1,q2,q3]
  refine tH 4 (some 8) (v:= ?v4) rfl rfl (fun W hW=> ?hy4) ?hr4
  case hy4=>(try dsimp only at hW);go_simp;try with_reducible rfl
  try simp only[Act.put,q1,q2,q3]
  refine wpAnyH_ready (rs:=[5]) (by kernel_rfl) (by simp) ?_
  refine readyH (some 3) rfl rfl (fun K hK=> ?_) AllReadyH.nil
  go_simp
  have ha:=heap_alloc_new w1 (.cells #[.string ⟨#[]⟩,.nilFunc,.nilFunc] 204)
  have kb2:=(Below.heap_alloc w1 (.cells #[.string ⟨#[]⟩,.nilFunc,.nilFunc] 204) w.heap.size (lO kb1)).trans kb1
  have hall2:Below w.heap.size w (w1.alloc (.cells #[.string ⟨#[]⟩,.nilFunc,.nilFunc] 204)):=hall1.alloc hall1.size _
  refine hK.out _ _ ((blk_cells kb2).1 4) (fun hHeld=> ?_)
  clear hK K
  try simp only[Act.put,q1,q2,q3]
  obtain⟨W,hst,kp,hg⟩:=st_row _ w1.heap.size _ 204 _ #[.string ⟨#[115,116,111,110,101]⟩,.func (.func 211) #[] #[],.func (.func 212) #[] #[]] ha info_kind1 rfl (by simp[Value.oneCell'])
  have kbW:W.heap[w.heap.size]?=_:=(hg.block _ (lO kb2) (by have:=lO kb1;simp;omega)).trans kb2
  have hallW:Below w.heap.size w W:=hall2.grown hg hall2.size (fun k e=>by cases e;exact hall1.size)
  refine wpAnyH_ready (rs:=[6]) (by kernel_rfl) (by simp) ?_
  refine readyH none rfl rfl (fun K hK=> ?_) AllReadyH.nil
  go_simp
  refine hK.out _ _ ((blk_cells kbW).1 4) (fun hHeld=> ?_)
  clear hK K
  try simp only[Act.put,q1,q2,q3]
  refine wpAnyH_done (by kernel_rfl) ?_ _
  clear hHeld hix q0
  have hallW:=hallW.drew
  have kp:=(show W.drew.heap[w1.heap.size]?=_ from kp)
  have kbW:=(show W.drew.heap[w.heap.size]?=_ from kbW)
  go_wp2
  go_region_held3 (fun W=>(loadVar 128 ⟨w.heap.size,0,none⟩).run Tryz.prog W=.ok (.agg (fkq A1 A2 A3 A4 c1 c2 c3 c4 f 1 c)) W∧W.cell? ⟨w1.heap.size,0,none⟩=some (.string ⟨#[115,116,111,110,101]⟩)∧W.cell? ⟨w1.heap.size,2,none⟩=some (.func (.func 212) #[] #[])) (exact⟨whole _ kbW,(blk_cells kp).1 0,(blk_cells kp).1 2⟩) (first
   |(go_at_call 212;refine(hR _ hallW).mono ?_;rintro e w2 ⟨g,rfl,hg,hge,hx⟩;have kbW:=kE hx kbW;have kp:=kE hx kp;have hallW:=hallW.trans (hx.mono hallW.size);clear hx hR)
   |(go_at_call 119;refine(join_h g _ ws J _ hJ hl (nms_blk hg) h0 (Nat.le_refl _) hn).mono ?_;rintro e w3 ⟨rfl,hx⟩;have kbW:=kE hx kbW;have kp:=kE hx kp;have hallW:=hallW.trans (hx.mono hallW.size);clear hx))
  all_goals go_wp2
  all_goals go_ret
  all_goals exact⟨rfl,hallW⟩
 ·go_simp
  have ha:=heap_alloc_new W0.drew (.cells #[.string ⟨#[]⟩,.nilFunc,.nilFunc] 204)
  have kb1:=(Below.heap_alloc W0.drew (.cells #[.string ⟨#[]⟩,.nilFunc,.nilFunc] 204) w.heap.size hlt).trans kb
  have hall1:Below w.heap.size w (W0.drew.alloc (.cells #[.string ⟨#[]⟩,.nilFunc,.nilFunc] 204)):=hall.drew.alloc hall.size _
  refine hK.out _ _ ((blk_cells kb1).1 4) (fun hHeld=> ?_)
  clear hK K
  try simp only[Act.put,q1,q2,q3]
  refine wpAnyH_ready (rs:=[0]) (by kernel_rfl) (by simp) ?_
  refine readyH (some 4) rfl rfl (fun K hK=> ?_) AllReadyH.nil
  go_simp
  refine(kinds_v _).mono ?_
  rintro e w1 ⟨rfl,hx⟩
  have kb2:=(hx.block w.heap.size (lO kb1)).trans kb1
  have ha:=kE hx ha
  have hall2:Below w.heap.size w w1:=hall1.trans (hx.mono hall1.size)
  refine hK.out _ _ ((blk_cells kb2).1 4) (fun hHeld=> ?_)
  clear hK K hx
  try simp only[Act.put,q1,q2,q3]
  refine tH 4 (some 8) (v:= ?v5) rfl rfl (fun W hW=> ?hy5) ?hr5
  case hy5=>(try dsimp only at hW);go_simp;try with_reducible rfl
  try simp only[Act.put,q1,q2,q3]
  obtain⟨W,hst,kp,hg⟩:=st_row _ W0.heap.size _ 204 _ #[.string ⟨#[115,116,111,110,101]⟩,.func (.func 211) #[] #[],.func (.func 212) #[] #[]] ha info_kind1 rfl (by simp[Value.oneCell'])
  have kbW:W.heap[w.heap.size]?=_:=(hg.block _ (lO kb2) (by simp;omega)).trans kb2
  have hallW:Below w.heap.size w W:=hall2.grown hg hall2.size (fun k e=>by cases e;exact hall.size)
  clear hall hall1 hall2 kb kb1 kb2 ha hg
  refine wpAnyH_ready (rs:=[6]) (by kernel_rfl) (by simp) ?_
  refine readyH none rfl rfl (fun K hK=> ?_) AllReadyH.nil
  go_simp
  refine hK.out _ _ ((blk_cells kbW).1 4) (fun hHeld=> ?_)
  clear hK K
  try simp only[Act.put,q1,q2,q3]
  refine wpAnyH_done (by kernel_rfl) ?_ _
  clear hHeld hix q0
  have hallW:=hallW.drew
  have kp:=(show W.drew.heap[W0.heap.size]?=_ from kp)
  have kbW:=(show W.drew.heap[w.heap.size]?=_ from kbW)
  go_wp2
  go_region_held3 (fun W=>(loadVar 128 ⟨w.heap.size,0,none⟩).run Tryz.prog W=.ok (.agg (fkq A1 A2 A3 A4 c1 c2 c3 c4 f 1 c)) W∧W.cell? ⟨W0.heap.size,0,none⟩=some (.string ⟨#[115,116,111,110,101]⟩)∧W.cell? ⟨W0.heap.size,2,none⟩=some (.func (.func 212) #[] #[])) (exact⟨whole _ kbW,(blk_cells kp).1 0,(blk_cells kp).1 2⟩) (first
   |(go_at_call 212;refine(hR _ hallW).mono ?_;rintro e w2 ⟨g,rfl,hg,hge,hx⟩;have kbW:=kE hx kbW;have kp:=kE hx kp;have hallW:=hallW.trans (hx.mono hallW.size);clear hx hR)
   |(go_at_call 119;refine(join_h g _ ws J _ hJ hl (nms_blk hg) h0 (Nat.le_refl _) hn).mono ?_;rintro e w3 ⟨rfl,hx⟩;have kbW:=kE hx kbW;have kp:=kE hx kp;have hallW:=hallW.trans (hx.mono hallW.size);clear hx))
  all_goals go_wp2
  all_goals go_ret
  all_goals exact⟨rfl,hallW⟩
set_option maxHeartbeats 8000000 in
theorem line_width (c:Pl.Cal)(ws:List ByteArray)(J:List UInt8)(w:World)(hJ:Hid (Lib.join (ws.map (·.data.toList)) [32]=J))(hl:J.length<=1000000)(h0:0<ws.length)(hn:ws.length<=100)
  (hR: ∀W,Below w.heap.size w W->Calls Tryz.prog 214 #[.agg (fkq A1 A2 A3 A4 c1 c2 c3 c4 f 2 c)] W (EndW ws W)):
  Calls Tryz.prog 91 #[.agg (fkq A1 A2 A3 A4 c1 c2 c3 c4 f 2 c)] w fun e w'=>e=.returned (.string ⟨([119,105,100,116,104,32]++J).toArray⟩)∧Below w.heap.size w w':=by
 have kb:=heap_alloc_new w (.cells (fkq A1 A2 A3 A4 c1 c2 c3 c4 f 2 c) 128)
 have hall:Below w.heap.size w (w.alloc (.cells (fkq A1 A2 A3 A4 c1 c2 c3 c4 f 2 c) 128)):=(Below.refl _ w).alloc (Nat.le_refl _) _
 have hix: ∀W,(Instr.index 205 (.agg #[.string ⟨#[]⟩,.nilFunc,.nilFunc,.string ⟨#[115,116,111,110,101]⟩,.func (.func 211) #[] #[],.func (.func 212) #[] #[],.string ⟨#[119,105,100,116,104]⟩,.func (.func 213) #[] #[],.func (.func 214) #[] #[],.string ⟨#[99,111,117,114,115,101]⟩,.func (.func 215) #[] #[],.func (.func 216) #[] #[],.string ⟨#[97,108,111,110,103]⟩,.func (.func 217) #[] #[],.func (.func 218) #[] #[],.string ⟨#[108,101,118,101,108]⟩,.func (.func 219) #[] #[],.func (.func 220) #[] #[]]) (.int .u8 2)).run Tryz.prog W=.ok (.agg #[.string ⟨#[119,105,100,116,104]⟩,.func (.func 213) #[] #[],.func (.func 214) #[] #[]]) W:=fun _=>by kernel_rfl
 have hadd1: ∀W,(Op.stringOp .add ⟨#[119,105,100,116,104]⟩ ⟨#[32]⟩).run Tryz.prog W=.ok (.string ⟨#[119,105,100,116,104,32]⟩) W:=fun _=>by kernel_rfl
 have hadd2: ∀W,(Op.stringOp .add ⟨#[119,105,100,116,104,32]⟩ ⟨J.toArray⟩).run Tryz.prog W=.ok (.string ⟨([119,105,100,116,104,32]++J).toArray⟩) W:=fun W=>by
  rw[run_string_add W ⟨#[119,105,100,116,104,32]⟩ ⟨J.toArray⟩ (by decide) (by rw[ba_size];omega),show(⟨#[119,105,100,116,104,32]⟩:ByteArray)=⟨([119,105,100,116,104,32]:List UInt8).toArray⟩ from rfl,ba_append]
  simp
 have hlt:=lO kb
 have q0:=(blk_cells kb).1 4
 have whole:=fun(W:World) (k:W.heap[w.heap.size]?=some (.cells (fkq A1 A2 A3 A4 c1 c2 c3 c4 f 2 c) 128 (0,0)))=>CBox.whole (CBox.mk (f:=f) (c:=c) (k:=2) k)
 go_enter Tryz.func91,Tryz.ntmps91
 go_wp2
 generalize w.alloc (.cells (fkq A1 A2 A3 A4 c1 c2 c3 c4 f 2 c) 128)=W0 at*
 refine wp_region_held_drew (S:=fun W=>W.cell? ⟨w.heap.size,4,none⟩=some (.int .u8 2)) (by kernel_rfl) q0 (fun hHeld=> ?_)
 refine tH 1 (some 5) (v:= ?v6) rfl rfl (fun W hW=> ?hy6) ?hr6
 case hy6=>(try dsimp only at hW);go_simp;try with_reducible rfl
 try simp only[Act.put,q1,q2,q3]
 refine tH 2 (some 6) (v:= ?v7) rfl rfl (fun W hW=> ?hy7) ?hr7
 case hy7=>(try dsimp only at hW);go_simp;try with_reducible rfl
 try simp only[Act.put,q1,q2,q3]
 refine tH 3 (some 7) (v:= ?v8) rfl rfl (fun W hW=> ?hy8) ?hr8
 case hy8=>(try dsimp only at hW);go_simp;try with_reducible rfl
 try simp only[Act.put,q1,q2,q3]
 refine wpAnyH_ready (rs:=[0,5]) (by kernel_rfl) (by simp) ?_
 refine readyH (some 4) rfl rfl (fun K hK=> ?_) (readyH (some 3) rfl rfl (fun K hK=> ?_) AllReadyH.nil)
 ·go_simp
  refine(kinds_v _).mono ?_
  rintro e w1 ⟨rfl,hx⟩
  have kb1:=(hx.block w.heap.size hlt).trans kb
  have hall1:Below w.heap.size w w1:=hall.drew.trans (hx.mono hall.size)
  refine hK.out _ _ ((blk_cells kb1).1 4) (fun hHeld=> ?_)
  clear hK K hx kb hall
  try simp only[Act.put,q1,q2,q3]
  refine tH 4 (some 8) (v:= ?v9) rfl rfl (fun W hW=> ?hy9) ?hr9
  case hy9=>(try dsimp only at hW);go_simp;try with_reducible rfl
  try simp only[Act.put,q1,q2,q3]
  refine wpAnyH_ready (rs:=[5]) (by kernel_rfl) (by simp) ?_
  refine readyH (some 3) rfl rfl (fun K hK=> ?_) AllReadyH.nil
  go_simp
  have ha:=heap_alloc_new w1 (.cells #[.string ⟨#[]⟩,.nilFunc,.nilFunc] 204)
  have kb2:=(Below.heap_alloc w1 (.cells #[.string ⟨#[]⟩,.nilFunc,.nilFunc] 204) w.heap.size (lO kb1)).trans kb1
  have hall2:Below w.heap.size w (w1.alloc (.cells #[.string ⟨#[]⟩,.nilFunc,.nilFunc] 204)):=hall1.alloc hall1.size _
  refine hK.out _ _ ((blk_cells kb2).1 4) (fun hHeld=> ?_)
  clear hK K
  try simp only[Act.put,q1,q2,q3]
  obtain⟨W,hst,kp,hg⟩:=st_row _ w1.heap.size _ 204 _ #[.string ⟨#[119,105,100,116,104]⟩,.func (.func 213) #[] #[],.func (.func 214) #[] #[]] ha info_kind1 rfl (by simp[Value.oneCell'])
  have kbW:W.heap[w.heap.size]?=_:=(hg.block _ (lO kb2) (by have:=lO kb1;simp;omega)).trans kb2
  have hallW:Below w.heap.size w W:=hall2.grown hg hall2.size (fun k e=>by cases e;exact hall1.size)
  refine wpAnyH_ready (rs:=[6]) (by kernel_rfl) (by simp) ?_
  refine readyH none rfl rfl (fun K hK=> ?_) AllReadyH.nil
  go_simp
  refine hK.out _ _ ((blk_cells kbW).1 4) (fun hHeld=> ?_)
  clear hK K
  try simp only[Act.put,q1,q2,q3]
  refine wpAnyH_done (by kernel_rfl) ?_ _
  clear hHeld hix q0
  have hallW:=hallW.drew
  have kp:=(show W.drew.heap[w1.heap.size]?=_ from kp)
  have kbW:=(show W.drew.heap[w.heap.size]?=_ from kbW)
  go_wp2
  go_region_held3 (fun W=>(loadVar 128 ⟨w.heap.size,0,none⟩).run Tryz.prog W=.ok (.agg (fkq A1 A2 A3 A4 c1 c2 c3 c4 f 2 c)) W∧W.cell? ⟨w1.heap.size,0,none⟩=some (.string ⟨#[119,105,100,116,104]⟩)∧W.cell? ⟨w1.heap.size,2,none⟩=some (.func (.func 214) #[] #[])) (exact⟨whole _ kbW,(blk_cells kp).1 0,(blk_cells kp).1 2⟩) (first
   |(go_at_call 214;refine(hR _ hallW).mono ?_;rintro e w2 ⟨g,rfl,hg,hge,hx⟩;have kbW:=kE hx kbW;have kp:=kE hx kp;have hallW:=hallW.trans (hx.mono hallW.size);clear hx hR)
   |(go_at_call 119;refine(join_h g _ ws J _ hJ hl (nms_blk hg) h0 (Nat.le_refl _) hn).mono ?_;rintro e w3 ⟨rfl,hx⟩;have kbW:=kE hx kbW;have kp:=kE hx kp;have hallW:=hallW.trans (hx.mono hallW.size);clear hx))
  all_goals go_wp2
  all_goals go_ret
  all_goals exact⟨rfl,hallW⟩
 ·go_simp
  have ha:=heap_alloc_new W0.drew (.cells #[.string ⟨#[]⟩,.nilFunc,.nilFunc] 204)
  have kb1:=(Below.heap_alloc W0.drew (.cells #[.string ⟨#[]⟩,.nilFunc,.nilFunc] 204) w.heap.size hlt).trans kb
  have hall1:Below w.heap.size w (W0.drew.alloc (.cells #[.string ⟨#[]⟩,.nilFunc,.nilFunc] 204)):=hall.drew.alloc hall.size _
  refine hK.out _ _ ((blk_cells kb1).1 4) (fun hHeld=> ?_)
  clear hK K
  try simp only[Act.put,q1,q2,q3]
  refine wpAnyH_ready (rs:=[0]) (by kernel_rfl) (by simp) ?_
  refine readyH (some 4) rfl rfl (fun K hK=> ?_) AllReadyH.nil
  go_simp
  refine(kinds_v _).mono ?_
  rintro e w1 ⟨rfl,hx⟩
  have kb2:=(hx.block w.heap.size (lO kb1)).trans kb1
  have ha:=kE hx ha
  have hall2:Below w.heap.size w w1:=hall1.trans (hx.mono hall1.size)
  refine hK.out _ _ ((blk_cells kb2).1 4) (fun hHeld=> ?_)
  clear hK K hx
  try simp only[Act.put,q1,q2,q3]
  refine tH 4 (some 8) (v:= ?v10) rfl rfl (fun W hW=> ?hy10) ?hr10
  case hy10=>(try dsimp only at hW);go_simp;try with_reducible rfl
  try simp only[Act.put,q1,q2,q3]
  obtain⟨W,hst,kp,hg⟩:=st_row _ W0.heap.size _ 204 _ #[.string ⟨#[119,105,100,116,104]⟩,.func (.func 213) #[] #[],.func (.func 214) #[] #[]] ha info_kind1 rfl (by simp[Value.oneCell'])
  have kbW:W.heap[w.heap.size]?=_:=(hg.block _ (lO kb2) (by simp;omega)).trans kb2
  have hallW:Below w.heap.size w W:=hall2.grown hg hall2.size (fun k e=>by cases e;exact hall.size)
  clear hall hall1 hall2 kb kb1 kb2 ha hg
  refine wpAnyH_ready (rs:=[6]) (by kernel_rfl) (by simp) ?_
  refine readyH none rfl rfl (fun K hK=> ?_) AllReadyH.nil
  go_simp
  refine hK.out _ _ ((blk_cells kbW).1 4) (fun hHeld=> ?_)
  clear hK K
  try simp only[Act.put,q1,q2,q3]
  refine wpAnyH_done (by kernel_rfl) ?_ _
  clear hHeld hix q0
  have hallW:=hallW.drew
  have kp:=(show W.drew.heap[W0.heap.size]?=_ from kp)
  have kbW:=(show W.drew.heap[w.heap.size]?=_ from kbW)
  go_wp2
  go_region_held3 (fun W=>(loadVar 128 ⟨w.heap.size,0,none⟩).run Tryz.prog W=.ok (.agg (fkq A1 A2 A3 A4 c1 c2 c3 c4 f 2 c)) W∧W.cell? ⟨W0.heap.size,0,none⟩=some (.string ⟨#[119,105,100,116,104]⟩)∧W.cell? ⟨W0.heap.size,2,none⟩=some (.func (.func 214) #[] #[])) (exact⟨whole _ kbW,(blk_cells kp).1 0,(blk_cells kp).1 2⟩) (first
   |(go_at_call 214;refine(hR _ hallW).mono ?_;rintro e w2 ⟨g,rfl,hg,hge,hx⟩;have kbW:=kE hx kbW;have kp:=kE hx kp;have hallW:=hallW.trans (hx.mono hallW.size);clear hx hR)
   |(go_at_call 119;refine(join_h g _ ws J _ hJ hl (nms_blk hg) h0 (Nat.le_refl _) hn).mono ?_;rintro e w3 ⟨rfl,hx⟩;have kbW:=kE hx kbW;have kp:=kE hx kp;have hallW:=hallW.trans (hx.mono hallW.size);clear hx))
  all_goals go_wp2
  all_goals go_ret
  all_goals exact⟨rfl,hallW⟩
set_option maxHeartbeats 8000000 in
theorem line_course (c:Pl.Cal)(ws:List ByteArray)(J:List UInt8)(w:World)(hJ:Hid (Lib.join (ws.map (·.data.toList)) [32]=J))(hl:J.length<=1000000)(h0:0<ws.length)(hn:ws.length<=100)
  (hR: ∀W,Below w.heap.size w W->Calls Tryz.prog 216 #[.agg (fkq A1 A2 A3 A4 c1 c2 c3 c4 f 3 c)] W (EndW ws W)):
  Calls Tryz.prog 91 #[.agg (fkq A1 A2 A3 A4 c1 c2 c3 c4 f 3 c)] w fun e w'=>e=.returned (.string ⟨([99,111,117,114,115,101,32]++J).toArray⟩)∧Below w.heap.size w w':=by
 have kb:=heap_alloc_new w (.cells (fkq A1 A2 A3 A4 c1 c2 c3 c4 f 3 c) 128)
 have hall:Below w.heap.size w (w.alloc (.cells (fkq A1 A2 A3 A4 c1 c2 c3 c4 f 3 c) 128)):=(Below.refl _ w).alloc (Nat.le_refl _) _
 have hix: ∀W,(Instr.index 205 (.agg #[.string ⟨#[]⟩,.nilFunc,.nilFunc,.string ⟨#[115,116,111,110,101]⟩,.func (.func 211) #[] #[],.func (.func 212) #[] #[],.string ⟨#[119,105,100,116,104]⟩,.func (.func 213) #[] #[],.func (.func 214) #[] #[],.string ⟨#[99,111,117,114,115,101]⟩,.func (.func 215) #[] #[],.func (.func 216) #[] #[],.string ⟨#[97,108,111,110,103]⟩,.func (.func 217) #[] #[],.func (.func 218) #[] #[],.string ⟨#[108,101,118,101,108]⟩,.func (.func 219) #[] #[],.func (.func 220) #[] #[]]) (.int .u8 3)).run Tryz.prog W=.ok (.agg #[.string ⟨#[99,111,117,114,115,101]⟩,.func (.func 215) #[] #[],.func (.func 216) #[] #[]]) W:=fun _=>by kernel_rfl
 have hadd1: ∀W,(Op.stringOp .add ⟨#[99,111,117,114,115,101]⟩ ⟨#[32]⟩).run Tryz.prog W=.ok (.string ⟨#[99,111,117,114,115,101,32]⟩) W:=fun _=>by kernel_rfl
 have hadd2: ∀W,(Op.stringOp .add ⟨#[99,111,117,114,115,101,32]⟩ ⟨J.toArray⟩).run Tryz.prog W=.ok (.string ⟨([99,111,117,114,115,101,32]++J).toArray⟩) W:=fun W=>by
  rw[run_string_add W ⟨#[99,111,117,114,115,101,32]⟩ ⟨J.toArray⟩ (by decide) (by rw[ba_size];omega),show(⟨#[99,111,117,114,115,101,32]⟩:ByteArray)=⟨([99,111,117,114,115,101,32]:List UInt8).toArray⟩ from rfl,ba_append]
  simp
 have hlt:=lO kb
 have q0:=(blk_cells kb).1 4
 have whole:=fun(W:World) (k:W.heap[w.heap.size]?=some (.cells (fkq A1 A2 A3 A4 c1 c2 c3 c4 f 3 c) 128 (0,0)))=>CBox.whole (CBox.mk (f:=f) (c:=c) (k:=3) k)
 go_enter Tryz.func91,Tryz.ntmps91
 go_wp2
 generalize w.alloc (.cells (fkq A1 A2 A3 A4 c1 c2 c3 c4 f 3 c) 128)=W0 at*
 refine wp_region_held_drew (S:=fun W=>W.cell? ⟨w.heap.size,4,none⟩=some (.int .u8 3)) (by kernel_rfl) q0 (fun hHeld=> ?_)
 refine tH 1 (some 5) (v:= ?v11) rfl rfl (fun W hW=> ?hy11) ?hr11
 case hy11=>(try dsimp only at hW);go_simp;try with_reducible rfl
 try simp only[Act.put,q1,q2,q3]
 refine tH 2 (some 6) (v:= ?v12) rfl rfl (fun W hW=> ?hy12) ?hr12
 case hy12=>(try dsimp only at hW);go_simp;try with_reducible rfl
 try simp only[Act.put,q1,q2,q3]
 refine tH 3 (some 7) (v:= ?v13) rfl rfl (fun W hW=> ?hy13) ?hr13
 case hy13=>(try dsimp only at hW);go_simp;try with_reducible rfl
 try simp only[Act.put,q1,q2,q3]
 refine wpAnyH_ready (rs:=[0,5]) (by kernel_rfl) (by simp) ?_
 refine readyH (some 4) rfl rfl (fun K hK=> ?_) (readyH (some 3) rfl rfl (fun K hK=> ?_) AllReadyH.nil)
 ·go_simp
  refine(kinds_v _).mono ?_
  rintro e w1 ⟨rfl,hx⟩
  have kb1:=(hx.block w.heap.size hlt).trans kb
  have hall1:Below w.heap.size w w1:=hall.drew.trans (hx.mono hall.size)
  refine hK.out _ _ ((blk_cells kb1).1 4) (fun hHeld=> ?_)
  clear hK K hx kb hall
  try simp only[Act.put,q1,q2,q3]
  refine tH 4 (some 8) (v:= ?v14) rfl rfl (fun W hW=> ?hy14) ?hr14
  case hy14=>(try dsimp only at hW);go_simp;try with_reducible rfl
  try simp only[Act.put,q1,q2,q3]
  refine wpAnyH_ready (rs:=[5]) (by kernel_rfl) (by simp) ?_
  refine readyH (some 3) rfl rfl (fun K hK=> ?_) AllReadyH.nil
  go_simp
  have ha:=heap_alloc_new w1 (.cells #[.string ⟨#[]⟩,.nilFunc,.nilFunc] 204)
  have kb2:=(Below.heap_alloc w1 (.cells #[.string ⟨#[]⟩,.nilFunc,.nilFunc] 204) w.heap.size (lO kb1)).trans kb1
  have hall2:Below w.heap.size w (w1.alloc (.cells #[.string ⟨#[]⟩,.nilFunc,.nilFunc] 204)):=hall1.alloc hall1.size _
  refine hK.out _ _ ((blk_cells kb2).1 4) (fun hHeld=> ?_)
  clear hK K
  try simp only[Act.put,q1,q2,q3]
  obtain⟨W,hst,kp,hg⟩:=st_row _ w1.heap.size _ 204 _ #[.string ⟨#[99,111,117,114,115,101]⟩,.func (.func 215) #[] #[],.func (.func 216) #[] #[]] ha info_kind1 rfl (by simp[Value.oneCell'])
  have kbW:W.heap[w.heap.size]?=_:=(hg.block _ (lO kb2) (by have:=lO kb1;simp;omega)).trans kb2
  have hallW:Below w.heap.size w W:=hall2.grown hg hall2.size (fun k e=>by cases e;exact hall1.size)
  refine wpAnyH_ready (rs:=[6]) (by kernel_rfl) (by simp) ?_
  refine readyH none rfl rfl (fun K hK=> ?_) AllReadyH.nil
  go_simp
  refine hK.out _ _ ((blk_cells kbW).1 4) (fun hHeld=> ?_)
  clear hK K
  try simp only[Act.put,q1,q2,q3]
  refine wpAnyH_done (by kernel_rfl) ?_ _
  clear hHeld hix q0
  have hallW:=hallW.drew
  have kp:=(show W.drew.heap[w1.heap.size]?=_ from kp)
  have kbW:=(show W.drew.heap[w.heap.size]?=_ from kbW)
  go_wp2
  go_region_held3 (fun W=>(loadVar 128 ⟨w.heap.size,0,none⟩).run Tryz.prog W=.ok (.agg (fkq A1 A2 A3 A4 c1 c2 c3 c4 f 3 c)) W∧W.cell? ⟨w1.heap.size,0,none⟩=some (.string ⟨#[99,111,117,114,115,101]⟩)∧W.cell? ⟨w1.heap.size,2,none⟩=some (.func (.func 216) #[] #[])) (exact⟨whole _ kbW,(blk_cells kp).1 0,(blk_cells kp).1 2⟩) (first
   |(go_at_call 216;refine(hR _ hallW).mono ?_;rintro e w2 ⟨g,rfl,hg,hge,hx⟩;have kbW:=kE hx kbW;have kp:=kE hx kp;have hallW:=hallW.trans (hx.mono hallW.size);clear hx hR)
   |(go_at_call 119;refine(join_h g _ ws J _ hJ hl (nms_blk hg) h0 (Nat.le_refl _) hn).mono ?_;rintro e w3 ⟨rfl,hx⟩;have kbW:=kE hx kbW;have kp:=kE hx kp;have hallW:=hallW.trans (hx.mono hallW.size);clear hx))
  all_goals go_wp2
  all_goals go_ret
  all_goals exact⟨rfl,hallW⟩
 ·go_simp
  have ha:=heap_alloc_new W0.drew (.cells #[.string ⟨#[]⟩,.nilFunc,.nilFunc] 204)
  have kb1:=(Below.heap_alloc W0.drew (.cells #[.string ⟨#[]⟩,.nilFunc,.nilFunc] 204) w.heap.size hlt).trans kb
  have hall1:Below w.heap.size w (W0.drew.alloc (.cells #[.string ⟨#[]⟩,.nilFunc,.nilFunc] 204)):=hall.drew.alloc hall.size _
  refine hK.out _ _ ((blk_cells kb1).1 4) (fun hHeld=> ?_)
  clear hK K
  try simp only[Act.put,q1,q2,q3]
  refine wpAnyH_ready (rs:=[0]) (by kernel_rfl) (by simp) ?_
  refine readyH (some 4) rfl rfl (fun K hK=> ?_) AllReadyH.nil
  go_simp
  refine(kinds_v _).mono ?_
  rintro e w1 ⟨rfl,hx⟩
  have kb2:=(hx.block w.heap.size (lO kb1)).trans kb1
  have ha:=kE hx ha
  have hall2:Below w.heap.size w w1:=hall1.trans (hx.mono hall1.size)
  refine hK.out _ _ ((blk_cells kb2).1 4) (fun hHeld=> ?_)
  clear hK K hx
  try simp only[Act.put,q1,q2,q3]
  refine tH 4 (some 8) (v:= ?v15) rfl rfl (fun W hW=> ?hy15) ?hr15
  case hy15=>(try dsimp only at hW);go_simp;try with_reducible rfl
  try simp only[Act.put,q1,q2,q3]
  obtain⟨W,hst,kp,hg⟩:=st_row _ W0.heap.size _ 204 _ #[.string ⟨#[99,111,117,114,115,101]⟩,.func (.func 215) #[] #[],.func (.func 216) #[] #[]] ha info_kind1 rfl (by simp[Value.oneCell'])
  have kbW:W.heap[w.heap.size]?=_:=(hg.block _ (lO kb2) (by simp;omega)).trans kb2
  have hallW:Below w.heap.size w W:=hall2.grown hg hall2.size (fun k e=>by cases e;exact hall.size)
  clear hall hall1 hall2 kb kb1 kb2 ha hg
  refine wpAnyH_ready (rs:=[6]) (by kernel_rfl) (by simp) ?_
  refine readyH none rfl rfl (fun K hK=> ?_) AllReadyH.nil
  go_simp
  refine hK.out _ _ ((blk_cells kbW).1 4) (fun hHeld=> ?_)
  clear hK K
  try simp only[Act.put,q1,q2,q3]
  refine wpAnyH_done (by kernel_rfl) ?_ _
  clear hHeld hix q0
  have hallW:=hallW.drew
  have kp:=(show W.drew.heap[W0.heap.size]?=_ from kp)
  have kbW:=(show W.drew.heap[w.heap.size]?=_ from kbW)
  go_wp2
  go_region_held3 (fun W=>(loadVar 128 ⟨w.heap.size,0,none⟩).run Tryz.prog W=.ok (.agg (fkq A1 A2 A3 A4 c1 c2 c3 c4 f 3 c)) W∧W.cell? ⟨W0.heap.size,0,none⟩=some (.string ⟨#[99,111,117,114,115,101]⟩)∧W.cell? ⟨W0.heap.size,2,none⟩=some (.func (.func 216) #[] #[])) (exact⟨whole _ kbW,(blk_cells kp).1 0,(blk_cells kp).1 2⟩) (first
   |(go_at_call 216;refine(hR _ hallW).mono ?_;rintro e w2 ⟨g,rfl,hg,hge,hx⟩;have kbW:=kE hx kbW;have kp:=kE hx kp;have hallW:=hallW.trans (hx.mono hallW.size);clear hx hR)
   |(go_at_call 119;refine(join_h g _ ws J _ hJ hl (nms_blk hg) h0 (Nat.le_refl _) hn).mono ?_;rintro e w3 ⟨rfl,hx⟩;have kbW:=kE hx kbW;have kp:=kE hx kp;have hallW:=hallW.trans (hx.mono hallW.size);clear hx))
  all_goals go_wp2
  all_goals go_ret
  all_goals exact⟨rfl,hallW⟩
set_option maxHeartbeats 8000000 in
theorem line_along (c:Pl.Cal)(ws:List ByteArray)(J:List UInt8)(w:World)(hJ:Hid (Lib.join (ws.map (·.data.toList)) [32]=J))(hl:J.length<=1000000)(h0:0<ws.length)(hn:ws.length<=100)
  (hR: ∀W,Below w.heap.size w W->Calls Tryz.prog 218 #[.agg (fkq A1 A2 A3 A4 c1 c2 c3 c4 f 4 c)] W (EndW ws W)):
  Calls Tryz.prog 91 #[.agg (fkq A1 A2 A3 A4 c1 c2 c3 c4 f 4 c)] w fun e w'=>e=.returned (.string ⟨([97,108,111,110,103,32]++J).toArray⟩)∧Below w.heap.size w w':=by
 have kb:=heap_alloc_new w (.cells (fkq A1 A2 A3 A4 c1 c2 c3 c4 f 4 c) 128)
 have hall:Below w.heap.size w (w.alloc (.cells (fkq A1 A2 A3 A4 c1 c2 c3 c4 f 4 c) 128)):=(Below.refl _ w).alloc (Nat.le_refl _) _
 have hix: ∀W,(Instr.index 205 (.agg #[.string ⟨#[]⟩,.nilFunc,.nilFunc,.string ⟨#[115,116,111,110,101]⟩,.func (.func 211) #[] #[],.func (.func 212) #[] #[],.string ⟨#[119,105,100,116,104]⟩,.func (.func 213) #[] #[],.func (.func 214) #[] #[],.string ⟨#[99,111,117,114,115,101]⟩,.func (.func 215) #[] #[],.func (.func 216) #[] #[],.string ⟨#[97,108,111,110,103]⟩,.func (.func 217) #[] #[],.func (.func 218) #[] #[],.string ⟨#[108,101,118,101,108]⟩,.func (.func 219) #[] #[],.func (.func 220) #[] #[]]) (.int .u8 4)).run Tryz.prog W=.ok (.agg #[.string ⟨#[97,108,111,110,103]⟩,.func (.func 217) #[] #[],.func (.func 218) #[] #[]]) W:=fun _=>by kernel_rfl
 have hadd1: ∀W,(Op.stringOp .add ⟨#[97,108,111,110,103]⟩ ⟨#[32]⟩).run Tryz.prog W=.ok (.string ⟨#[97,108,111,110,103,32]⟩) W:=fun _=>by kernel_rfl
 have hadd2: ∀W,(Op.stringOp .add ⟨#[97,108,111,110,103,32]⟩ ⟨J.toArray⟩).run Tryz.prog W=.ok (.string ⟨([97,108,111,110,103,32]++J).toArray⟩) W:=fun W=>by
  rw[run_string_add W ⟨#[97,108,111,110,103,32]⟩ ⟨J.toArray⟩ (by decide) (by rw[ba_size];omega),show(⟨#[97,108,111,110,103,32]⟩:ByteArray)=⟨([97,108,111,110,103,32]:List UInt8).toArray⟩ from rfl,ba_append]
  simp
 have hlt:=lO kb
 have q0:=(blk_cells kb).1 4
 have whole:=fun(W:World) (k:W.heap[w.heap.size]?=some (.cells (fkq A1 A2 A3 A4 c1 c2 c3 c4 f 4 c) 128 (0,0)))=>CBox.whole (CBox.mk (f:=f) (c:=c) (k:=4) k)
 go_enter Tryz.func91,Tryz.ntmps91
 go_wp2
 generalize w.alloc (.cells (fkq A1 A2 A3 A4 c1 c2 c3 c4 f 4 c) 128)=W0 at*
 refine wp_region_held_drew (S:=fun W=>W.cell? ⟨w.heap.size,4,none⟩=some (.int .u8 4)) (by kernel_rfl) q0 (fun hHeld=> ?_)
 refine tH 1 (some 5) (v:= ?v16) rfl rfl (fun W hW=> ?hy16) ?hr16
 case hy16=>(try dsimp only at hW);go_simp;try with_reducible rfl
 try simp only[Act.put,q1,q2,q3]
 refine tH 2 (some 6) (v:= ?v17) rfl rfl (fun W hW=> ?hy17) ?hr17
 case hy17=>(try dsimp only at hW);go_simp;try with_reducible rfl
 try simp only[Act.put,q1,q2,q3]
 refine tH 3 (some 7) (v:= ?v18) rfl rfl (fun W hW=> ?hy18) ?hr18
 case hy18=>(try dsimp only at hW);go_simp;try with_reducible rfl
 try simp only[Act.put,q1,q2,q3]
 refine wpAnyH_ready (rs:=[0,5]) (by kernel_rfl) (by simp) ?_
 refine readyH (some 4) rfl rfl (fun K hK=> ?_) (readyH (some 3) rfl rfl (fun K hK=> ?_) AllReadyH.nil)
 ·go_simp
  refine(kinds_v _).mono ?_
  rintro e w1 ⟨rfl,hx⟩
  have kb1:=(hx.block w.heap.size hlt).trans kb
  have hall1:Below w.heap.size w w1:=hall.drew.trans (hx.mono hall.size)
  refine hK.out _ _ ((blk_cells kb1).1 4) (fun hHeld=> ?_)
  clear hK K hx kb hall
  try simp only[Act.put,q1,q2,q3]
  refine tH 4 (some 8) (v:= ?v19) rfl rfl (fun W hW=> ?hy19) ?hr19
  case hy19=>(try dsimp only at hW);go_simp;try with_reducible rfl
  try simp only[Act.put,q1,q2,q3]
  refine wpAnyH_ready (rs:=[5]) (by kernel_rfl) (by simp) ?_
  refine readyH (some 3) rfl rfl (fun K hK=> ?_) AllReadyH.nil
  go_simp
  have ha:=heap_alloc_new w1 (.cells #[.string ⟨#[]⟩,.nilFunc,.nilFunc] 204)
  have kb2:=(Below.heap_alloc w1 (.cells #[.string ⟨#[]⟩,.nilFunc,.nilFunc] 204) w.heap.size (lO kb1)).trans kb1
  have hall2:Below w.heap.size w (w1.alloc (.cells #[.string ⟨#[]⟩,.nilFunc,.nilFunc] 204)):=hall1.alloc hall1.size _
  refine hK.out _ _ ((blk_cells kb2).1 4) (fun hHeld=> ?_)
  clear hK K
  try simp only[Act.put,q1,q2,q3]
  obtain⟨W,hst,kp,hg⟩:=st_row _ w1.heap.size _ 204 _ #[.string ⟨#[97,108,111,110,103]⟩,.func (.func 217) #[] #[],.func (.func 218) #[] #[]] ha info_kind1 rfl (by simp[Value.oneCell'])
  have kbW:W.heap[w.heap.size]?=_:=(hg.block _ (lO kb2) (by have:=lO kb1;simp;omega)).trans kb2
  have hallW:Below w.heap.size w W:=hall2.grown hg hall2.size (fun k e=>by cases e;exact hall1.size)
  refine wpAnyH_ready (rs:=[6]) (by kernel_rfl) (by simp) ?_
  refine readyH none rfl rfl (fun K hK=> ?_) AllReadyH.nil
  go_simp
  refine hK.out _ _ ((blk_cells kbW).1 4) (fun hHeld=> ?_)
  clear hK K
  try simp only[Act.put,q1,q2,q3]
  refine wpAnyH_done (by kernel_rfl) ?_ _
  clear hHeld hix q0
  have hallW:=hallW.drew
  have kp:=(show W.drew.heap[w1.heap.size]?=_ from kp)
  have kbW:=(show W.drew.heap[w.heap.size]?=_ from kbW)
  go_wp2
  go_region_held3 (fun W=>(loadVar 128 ⟨w.heap.size,0,none⟩).run Tryz.prog W=.ok (.agg (fkq A1 A2 A3 A4 c1 c2 c3 c4 f 4 c)) W∧W.cell? ⟨w1.heap.size,0,none⟩=some (.string ⟨#[97,108,111,110,103]⟩)∧W.cell? ⟨w1.heap.size,2,none⟩=some (.func (.func 218) #[] #[])) (exact⟨whole _ kbW,(blk_cells kp).1 0,(blk_cells kp).1 2⟩) (first
   |(go_at_call 218;refine(hR _ hallW).mono ?_;rintro e w2 ⟨g,rfl,hg,hge,hx⟩;have kbW:=kE hx kbW;have kp:=kE hx kp;have hallW:=hallW.trans (hx.mono hallW.size);clear hx hR)
   |(go_at_call 119;refine(join_h g _ ws J _ hJ hl (nms_blk hg) h0 (Nat.le_refl _) hn).mono ?_;rintro e w3 ⟨rfl,hx⟩;have kbW:=kE hx kbW;have kp:=kE hx kp;have hallW:=hallW.trans (hx.mono hallW.size);clear hx))
  all_goals go_wp2
  all_goals go_ret
  all_goals exact⟨rfl,hallW⟩
 ·go_simp
  have ha:=heap_alloc_new W0.drew (.cells #[.string ⟨#[]⟩,.nilFunc,.nilFunc] 204)
  have kb1:=(Below.heap_alloc W0.drew (.cells #[.string ⟨#[]⟩,.nilFunc,.nilFunc] 204) w.heap.size hlt).trans kb
  have hall1:Below w.heap.size w (W0.drew.alloc (.cells #[.string ⟨#[]⟩,.nilFunc,.nilFunc] 204)):=hall.drew.alloc hall.size _
  refine hK.out _ _ ((blk_cells kb1).1 4) (fun hHeld=> ?_)
  clear hK K
  try simp only[Act.put,q1,q2,q3]
  refine wpAnyH_ready (rs:=[0]) (by kernel_rfl) (by simp) ?_
  refine readyH (some 4) rfl rfl (fun K hK=> ?_) AllReadyH.nil
  go_simp
  refine(kinds_v _).mono ?_
  rintro e w1 ⟨rfl,hx⟩
  have kb2:=(hx.block w.heap.size (lO kb1)).trans kb1
  have ha:=kE hx ha
  have hall2:Below w.heap.size w w1:=hall1.trans (hx.mono hall1.size)
  refine hK.out _ _ ((blk_cells kb2).1 4) (fun hHeld=> ?_)
  clear hK K hx
  try simp only[Act.put,q1,q2,q3]
  refine tH 4 (some 8) (v:= ?v20) rfl rfl (fun W hW=> ?hy20) ?hr20
  case hy20=>(try dsimp only at hW);go_simp;try with_reducible rfl
  try simp only[Act.put,q1,q2,q3]
  obtain⟨W,hst,kp,hg⟩:=st_row _ W0.heap.size _ 204 _ #[.string ⟨#[97,108,111,110,103]⟩,.func (.func 217) #[] #[],.func (.func 218) #[] #[]] ha info_kind1 rfl (by simp[Value.oneCell'])
  have kbW:W.heap[w.heap.size]?=_:=(hg.block _ (lO kb2) (by simp;omega)).trans kb2
  have hallW:Below w.heap.size w W:=hall2.grown hg hall2.size (fun k e=>by cases e;exact hall.size)
  clear hall hall1 hall2 kb kb1 kb2 ha hg
  refine wpAnyH_ready (rs:=[6]) (by kernel_rfl) (by simp) ?_
  refine readyH none rfl rfl (fun K hK=> ?_) AllReadyH.nil
  go_simp
  refine hK.out _ _ ((blk_cells kbW).1 4) (fun hHeld=> ?_)
  clear hK K
  try simp only[Act.put,q1,q2,q3]
  refine wpAnyH_done (by kernel_rfl) ?_ _
  clear hHeld hix q0
  have hallW:=hallW.drew
  have kp:=(show W.drew.heap[W0.heap.size]?=_ from kp)
  have kbW:=(show W.drew.heap[w.heap.size]?=_ from kbW)
  go_wp2
  go_region_held3 (fun W=>(loadVar 128 ⟨w.heap.size,0,none⟩).run Tryz.prog W=.ok (.agg (fkq A1 A2 A3 A4 c1 c2 c3 c4 f 4 c)) W∧W.cell? ⟨W0.heap.size,0,none⟩=some (.string ⟨#[97,108,111,110,103]⟩)∧W.cell? ⟨W0.heap.size,2,none⟩=some (.func (.func 218) #[] #[])) (exact⟨whole _ kbW,(blk_cells kp).1 0,(blk_cells kp).1 2⟩) (first
   |(go_at_call 218;refine(hR _ hallW).mono ?_;rintro e w2 ⟨g,rfl,hg,hge,hx⟩;have kbW:=kE hx kbW;have kp:=kE hx kp;have hallW:=hallW.trans (hx.mono hallW.size);clear hx hR)
   |(go_at_call 119;refine(join_h g _ ws J _ hJ hl (nms_blk hg) h0 (Nat.le_refl _) hn).mono ?_;rintro e w3 ⟨rfl,hx⟩;have kbW:=kE hx kbW;have kp:=kE hx kp;have hallW:=hallW.trans (hx.mono hallW.size);clear hx))
  all_goals go_wp2
  all_goals go_ret
  all_goals exact⟨rfl,hallW⟩
set_option maxHeartbeats 8000000 in
theorem line_level (c:Pl.Cal)(ws:List ByteArray)(J:List UInt8)(w:World)(hJ:Hid (Lib.join (ws.map (·.data.toList)) [32]=J))(hl:J.length<=1000000)(h0:0<ws.length)(hn:ws.length<=100)
  (hR: ∀W,Below w.heap.size w W->Calls Tryz.prog 220 #[.agg (fkq A1 A2 A3 A4 c1 c2 c3 c4 f 5 c)] W (EndW ws W)):
  Calls Tryz.prog 91 #[.agg (fkq A1 A2 A3 A4 c1 c2 c3 c4 f 5 c)] w fun e w'=>e=.returned (.string ⟨([108,101,118,101,108,32]++J).toArray⟩)∧Below w.heap.size w w':=by
 have kb:=heap_alloc_new w (.cells (fkq A1 A2 A3 A4 c1 c2 c3 c4 f 5 c) 128)
 have hall:Below w.heap.size w (w.alloc (.cells (fkq A1 A2 A3 A4 c1 c2 c3 c4 f 5 c) 128)):=(Below.refl _ w).alloc (Nat.le_refl _) _
 have hix: ∀W,(Instr.index 205 (.agg #[.string ⟨#[]⟩,.nilFunc,.nilFunc,.string ⟨#[115,116,111,110,101]⟩,.func (.func 211) #[] #[],.func (.func 212) #[] #[],.string ⟨#[119,105,100,116,104]⟩,.func (.func 213) #[] #[],.func (.func 214) #[] #[],.string ⟨#[99,111,117,114,115,101]⟩,.func (.func 215) #[] #[],.func (.func 216) #[] #[],.string ⟨#[97,108,111,110,103]⟩,.func (.func 217) #[] #[],.func (.func 218) #[] #[],.string ⟨#[108,101,118,101,108]⟩,.func (.func 219) #[] #[],.func (.func 220) #[] #[]]) (.int .u8 5)).run Tryz.prog W=.ok (.agg #[.string ⟨#[108,101,118,101,108]⟩,.func (.func 219) #[] #[],.func (.func 220) #[] #[]]) W:=fun _=>by kernel_rfl
 have hadd1: ∀W,(Op.stringOp .add ⟨#[108,101,118,101,108]⟩ ⟨#[32]⟩).run Tryz.prog W=.ok (.string ⟨#[108,101,118,101,108,32]⟩) W:=fun _=>by kernel_rfl
 have hadd2: ∀W,(Op.stringOp .add ⟨#[108,101,118,101,108,32]⟩ ⟨J.toArray⟩).run Tryz.prog W=.ok (.string ⟨([108,101,118,101,108,32]++J).toArray⟩) W:=fun W=>by
  rw[run_string_add W ⟨#[108,101,118,101,108,32]⟩ ⟨J.toArray⟩ (by decide) (by rw[ba_size];omega),show(⟨#[108,101,118,101,108,32]⟩:ByteArray)=⟨([108,101,118,101,108,32]:List UInt8).toArray⟩ from rfl,ba_append]
  simp
 have hlt:=lO kb
 have q0:=(blk_cells kb).1 4
 have whole:=fun(W:World) (k:W.heap[w.heap.size]?=some (.cells (fkq A1 A2 A3 A4 c1 c2 c3 c4 f 5 c) 128 (0,0)))=>CBox.whole (CBox.mk (f:=f) (c:=c) (k:=5) k)
 go_enter Tryz.func91,Tryz.ntmps91
 go_wp2
 generalize w.alloc (.cells (fkq A1 A2 A3 A4 c1 c2 c3 c4 f 5 c) 128)=W0 at*
 refine wp_region_held_drew (S:=fun W=>W.cell? ⟨w.heap.size,4,none⟩=some (.int .u8 5)) (by kernel_rfl) q0 (fun hHeld=> ?_)
 refine tH 1 (some 5) (v:= ?v21) rfl rfl (fun W hW=> ?hy21) ?hr21
 case hy21=>(try dsimp only at hW);go_simp;try with_reducible rfl
 try simp only[Act.put,q1,q2,q3]
 refine tH 2 (some 6) (v:= ?v22) rfl rfl (fun W hW=> ?hy22) ?hr22
 case hy22=>(try dsimp only at hW);go_simp;try with_reducible rfl
 try simp only[Act.put,q1,q2,q3]
 refine tH 3 (some 7) (v:= ?v23) rfl rfl (fun W hW=> ?hy23) ?hr23
 case hy23=>(try dsimp only at hW);go_simp;try with_reducible rfl
 try simp only[Act.put,q1,q2,q3]
 refine wpAnyH_ready (rs:=[0,5]) (by kernel_rfl) (by simp) ?_
 refine readyH (some 4) rfl rfl (fun K hK=> ?_) (readyH (some 3) rfl rfl (fun K hK=> ?_) AllReadyH.nil)
 ·go_simp
  refine(kinds_v _).mono ?_
  rintro e w1 ⟨rfl,hx⟩
  have kb1:=(hx.block w.heap.size hlt).trans kb
  have hall1:Below w.heap.size w w1:=hall.drew.trans (hx.mono hall.size)
  refine hK.out _ _ ((blk_cells kb1).1 4) (fun hHeld=> ?_)
  clear hK K hx kb hall
  try simp only[Act.put,q1,q2,q3]
  refine tH 4 (some 8) (v:= ?v24) rfl rfl (fun W hW=> ?hy24) ?hr24
  case hy24=>(try dsimp only at hW);go_simp;try with_reducible rfl
  try simp only[Act.put,q1,q2,q3]
  refine wpAnyH_ready (rs:=[5]) (by kernel_rfl) (by simp) ?_
  refine readyH (some 3) rfl rfl (fun K hK=> ?_) AllReadyH.nil
  go_simp
  have ha:=heap_alloc_new w1 (.cells #[.string ⟨#[]⟩,.nilFunc,.nilFunc] 204)
  have kb2:=(Below.heap_alloc w1 (.cells #[.string ⟨#[]⟩,.nilFunc,.nilFunc] 204) w.heap.size (lO kb1)).trans kb1
  have hall2:Below w.heap.size w (w1.alloc (.cells #[.string ⟨#[]⟩,.nilFunc,.nilFunc] 204)):=hall1.alloc hall1.size _
  refine hK.out _ _ ((blk_cells kb2).1 4) (fun hHeld=> ?_)
  clear hK K
  try simp only[Act.put,q1,q2,q3]
  obtain⟨W,hst,kp,hg⟩:=st_row _ w1.heap.size _ 204 _ #[.string ⟨#[108,101,118,101,108]⟩,.func (.func 219) #[] #[],.func (.func 220) #[] #[]] ha info_kind1 rfl (by simp[Value.oneCell'])
  have kbW:W.heap[w.heap.size]?=_:=(hg.block _ (lO kb2) (by have:=lO kb1;simp;omega)).trans kb2
  have hallW:Below w.heap.size w W:=hall2.grown hg hall2.size (fun k e=>by cases e;exact hall1.size)
  refine wpAnyH_ready (rs:=[6]) (by kernel_rfl) (by simp) ?_
  refine readyH none rfl rfl (fun K hK=> ?_) AllReadyH.nil
  go_simp
  refine hK.out _ _ ((blk_cells kbW).1 4) (fun hHeld=> ?_)
  clear hK K
  try simp only[Act.put,q1,q2,q3]
  refine wpAnyH_done (by kernel_rfl) ?_ _
  clear hHeld hix q0
  have hallW:=hallW.drew
  have kp:=(show W.drew.heap[w1.heap.size]?=_ from kp)
  have kbW:=(show W.drew.heap[w.heap.size]?=_ from kbW)
  go_wp2
  go_region_held3 (fun W=>(loadVar 128 ⟨w.heap.size,0,none⟩).run Tryz.prog W=.ok (.agg (fkq A1 A2 A3 A4 c1 c2 c3 c4 f 5 c)) W∧W.cell? ⟨w1.heap.size,0,none⟩=some (.string ⟨#[108,101,118,101,108]⟩)∧W.cell? ⟨w1.heap.size,2,none⟩=some (.func (.func 220) #[] #[])) (exact⟨whole _ kbW,(blk_cells kp).1 0,(blk_cells kp).1 2⟩) (first
   |(go_at_call 220;refine(hR _ hallW).mono ?_;rintro e w2 ⟨g,rfl,hg,hge,hx⟩;have kbW:=kE hx kbW;have kp:=kE hx kp;have hallW:=hallW.trans (hx.mono hallW.size);clear hx hR)
   |(go_at_call 119;refine(join_h g _ ws J _ hJ hl (nms_blk hg) h0 (Nat.le_refl _) hn).mono ?_;rintro e w3 ⟨rfl,hx⟩;have kbW:=kE hx kbW;have kp:=kE hx kp;have hallW:=hallW.trans (hx.mono hallW.size);clear hx))
  all_goals go_wp2
  all_goals go_ret
  all_goals exact⟨rfl,hallW⟩
 ·go_simp
  have ha:=heap_alloc_new W0.drew (.cells #[.string ⟨#[]⟩,.nilFunc,.nilFunc] 204)
  have kb1:=(Below.heap_alloc W0.drew (.cells #[.string ⟨#[]⟩,.nilFunc,.nilFunc] 204) w.heap.size hlt).trans kb
  have hall1:Below w.heap.size w (W0.drew.alloc (.cells #[.string ⟨#[]⟩,.nilFunc,.nilFunc] 204)):=hall.drew.alloc hall.size _
  refine hK.out _ _ ((blk_cells kb1).1 4) (fun hHeld=> ?_)
  clear hK K
  try simp only[Act.put,q1,q2,q3]
  refine wpAnyH_ready (rs:=[0]) (by kernel_rfl) (by simp) ?_
  refine readyH (some 4) rfl rfl (fun K hK=> ?_) AllReadyH.nil
  go_simp
  refine(kinds_v _).mono ?_
  rintro e w1 ⟨rfl,hx⟩
  have kb2:=(hx.block w.heap.size (lO kb1)).trans kb1
  have ha:=kE hx ha
  have hall2:Below w.heap.size w w1:=hall1.trans (hx.mono hall1.size)
  refine hK.out _ _ ((blk_cells kb2).1 4) (fun hHeld=> ?_)
  clear hK K hx
  try simp only[Act.put,q1,q2,q3]
  refine tH 4 (some 8) (v:= ?v25) rfl rfl (fun W hW=> ?hy25) ?hr25
  case hy25=>(try dsimp only at hW);go_simp;try with_reducible rfl
  try simp only[Act.put,q1,q2,q3]
  obtain⟨W,hst,kp,hg⟩:=st_row _ W0.heap.size _ 204 _ #[.string ⟨#[108,101,118,101,108]⟩,.func (.func 219) #[] #[],.func (.func 220) #[] #[]] ha info_kind1 rfl (by simp[Value.oneCell'])
  have kbW:W.heap[w.heap.size]?=_:=(hg.block _ (lO kb2) (by simp;omega)).trans kb2
  have hallW:Below w.heap.size w W:=hall2.grown hg hall2.size (fun k e=>by cases e;exact hall.size)
  clear hall hall1 hall2 kb kb1 kb2 ha hg
  refine wpAnyH_ready (rs:=[6]) (by kernel_rfl) (by simp) ?_
  refine readyH none rfl rfl (fun K hK=> ?_) AllReadyH.nil
  go_simp
  refine hK.out _ _ ((blk_cells kbW).1 4) (fun hHeld=> ?_)
  clear hK K
  try simp only[Act.put,q1,q2,q3]
  refine wpAnyH_done (by kernel_rfl) ?_ _
  clear hHeld hix q0
  have hallW:=hallW.drew
  have kp:=(show W.drew.heap[W0.heap.size]?=_ from kp)
  have kbW:=(show W.drew.heap[w.heap.size]?=_ from kbW)
  go_wp2
  go_region_held3 (fun W=>(loadVar 128 ⟨w.heap.size,0,none⟩).run Tryz.prog W=.ok (.agg (fkq A1 A2 A3 A4 c1 c2 c3 c4 f 5 c)) W∧W.cell? ⟨W0.heap.size,0,none⟩=some (.string ⟨#[108,101,118,101,108]⟩)∧W.cell? ⟨W0.heap.size,2,none⟩=some (.func (.func 220) #[] #[])) (exact⟨whole _ kbW,(blk_cells kp).1 0,(blk_cells kp).1 2⟩) (first
   |(go_at_call 220;refine(hR _ hallW).mono ?_;rintro e w2 ⟨g,rfl,hg,hge,hx⟩;have kbW:=kE hx kbW;have kp:=kE hx kp;have hallW:=hallW.trans (hx.mono hallW.size);clear hx hR)
   |(go_at_call 119;refine(join_h g _ ws J _ hJ hl (nms_blk hg) h0 (Nat.le_refl _) hn).mono ?_;rintro e w3 ⟨rfl,hx⟩;have kbW:=kE hx kbW;have kp:=kE hx kp;have hallW:=hallW.trans (hx.mono hallW.size);clear hx))
  all_goals go_wp2
  all_goals go_ret
  all_goals exact⟨rfl,hallW⟩
end Go.Proofs.YtgbpekeoegfjpaaGreatDoor
set_option maxRecDepth 100000
namespace Go.Proofs.YtgbpekeoegfjpaaGreatDoor
open Go.RowKit
variable (A1 A2 A3 A4 : Option Addr) (c1 c2 c3 c4 : Nat) (f : Pl.Fld)
attribute [-go_sem] run_equalIn_agg loadVar storeVar
attribute [local go_sem] lv_int lv_bool lv_u8 lv_string
theorem liN_at {f:Pl.Fld}{i:Int}{n:Nat}(h:i=(n:Int))(hn:n<f.li.length):Pl.liN f i=f.li[n]:=by
 unfold Pl.liN
 rw[h,Int.toNat_natCast,List.getElem?_eq_getElem hn]
theorem stN_at {f:Pl.Fld}{i:Int}{n:Nat}(h:i=(n:Int))(hn:n<f.st.length):Pl.stN f i=f.st[n].1:=by
 unfold Pl.stN
 rw[h,Int.toNat_natCast,List.getElem?_eq_getElem hn]
theorem lineB_of {f:Pl.Fld}{c:Pl.Cal}{k:ByteArray}{ws:List ByteArray}(h:Pl.callW f c=k::ws)(h0:0<ws.length):(⟨((k.data.toList++[(32:UInt8)])++Lib.join (ws.map (fun x:ByteArray=>x.data.toList)) [32]).toArray⟩:ByteArray)=Pl.lineB f c:=by
 unfold Pl.lineB Pl.joinB Pl.mkB
 rw[h]
 cases ws with
 |nil=>simp at h0
 |cons a r=>simp[Lib.join]
theorem ends_of {f:Pl.Fld}{c:Pl.Cal}{k:ByteArray}{ws:List ByteArray}{b:List UInt8}{F:FuncId}{A:Array Value}{w:World}(h:Pl.callW f c=k::ws)(h0:0<ws.length)(hb:b=k.data.toList++[(32:UInt8)])(hc:Calls Tryz.prog F A w fun e w'=>e=.returned (.string ⟨(b++Lib.join (ws.map (fun x:ByteArray=>x.data.toList)) [32]).toArray⟩)∧Below w.heap.size w w'):
  Calls Tryz.prog F A w fun e w'=>e=.returned (.string (Pl.lineB f c))∧Below w.heap.size w w':=by
 subst hb
 rw[lineB_of h h0]at hc
 exact hc
set_option maxHeartbeats 2000000 in
theorem line_a (c:Pl.Cal)(w:World)(hE:Env w)(hf:FldS w w.heap.size A1 A2 A3 A4 f)(hF:Pl.fieldE f=0)(hC:Pl.callE f c=0):
  Calls Tryz.prog 91 #[.agg (fcq A1 A2 A3 A4 c1 c2 c3 c4 f c)] w fun e w'=>e=.returned (.string (Pl.lineB f c))∧Below w.heap.size w w':=by
 have hok:=Pl.fieldE_ok hF
 have ht:=Pl.callE_tab hC
 have hcr:c.kind=3->c.crs.ok=true:=fun hk=>(Pl.callE_three hC hk).1
 have hsz:=Pl.callW_size hok ht hcr
 obtain⟨ilim,hlim⟩: ∃n:Nat,c.lim=n:=⟨c.lim.toNat,by have:=ht.1;unfold Pl.inN at this;omega⟩
 have llim:ilim<f.li.length:=by have:=ht.1;unfold Pl.inN at this;omega
 obtain⟨ifr,hfr⟩: ∃n:Nat,c.fr=n:=⟨c.fr.toNat,by have:=ht.2.1;unfold Pl.inN at this;omega⟩
 have lfr:ifr<f.st.length:=by have:=ht.2.1;unfold Pl.inN at this;omega
 have a1:=liN_at hlim llim
 have a2:=stN_at hfr lfr
 have hsm: ∀(k:ByteArray) (ws:List ByteArray),Pl.callW f c=k::ws->ws.length<=100->(Lib.join (ws.map (·.data.toList)) [32]).length<=1000000:=fun k ws e hl=>by
  have:=Pl.joinB_size (ws:=ws) (n:=200) fun x hx=>hsz x (by rw[e];simp[hx])
  omega
 have ez:(-1000000<=c.size∧c.size<=1000000)∧ -1000000<=c.er∧c.er<=1000000:=by have s:=ht.2.2;omega
 have far:c.kind=3∨c.kind=4∨c.kind=5-> ∃n:Nat,c.till=n∧n<f.st.length:=fun hk=>by
  have:=Pl.tab_far ht hk
  unfold Pl.inN at this
  exact⟨c.till.toNat,by omega,by omega⟩
 have oth:c.kind=2∨c.kind=4-> ∃n:Nat,c.oth=n∧n<f.li.length:=fun hk=>by
  have:=Pl.tab_oth ht hk
  unfold Pl.inN at this
  exact⟨c.oth.toNat,by omega,by omega⟩
 rcases Pl.tab_kind ht with hk|hk|hk|hk|hk
 ·have e:Pl.callW f c=Pl.wStone::[f.li[ilim],f.st[ifr].1,Pl.spelt c.size,Pl.spelt c.er]:=by unfold Pl.callW;rw[if_pos hk,a1,a2]
  have h:=line_stone A1 A2 A3 A4 c1 c2 c3 c4 f c _ _ w (Lib.hid rfl) (hsm _ _ e (by simp)) (by simp) (by simp) (fun W hW=>by have:=stoneWords_a A1 A2 A3 A4 c1 c2 c3 c4 f c W (hE.up hW) (hf.up hW) ilim ifr hlim llim hfr lfr ez.1 ez.2;rw[hk]at this;exact this)
  rw[hk]
  exact ends_of e (by simp) rfl h
 ·obtain⟨ioth,hoth,loth⟩:=oth (.inl hk)
  have e:Pl.callW f c=Pl.wWidth::[f.li[ilim],f.li[ioth],f.st[ifr].1,Pl.spelt c.size,Pl.spelt c.er]:=by unfold Pl.callW;rw[if_neg (by omega),if_pos hk,a1,a2,liN_at hoth loth]
  have h:=line_width A1 A2 A3 A4 c1 c2 c3 c4 f c _ _ w (Lib.hid rfl) (hsm _ _ e (by simp)) (by simp) (by simp) (fun W hW=>by have:=widthWords_a A1 A2 A3 A4 c1 c2 c3 c4 f c W (hE.up hW) (hf.up hW) ilim ioth ifr hlim llim hoth loth hfr lfr ez.1 ez.2;rw[hk]at this;exact this)
  rw[hk]
  exact ends_of e (by simp) rfl h
 ·obtain⟨itill,htill,ltill⟩:=far (.inl hk)
  obtain⟨⟨r0,r1⟩,⟨n0,n1⟩,⟨l0,l1⟩,_,⟨x0,x1⟩,s0,s1⟩:=Pl.Crs.ok_iff (hcr hk)
  have e:Pl.callW f c=Pl.wCourse::[f.li[ilim],f.st[ifr].1,f.st[itill].1,Pl.lengthV c.crs.l,⟨#[98,121]⟩,Pl.quadB c.crs.b,⟨#[103,105,118,101]⟩,Pl.spelt c.crs.n,⟨#[119,101,97,114]⟩,Pl.spelt c.crs.x,⟨#[115,108,97,99,107]⟩,Pl.spelt c.crs.s]:=by
   unfold Pl.callW;rw[if_neg (by omega),if_neg (by omega),if_pos hk,a1,a2,stN_at htill ltill];rfl
  have h:=line_course A1 A2 A3 A4 c1 c2 c3 c4 f c _ _ w (Lib.hid rfl) (hsm _ _ e (by simp)) (by simp) (by simp) (fun W hW=>by have:=courseWords_a A1 A2 A3 A4 c1 c2 c3 c4 f c W (hE.up hW) (hf.up hW) ilim ifr itill hlim llim hfr lfr htill ltill (by omega) (by omega) (by omega);rw[hk]at this;exact this)
  rw[hk]
  exact ends_of e (by simp) rfl h
 ·obtain⟨itill,htill,ltill⟩:=far (.inr (.inl hk))
  obtain⟨ioth,hoth,loth⟩:=oth (.inr hk)
  have e:Pl.callW f c=Pl.wAlong::[f.li[ilim],f.li[ioth],f.st[ifr].1,f.st[itill].1]:=by unfold Pl.callW;rw[if_neg (by omega),if_neg (by omega),if_neg (by omega),if_pos hk,a1,a2,liN_at hoth loth,stN_at htill ltill]
  have h:=line_along A1 A2 A3 A4 c1 c2 c3 c4 f c _ _ w (Lib.hid rfl) (hsm _ _ e (by simp)) (by simp) (by simp) (fun W hW=>by have:=alongWords_a A1 A2 A3 A4 c1 c2 c3 c4 f c W (hE.up hW) (hf.up hW) ilim ioth ifr itill hlim llim hoth loth hfr lfr htill ltill;rw[hk]at this;exact this)
  rw[hk]
  exact ends_of e (by simp) rfl h
 ·obtain⟨itill,htill,ltill⟩:=far (.inr (.inr hk))
  have e:Pl.callW f c=Pl.wLevel::[f.li[ilim],f.st[ifr].1,f.st[itill].1,Pl.spelt c.size,Pl.spelt c.er]:=by unfold Pl.callW;rw[if_neg (by omega),if_neg (by omega),if_neg (by omega),if_neg (by omega),a1,a2,stN_at htill ltill]
  have h:=line_level A1 A2 A3 A4 c1 c2 c3 c4 f c _ _ w (Lib.hid rfl) (hsm _ _ e (by simp)) (by simp) (by simp) (fun W hW=>by have:=levelWords_a A1 A2 A3 A4 c1 c2 c3 c4 f c W (hE.up hW) (hf.up hW) ilim ifr itill hlim llim hfr lfr htill ltill ez.1 ez.2;rw[hk]at this;exact this)
  rw[hk]
  exact ends_of e (by simp) rfl h
noncomputable def Pl.writeV (f:Pl.Fld)(c:Pl.Cal):ByteArray:=if Pl.checkCallE f c=0 then Pl.lineB f c else ⟨#[]⟩
set_option maxHeartbeats 4000000 in
theorem WriteCall_a (c:Pl.Cal)(w:World)(hE0:Env w)(hf:FldS w w.heap.size A1 A2 A3 A4 f)(hm:Small f)(hc:Caps c1 c2 c3 c4 f)(hk:c.kind<=255):
  Calls Tryz.prog 29 #[.agg (fq A1 A2 A3 A4 c1 c2 c3 c4 f),.agg (kq c)] w fun e w'=>e=.returned (.tuple #[.string (Pl.writeV f c),.int .i64 (Pl.checkCallE f c)])∧Below w.heap.size w w':=by
 have kf:=heap_alloc2_old w (.cells (fq A1 A2 A3 A4 c1 c2 c3 c4 f) 28) (.cells (kq c) 48)
 have kc:=heap_alloc2_new w (.cells (fq A1 A2 A3 A4 c1 c2 c3 c4 f) 28) (.cells (kq c) 48)
 have hall:Below w.heap.size w ((w.alloc (.cells (fq A1 A2 A3 A4 c1 c2 c3 c4 f) 28)).alloc (.cells (kq c) 48)):=((Below.refl _ w).alloc (Nat.le_refl _) _).alloc (by simp) _
 have l01:=ld_row kf Tryz.underlying28 rfl info_fld
 have l02:=ld_row kc Tryz.underlying48 rfl info_cal
 have pk:=fun W (hW:Below w.heap.size w W)=>checkCall_a A1 A2 A3 A4 c1 c2 c3 c4 f c W (hf.up hW) hm hc hk
 obtain⟨E,hE⟩: ∃E,Pl.checkCallE f c=E:=⟨_,rfl⟩
 by_cases h0:E=0
 ·subst h0
  have hF:Pl.fieldE f=0:=by
   unfold Pl.checkCallE at hE
   split at hE
   ·assumption
   ·exact absurd hE ‹_›
  have hC:Pl.callE f c=0:=by
   unfold Pl.checkCallE at hE
   rw[if_pos hF]at hE
   exact hE
  have pl:=fun W (hW:Below w.heap.size w W)=>line_a A1 A2 A3 A4 c1 c2 c3 c4 f c W (hE0.up hW) (hf.up hW) hF hC
  have HV:Hid (Pl.writeV f c=Pl.lineB f c):=Lib.hid (by unfold Pl.writeV;rw[if_pos hE])
  rw[HV.out,hE]
  obtain⟨u,hu⟩: ∃u,Pl.lineB f c=u:=⟨_,rfl⟩
  rw[hu]at pl ⊢
  rw[hE]at pk
  clear hE HV hu hF hC hf hm hc
  go_enter Tryz.func29,Tryz.ntmps29
  go_wp2_with (first
   |(go_at_call 38;refine(pk _ hall).mono ?_;rintro e w1 ⟨rfl,hx⟩;have kf:=kE hx kf;have kc:=kE hx kc;have hall:Below w.heap.size w w1:=hall.trans (hx.mono hall.size);clear l01 l02;have l01:=ld_row kf Tryz.underlying28 rfl info_fld;have l02:=ld_row kc Tryz.underlying48 rfl info_cal;clear hx)
   |(go_at_call 91;refine(pl _ hall).mono ?_;rintro e w2 ⟨rfl,hx⟩;have hall:Below w.heap.size w w2:=hall.trans (hx.mono hall.size);clear hx))
  go_ret2
  exact⟨rfl,hall⟩
 ·have HV:Hid (Pl.writeV f c=⟨#[]⟩):=Lib.hid (by unfold Pl.writeV;rw[if_neg (by rw[hE];exact h0)])
  rw[HV.out,hE]
  rw[hE]at pk
  have hne:(E !=0)=true:=by simpa using h0
  clear hE HV h0
  go_enter Tryz.func29,Tryz.ntmps29
  go_wp2_with (go_at_call 38;refine(pk _ hall).mono ?_;rintro e w1 ⟨rfl,hx⟩;have hall:Below w.heap.size w w1:=hall.trans (hx.mono hall.size);clear hx)
  go_ret2
  exact⟨rfl,hall⟩
end Go.Proofs.YtgbpekeoegfjpaaGreatDoor
set_option maxRecDepth 100000
namespace Go.Proofs.YtgbpekeoegfjpaaGreatDoor
open Go.RowKit
variable (A1 A2 A3 A4 : Option Addr) (c1 c2 c3 c4 : Nat) (f : Pl.Fld)
attribute [-go_sem] run_equalIn_agg loadVar storeVar
attribute [local go_sem] lv_int lv_bool lv_u8 lv_string lv_calls
theorem addP (P Q:List UInt8)(h:P.length<=1000000000000)(h2:Q.length<=1000000)(W:World):(Op.stringOp .add ⟨P.toArray⟩ ⟨Q.toArray⟩).run Tryz.prog W=.ok (.string ⟨(P++Q).toArray⟩) W:=by
 rw[run_string_add_sum W ⟨P.toArray⟩ ⟨Q.toArray⟩ (by rw[ba_size,ba_size];omega),ba_append]
 simp
theorem ba_listP (s:ByteArray): ∃l:List UInt8,s=⟨l.toArray⟩∧l.length=s.size:=⟨s.data.toList,by simp,by simp⟩
theorem itoa_i (n:Int)(w:World)(hE:Env w)(h0: -1000000<=n)(h1:n<=1000000):Calls Tryz.prog 120 #[.int .i64 n] w fun e w'=>e=.returned (.string ⟨(Lib.itoa n).toArray⟩)∧Below w.heap.size w w':=itoa_lib n w hE (by omega) (by omega)
set_option maxHeartbeats 16000000 in
theorem PrintDeeds_ok (A:Option Addr)(c:Nat)(l:List (Pl.Ded×Option Addr×Nat))(w:World)(hEn:Env w)(hf:FldS w w.heap.size A1 A2 A3 A4 f)(hm:Small f)(hc:Caps c1 c2 c3 c4 f)(hD:DedS w w.heap.size A l)(hlc:l.length<=c)(hk: ∀x∈l,∀c∈x.1.calls,c.kind<=255)(hE:Pl.deedsE f (l.map (·.1))=0):
  Calls Tryz.prog 61 #[.agg (fq A1 A2 A3 A4 c1 c2 c3 c4 f),.slice A l.length c] w fun e w'=>e=.returned (.string ⟨(Pl.deedsL f (l.map (·.1))).toArray⟩)∧Below w.heap.size w w':=by
 have hF:Pl.fieldE f=0:=by
  unfold Pl.deedsE at hE
  split at hE
  ·assumption
  ·exact absurd hE ‹_›
 have h60:l.length<=60:=by
  unfold Pl.deedsE at hE
  rw[if_pos hF]at hE
  split at hE
  ·cases hE
  ·rename_i h;simpa using h
 have hdo: ∀d∈l,Pl.DedOk f d.1:=fun d hd=>by
  unfold Pl.deedsE at hE
  rw[if_pos hF,if_neg (by simp;omega)]at hE
  exact(Pl.dedsGo_ok hE).1 d.1 (List.mem_map_of_mem hd)
 have hfo:=Pl.fieldE_ok hF
 have hn: ∀x∈l,x.1.name.size<=100000:=fun x hx=>by have:=Pl.name_size (hdo x hx).name;omega
 have hres:Hid ((l.take l.length).flatMap (fun x=>Pl.dedL f x.1)=Pl.deedsL f (l.map (·.1))):=Lib.hid (by
  rw[List.take_length,Pl.deedsL_eq (fun d hd=>by obtain⟨x,hx,rfl⟩:=List.mem_map.1 hd;exact hdo x hx),List.flatMap_map])
 obtain⟨R,hR⟩: ∃R,Pl.deedsL f (l.map (·.1))=R:=⟨_,rfl⟩
 rw[hR]at hres ⊢
 clear hR
 have kf:=heap_alloc_new w (.cells (fq A1 A2 A3 A4 c1 c2 c3 c4 f) 28)
 have hb0:Below w.heap.size w (w.alloc (.cells (fq A1 A2 A3 A4 c1 c2 c3 c4 f) 28)):=(Below.refl _ w).alloc (Nat.le_refl _) _
 have l01:=ld_row kf Tryz.underlying28 rfl info_fld
 have pk:=CheckDeeds_a A1 A2 A3 A4 c1 c2 c3 c4 f A c l _ (hf.up hb0) hm hc (⟨hD.row.up hb0,fun x hx=>(hD.own x hx).up hb0⟩:DedS _ _ A l) hlc hk hn (by omega)
 rw[hE]at pk
 have HF:=Lib.hid hF
 have Hdo:=Lib.hid hdo
 have Hfo:=Lib.hid hfo
 clear hF hE hdo hfo hn
 go_enter Tryz.func61,Tryz.ntmps61
 go_wp2_with (go_at_call 48;refine pk.mono ?_;rintro e w1 ⟨rfl,hx⟩;have kf:=kE hx kf;have hall:Below w.heap.size w w1:=hb0.trans (hx.mono hb0.size);clear l01)
 have hltkf:=lO kf
 have hsz:=hall.size
 have hbd:IsBd w1.heap.size w1.heap.size [] (w1.alloc (.cells #[.pointer none,.slice none 0 0] 154)):=Lib.IsBuilderF.of (Lib.fresh_isBuilder _ _ _)
 have kf:=(Below.heap_alloc _ (.cells #[.pointer none,.slice none 0 0] 154) _ hltkf).trans kf
 have hall:Below w.heap.size w (w1.alloc (.cells #[.pointer none,.slice none 0 0] 154)):=hall.trans ((Below.refl _ w1).alloc hsz _)
 clear pk hb0 hx
 go_loopw [16] (fun i wr=> ∃(k:Nat),k<=l.length∧i=.int .i64 k∧IsBd w1.heap.size w1.heap.size ((l.take k).flatMap (fun x=>Pl.dedL f x.1)) wr∧wr.heap[w.heap.size]?=some (.cells (fq A1 A2 A3 A4 c1 c2 c3 c4 f) 28 (0,0))∧Below w.heap.size w wr) (fun i _=>l.length-(intOf i).toNat)
 case atStart=>exact⟨0,by omega,rfl,by rw[Pl.take_zero];exact hbd,kf,hall⟩
 case round=>
  clear kf hall hsz hbd
  obtain⟨k,hkl,rfl,hbd,kf,hall⟩:=hrel
  have hltb:=hbd.lt
  have hsz:=hall.size
  by_cases hlt:k<l.length
  ·obtain⟨g,o,hP,hg,u0⟩:=Dds.ld hD.row hlt
   have hmem:=List.getElem_mem hlt
   have hcl:=hD.own _ hmem
   have hkc:=hk _ hmem
   have hok:=Hdo.out _ hmem
   have hpre:=Pl.take_len (fun x:Pl.Ded×Option Addr×Nat=>Pl.dedL f x.1) l 70000 (fun x hx=>Pl.dedL_len Hfo.out (Hdo.out x hx)) k
   have HN:=Lib.hid (Pl.take_succ (fun x:Pl.Ded×Option Addr×Nat=>Pl.dedL f x.1) hlt)
   obtain⟨PP,hPP⟩: ∃X,(l.take k).flatMap (fun x=>Pl.dedL f x.1)=X:=⟨_,rfl⟩
   have HPP:=Lib.hid hPP
   rw[hPP]at hbd HN hpre
   have hpp:PP.length<=4200000:=Nat.le_trans hpre (by have:=Nat.mul_le_mul_right 70000 (show k<=60 by omega);omega)
   clear hPP hpre hmem
   obtain⟨⟨⟨nm,y,r,cs⟩,P,p2⟩,hbd2⟩: ∃x,l[k]=x:=⟨_,rfl⟩
   rw[hbd2]at u0 hcl hkc hok HN
   have hnm:=Pl.name_size hok.name
   have hy:=hok.year
   have hr:=hok.rank
   have hcs20:=hok.few
   have hcal:=hok.calls
   have h100:=Pl.dedW_len hnm hy hr
   have HQ:=Lib.hid (Pl.dedW_text ⟨nm,y,r,cs⟩).symm
   simp only at u0 hcl hkc hnm hy hr hcs20 hcal
   clear hbd2 hok
   obtain⟨nl,rfl,hnl⟩:=ba_listP nm
   rw[<-hnl]at hnm
   clear hnl
   obtain⟨D,hDD⟩: ∃X,Pl.lineL (Pl.dedW ⟨⟨nl.toArray⟩,y,r,cs⟩)=X:=⟨_,rfl⟩
   have HN2:Hid ((l.take (k+1)).flatMap (fun x=>Pl.dedL f x.1)=PP++(D++cs.flatMap (Pl.callL f))):=Lib.hid (by rw[HN.out];unfold Pl.dedL;rw[hDD])
   have HQ:Hid (((((([100,101,101,100,32]++nl)++[32])++Lib.itoa y)++[32])++Lib.itoa r)++[10]=D):=Lib.hid (by rw[<-hDD];exact HQ.out)
   rw[hDD]at h100
   clear HN hDD
   have iy:(Lib.itoa y).length<=21:=Lib.itoa_length_le y (by omega) (by omega)
   have ir:(Lib.itoa r).length<=21:=Lib.itoa_length_le r (by omega) (by omega)
   have t1:=fun W=>addP [100,101,101,100,32] nl (by decide) (by omega) W
   obtain⟨Q1,hQ1⟩: ∃X,[100,101,101,100,32]++nl=X:=⟨_,rfl⟩
   have g1:Q1.length<=100:=by rw[<-hQ1];simp;omega
   rw[hQ1]at t1 HQ
   have t2:=fun W=>addP Q1 [32] (by omega) (by decide) W
   obtain⟨Q2,hQ2⟩: ∃X,Q1++[32]=X:=⟨_,rfl⟩
   have g2:Q2.length<=200:=by rw[<-hQ2];simp;omega
   rw[hQ2]at t2 HQ
   have t3:=fun W=>addP Q2 (Lib.itoa y) (by omega) (by omega) W
   obtain⟨Q3,hQ3⟩: ∃X,Q2++(Lib.itoa y)=X:=⟨_,rfl⟩
   have g3:Q3.length<=300:=by rw[<-hQ3];simp;omega
   rw[hQ3]at t3 HQ
   have t4:=fun W=>addP Q3 [32] (by omega) (by decide) W
   obtain⟨Q4,hQ4⟩: ∃X,Q3++[32]=X:=⟨_,rfl⟩
   have g4:Q4.length<=400:=by rw[<-hQ4];simp;omega
   rw[hQ4]at t4 HQ
   have t5:=fun W=>addP Q4 (Lib.itoa r) (by omega) (by omega) W
   obtain⟨Q5,hQ5⟩: ∃X,Q4++(Lib.itoa r)=X:=⟨_,rfl⟩
   have g5:Q5.length<=500:=by rw[<-hQ5];simp;omega
   rw[hQ5]at t5 HQ
   have t6:=fun W=>addP Q5 [10] (by omega) (by decide) W
   rw[HQ.out]at t6
   clear hQ1 hQ2 hQ3 hQ4 hQ5
   subst hP
   have e1:(0:Int)<=(k:Int):=by omega
   have e2:(k:Int)<(l.length:Int):=by omega
   have u1:=u0 _ hall
   have kn:=heap_alloc_new wr (.cells #[.string ⟨#[]⟩,.int .i64 0,.int .i64 0,.slice none 0 0] 90)
   obtain⟨W1,st1,k1,hg1⟩:=st_row (wr.alloc (.cells #[.string ⟨#[]⟩,.int .i64 0,.int .i64 0,.slice none 0 0] 90)) wr.heap.size 90 90 #[.string ⟨#[]⟩,.int .i64 0,.int .i64 0,.slice none 0 0] #[.string ⟨nl.toArray⟩,.int .i64 y,.int .i64 r,.slice P cs.length p2] kn (by kernel_rfl) rfl (by simp[Value.oneCell'])
   have hx1:Below wr.heap.size wr W1:=((Below.refl _ wr).alloc (Nat.le_refl _) _).grown hg1 (by simp) (fun j e=>by cases e;exact Nat.le_refl _)
   have hbd1:=hbd.below hx1
   have kf1:=kE hx1 kf
   have hall1:=hall.trans (hx1.mono (by omega))
   have hne:wr.heap.size≠w1.heap.size:=by omega
   have hW1:=hx1.size
   clear kn u0 hbd kf
   have py:=fun W (hW:Below w.heap.size w W)=>itoa_i y W (hEn.up hW) (by omega) (by omega)
   have pr:=fun W (hW:Below w.heap.size w W)=>itoa_i r W (hEn.up hW) (by omega) (by omega)
   go_wp2
   clear u1 st1 hx1 hall hg1
   obtain⟨ad,had⟩: ∃n,wr.heap.size=n:=⟨_,rfl⟩
   rw[had]at k1 hne hW1 hltb
   simp only[had]
   have qn:=(blk_cells k1).1 0
   have k1:=(show W1.drew.heap[ad]?=_ from k1)
   have kf1:=(show W1.drew.heap[w.heap.size]?=_ from kf1)
   have hall1:=hall1.drew
   have hbd1:=(show IsBd w1.heap.size w1.heap.size PP W1.drew from hbd1)
   go_region_held3 (fun W=>W.cell? ⟨ad,0,none⟩=some (.string ⟨nl.toArray⟩)∧W.cell? ⟨ad,1,none⟩=some (.int .i64 y)∧W.cell? ⟨ad,2,none⟩=some (.int .i64 r)) (exact⟨(blk_cells k1).1 0,(blk_cells k1).1 1,(blk_cells k1).1 2⟩) (first
    |(go_at_call 120;refine(py _ hall1).mono ?_;rintro e w2 ⟨rfl,hx⟩;have k1:=kE hx k1;have kf1:=kE hx kf1;have hbd1:=hbd1.below hx;have hall1:=hall1.trans (hx.mono hall1.size);clear hx py)
    |(go_at_call 120;refine(pr _ hall1).mono ?_;rintro e w2 ⟨rfl,hx⟩;have k1:=kE hx k1;have kf1:=kE hx kf1;have hbd1:=hbd1.below hx;have hall1:=hall1.trans (hx.mono hall1.size);clear hx pr)
    |(go_at_call 118;refine(writeS w1.heap.size w1.heap.size PP D _ hbd1 (by omega)).mono ?_;rintro e w3 ⟨rfl,hbd3,hx3,hk3⟩;have k1:=hk3.at_ k1 hne (by decide);have kf1:=(hx3.block w.heap.size (by omega)).trans kf1;have hall1:=hall1.trans (hx3.mono (by omega));clear hx3 hk3))
   all_goals have q3:=(blk_cells k1).1 3
   all_goals clear k1 qn HQ t1 t2 t3 t4 t5 t6
   all_goals go_wp2
   all_goals clear q3 hbd1
   all_goals (
    have HS:=Lib.hid hbd3
    clear hbd3
    go_loopw [38] (fun i wr=> ∃(j:Nat),j<=cs.length∧i=.int .i64 j∧IsBd w1.heap.size w1.heap.size (PP++(D++(cs.take j).flatMap (Pl.callL f))) wr∧wr.heap[w.heap.size]?=some (.cells (fq A1 A2 A3 A4 c1 c2 c3 c4 f) 28 (0,0))∧Below w.heap.size w wr) (fun i _=>cs.length-(intOf i).toNat)
    case atStart=>exact⟨0,by omega,rfl,by rw[Pl.take_zero,List.append_nil];exact HS.out,kf1,hall1⟩
    case round=>
     clear kf1 hall1 HS
     obtain⟨j,hj,rfl,hbd,kf,hall⟩:=hrel
     have hltb:=hbd.lt
     have hsz:=hall.size
     by_cases hjt:j<cs.length
     ·obtain⟨g2,o2,hP2,hg2,v0⟩:=Cals.ld hcl hjt
      have hca:=hcal _ (List.getElem_mem hjt)
      have hkk:=hkc _ (List.getElem_mem hjt)
      have hclen:=Pl.callL_len Hfo.out hca.1
      have hpre:=Pl.take_len (Pl.callL f) cs 3001 (fun c hc=>Pl.callL_len Hfo.out (hcal c hc).1) j
      have hjm:j*3001<=60020:=by have:=Nat.mul_le_mul_right 3001 (show j<=20 by omega);omega
      have HM:=Lib.hid (Pl.take_succ (Pl.callL f) hjt)
      obtain⟨c,hcc⟩: ∃c,cs[j]=c:=⟨_,rfl⟩
      rw[hcc]at v0 hca hkk HM hclen
      clear hcc
      obtain⟨QQ,hQQ⟩: ∃X,PP++(D++(cs.take j).flatMap (Pl.callL f))=X:=⟨_,rfl⟩
      have hqq:QQ.length<=10000000:=by rw[<-hQQ,List.length_append,List.length_append];omega
      have HM2:Hid (PP++(D++(cs.take (j+1)).flatMap (Pl.callL f))=QQ++Pl.callL f c):=Lib.hid (by rw[HM.out,<-hQQ];simp)
      rw[hQQ]at hbd
      clear HM hQQ hpre
      obtain⟨u,hu⟩: ∃u,Pl.lineB f c=u:=⟨_,rfl⟩
      obtain⟨ul,rfl,hul⟩:=ba_listP u
      have hcL:Pl.callL f c=ul++[10]:=by unfold Pl.callL;rw[hu]
      rw[hcL]at hclen HM2
      have hul2:ul.length<=3001:=by simp at hclen;omega
      have t1:=fun W=>addP ul [10] (by omega) (by decide) W
      have pl:=fun W (hW:Below w.heap.size w W)=>line_a A1 A2 A3 A4 c1 c2 c3 c4 f c W (hEn.up hW) (hf.up hW) HF.out hca.1
      rw[hu]at pl
      clear hu hul hcL hca
      subst hP2
      have e3:(0:Int)<=(j:Int):=by omega
      have e4:(j:Int)<(cs.length:Int):=by omega
      have v1:=v0 _ hall
      have kn:=heap_alloc_new wr (.cells z13 48)
      obtain⟨W2,st2,k2,hg3⟩:=st_row (wr.alloc (.cells z13 48)) wr.heap.size 48 48 z13 (kq c) kn info_cal rfl (by simp[Value.oneCell'])
      have hx2:Below wr.heap.size wr W2:=((Below.refl _ wr).alloc (Nat.le_refl _) _).grown hg3 (by simp) (fun j e=>by cases e;exact Nat.le_refl _)
      have hbd2:=hbd.below hx2
      have kf2:=kE hx2 kf
      have hall2:=hall.trans (hx2.mono (by omega))
      have l01:=ld_row kf2 Tryz.underlying28 rfl info_fld
      have l02:=ld_row k2 Tryz.underlying48 rfl info_cal
      clear kn v0 hbd kf hx2 hg3 hcal
      go_wp2_with (first
       |(go_at_call 91;refine(pl _ hall2).mono ?_;rintro e w4 ⟨rfl,hx⟩;have kf2:=kE hx kf2;have hbd2:=hbd2.below hx;have hall2:=hall2.trans (hx.mono hall2.size);clear hx pl l01 l02)
       |(go_at_call 118;refine(writeS w1.heap.size w1.heap.size QQ (ul++[10]) _ hbd2 (by omega)).mono ?_;rintro e w5 ⟨rfl,hbd3,hx3,hk3⟩;have kf2:=(hx3.block w.heap.size (by omega)).trans kf2;have hall2:=hall2.trans (hx3.mono (by omega));clear hx3 hk3))
      go_roundw
      case rel=>exact⟨j+1,by omega,by go_num,by rw[HM2.out];exact hbd3,kf2,hall2⟩
      case measure=>first|(simp[intOf];done)|(simp[intOf];omega)
     ·obtain rfl:j=cs.length:=by omega
      rw[List.take_length,<-HN2.out]at hbd
      go_wp2
      go_roundw
      case rel=>exact⟨k+1,by omega,by go_num,hbd,kf,hall⟩
      case measure=>first|(simp[intOf];done)|(simp[intOf];omega))
  ·obtain rfl:k=l.length:=by omega
   rw[hres.out]at hbd
   go_wp2_with fail
   refine(strB w1.heap.size w1.heap.size R _ hbd).mono ?_
   rintro e w5 ⟨rfl,hx⟩
   have hall5:=hall.trans (hx.mono (by omega))
   go_wp2
   go_ret
   exact⟨rfl,hall5⟩
theorem PrintDeeds_a (A:Option Addr)(c:Nat)(l:List (Pl.Ded×Option Addr×Nat))(w:World)(hEn:Env w)(hf:FldS w w.heap.size A1 A2 A3 A4 f)(hm:Small f)(hc:Caps c1 c2 c3 c4 f)(hD:DedS w w.heap.size A l)(hlc:l.length<=c)(hk: ∀x∈l,∀c∈x.1.calls,c.kind<=255)(hn: ∀x∈l,x.1.name.size<=100000)(hl:l.length<=100000):
  Calls Tryz.prog 61 #[.agg (fq A1 A2 A3 A4 c1 c2 c3 c4 f),.slice A l.length c] w fun e w'=>e=.returned (.string (Pl.deedsB f (l.map (·.1))))∧Below w.heap.size w w':=by
 by_cases hE:Pl.deedsE f (l.map (·.1))=0
 ·have:=PrintDeeds_ok A1 A2 A3 A4 c1 c2 c3 c4 f A c l w hEn hf hm hc hD hlc hk hE
  unfold Pl.deedsB Pl.mkB
  rw[if_pos hE]
  exact this
 ·unfold Pl.deedsB
  rw[if_neg hE]
  have kf:=heap_alloc_new w (.cells (fq A1 A2 A3 A4 c1 c2 c3 c4 f) 28)
  have hb0:Below w.heap.size w (w.alloc (.cells (fq A1 A2 A3 A4 c1 c2 c3 c4 f) 28)):=(Below.refl _ w).alloc (Nat.le_refl _) _
  have l01:=ld_row kf Tryz.underlying28 rfl info_fld
  have pk:=CheckDeeds_a A1 A2 A3 A4 c1 c2 c3 c4 f A c l _ (hf.up hb0) hm hc (⟨hD.row.up hb0,fun x hx=>(hD.own x hx).up hb0⟩:DedS _ _ A l) hlc hk hn hl
  obtain⟨E,he⟩: ∃E,Pl.deedsE f (l.map (·.1))=E:=⟨_,rfl⟩
  rw[he]at pk hE
  have hne:(E !=0)=true:=by simpa using hE
  clear he hE
  go_enter Tryz.func61,Tryz.ntmps61
  go_wp2_with (go_at_call 48;refine pk.mono ?_;rintro e w1 ⟨rfl,hx⟩;have hall:Below w.heap.size w w1:=hb0.trans (hx.mono hb0.size))
  go_ret
  exact⟨rfl,hall⟩
end Go.Proofs.YtgbpekeoegfjpaaGreatDoor
set_option maxRecDepth 100000
namespace Go.Proofs.YtgbpekeoegfjpaaGreatDoor
open Go.RowKit
def Pl.manyD (d:Pl.Ded):Bool:=decide (30<d.calls.length)||decide (100<d.name.size)
def Pl.many (l:List Pl.Ded):Bool:=decide (70<l.length)||l.any Pl.manyD
set_option maxHeartbeats 2000000 in
theorem many_a (A:Option Addr)(c:Nat)(l:List (Pl.Ded×Option Addr×Nat))(b:Bool)(w:World)(hD:Dds w w.heap.size A l)(hb:Hid (Pl.many (l.map (·.1))=b)):
  Calls Tryz.prog 57 #[.slice A l.length c] w fun e w'=>e=.returned (.bool b)∧w=w':=by
 by_cases h70:70<l.length
 ·have hr:b=true:=by rw[<-hb.out];unfold Pl.many;simp[h70]
  subst hr
  have n1:(70:Int)<(l.length:Int):=by omega
  go_enter Tryz.func57,Tryz.ntmps57
  go_wp2
  go_ret
  exact⟨rfl,rfl⟩
 ·have n1: ¬(70:Int)<(l.length:Int):=by omega
  have hr:Hid ((l.map (·.1)).any Pl.manyD=b):=Lib.hid (by rw[<-hb.out];unfold Pl.many;simp[h70])
  clear hb
  go_enter Tryz.func57,Tryz.ntmps57
  go_wp2
  go_loop [3] (fun i=> ∃(k:Nat),k<=l.length∧i=.int .i64 k∧Hid (∀x∈l.take k,Pl.manyD x.1=false)) (fun i=>l.length-(intOf i).toNat)
  case atStart=>exact⟨0,by omega,rfl,Lib.hid (by simp)⟩
  case round=>
   obtain⟨k,hk,rfl,hg⟩:=hrel
   by_cases hlt:k<l.length
   ·obtain⟨g,o,hA,hgB,hcl⟩:=Seg.at_ hD hlt
    have q3:=hcl 3 (slv l[k].2 l[k].1.calls.length) rfl
    have q0:=hcl 0 (.string l[k].1.name) rfl
    rw[Nat.add_zero]at q0
    clear hcl
    subst hA
    have HX:=Lib.hid (show ∀d,Pl.manyD l[k].1=d->d=true->(l.map (·.1)).any Pl.manyD=true from fun d h h2=>List.any_eq_true.2 ⟨_,List.mem_map_of_mem (List.getElem_mem hlt),by rw[h,h2]⟩)
    have HY:=Lib.hid (show Pl.manyD l[k].1=false-> ∀x∈l.take (k+1),Pl.manyD x.1=false from fun h x hx=>by
     rw[List.take_add_one,List.getElem?_eq_getElem hlt]at hx
     rcases List.mem_append.1 hx with hx|hx
     ·exact hg.out x hx
     ·simp at hx;rw[hx];exact h)
    obtain⟨x,hx⟩: ∃x,l[k]=x:=⟨_,rfl⟩
    rw[hx]at q3 q0 HX HY
    clear hx
    unfold slv at q3
    have e1:(0:Int)<=(k:Int):=by omega
    have e2:(k:Int)<(l.length:Int):=by omega
    by_cases h30:30<x.1.calls.length
    ·have m1:(30:Int)<(x.1.calls.length:Int):=by omega
     have HZ:=Lib.hid (HX.out true (by unfold Pl.manyD;simp[h30]) rfl)
     clear h30
     go_wp2
     go_ret
     exact⟨ret_bool (by rw[<-hr.out,HZ.out]),rfl⟩
    ·have m1: ¬(30:Int)<(x.1.calls.length:Int):=by omega
     by_cases h100:100<x.1.name.size
     ·have m2:(100:Int)<(x.1.name.size:Int):=by omega
      have HZ:=Lib.hid (HX.out true (by unfold Pl.manyD;simp[h100]) rfl)
      clear h30 h100
      go_wp2
      go_ret
      exact⟨ret_bool (by rw[<-hr.out,HZ.out]),rfl⟩
     ·have m2: ¬(100:Int)<(x.1.name.size:Int):=by omega
      have HZ:=Lib.hid (HY.out (by unfold Pl.manyD;simp[h30,h100]))
      clear h30 h100
      go_wp2
      go_round
      case rel=>exact⟨k+1,by omega,by go_num,HZ⟩
      case measure=>first|(simp[intOf];done)|(simp[intOf];omega)
   ·obtain rfl:k=l.length:=by omega
    have HZ:Hid (b=false):=Lib.hid (by
     rw[<-hr.out,List.any_eq_false]
     intro d hd
     obtain⟨x,hx,rfl⟩:=List.mem_map.1 hd
     have:=hg.out x (by simpa using hx)
     simp[this])
    go_wp2
    go_ret
    exact⟨ret_bool HZ.out.symm,rfl⟩
end Go.Proofs.YtgbpekeoegfjpaaGreatDoor
set_option maxRecDepth 100000
namespace Go.Proofs.YtgbpekeoegfjpaaGreatDoor
open Go.RowKit
variable (A1 A2 A3 A4 : Option Addr) (c1 c2 c3 c4 : Nat) (f : Pl.Fld)
attribute [-go_sem] storeVar loadVar run_equalIn_agg
attribute [local go_sem] lv_int lv_bool lv_u8 lv_string lv_errno
theorem eq_calV (c:Pl.Cal)(W:World):(Op.equalIn 10000 48 (.agg (kq c)) (.agg (kq c))).run Tryz.prog W=.ok true W:=by
 simp[go_sem,run_equalIn_agg]
theorem eq_fltV (W:World):(Op.equalIn 10000 31 (.agg (i2 0 0)) (.agg (i2 0 0))).run Tryz.prog W=.ok true W:=by kernel_rfl
set_option maxHeartbeats 8000000 in
theorem back_vast (Ad:Option Addr)(cd:Nat)(ds:List (Pl.Ded×Option Addr×Nat))(c:Pl.Cal)(w:World)(hEn:Env w)(hf:FldS w w.heap.size A1 A2 A3 A4 f)(hv:Hid (Pl.vast f=true)):
  Calls Tryz.prog 14 #[.agg (fq A1 A2 A3 A4 c1 c2 c3 c4 f),.slice Ad ds.length cd,.agg (kq c)] w fun e w'=>e=.returned (.bool true)∧Below w.heap.size w w':=by
 have kf:=heap_alloc2_old w (.cells (fq A1 A2 A3 A4 c1 c2 c3 c4 f) 28) (.cells (kq c) 48)
 have kc:=heap_alloc2_new w (.cells (fq A1 A2 A3 A4 c1 c2 c3 c4 f) 28) (.cells (kq c) 48)
 have hall:Below w.heap.size w ((w.alloc (.cells (fq A1 A2 A3 A4 c1 c2 c3 c4 f) 28)).alloc (.cells (kq c) 48)):=((Below.refl _ w).alloc (Nat.le_refl _) _).alloc (by simp) _
 have l01:=ld_row kf Tryz.underlying28 rfl info_fld
 have l02:=ld_row kc Tryz.underlying48 rfl info_cal
 go_enter Tryz.func14,Tryz.ntmps14
 go_wp2_with fail
 refine(vast_a A1 A2 A3 A4 c1 c2 c3 c4 f _ (hf.up hall) true hv).mono ?_
 rintro e w1 ⟨rfl,hx⟩
 have kf:=kE hx kf
 have kc:=kE hx kc
 have hall:=hall.trans (hx.mono hall.size)
 (try clear l01 l02)
 have l01:=ld_row kf Tryz.underlying28 rfl info_fld
 have l02:=ld_row kc Tryz.underlying48 rfl info_cal
 clear hx
 go_wp2_with fail
 refine(spoken_a _ (hEn.up hall)).mono ?_
 rintro e w3 ⟨rfl,hx⟩
 have kf:=kE hx kf
 have kc:=kE hx kc
 have hall:=hall.trans (hx.mono hall.size)
 (try clear l01 l02)
 have l01:=ld_row kf Tryz.underlying28 rfl info_fld
 have l02:=ld_row kc Tryz.underlying48 rfl info_cal
 clear hx
 go_wp2_with fail
 go_ret
 exact⟨by first|rfl|(simp;done),hall⟩
set_option maxHeartbeats 8000000 in
theorem back_many (Ad:Option Addr)(cd:Nat)(ds:List (Pl.Ded×Option Addr×Nat))(c:Pl.Cal)(w:World)(hEn:Env w)(hf:FldS w w.heap.size A1 A2 A3 A4 f)(hv:Hid (Pl.vast f=false))(hD:DedS w w.heap.size Ad ds)(hmy:Hid (Pl.many (ds.map (·.1))=true)):
  Calls Tryz.prog 14 #[.agg (fq A1 A2 A3 A4 c1 c2 c3 c4 f),.slice Ad ds.length cd,.agg (kq c)] w fun e w'=>e=.returned (.bool true)∧Below w.heap.size w w':=by
 have kf:=heap_alloc2_old w (.cells (fq A1 A2 A3 A4 c1 c2 c3 c4 f) 28) (.cells (kq c) 48)
 have kc:=heap_alloc2_new w (.cells (fq A1 A2 A3 A4 c1 c2 c3 c4 f) 28) (.cells (kq c) 48)
 have hall:Below w.heap.size w ((w.alloc (.cells (fq A1 A2 A3 A4 c1 c2 c3 c4 f) 28)).alloc (.cells (kq c) 48)):=((Below.refl _ w).alloc (Nat.le_refl _) _).alloc (by simp) _
 have l01:=ld_row kf Tryz.underlying28 rfl info_fld
 have l02:=ld_row kc Tryz.underlying48 rfl info_cal
 go_enter Tryz.func14,Tryz.ntmps14
 go_wp2_with fail
 refine(vast_a A1 A2 A3 A4 c1 c2 c3 c4 f _ (hf.up hall) false hv).mono ?_
 rintro e w1 ⟨rfl,hx⟩
 have kf:=kE hx kf
 have kc:=kE hx kc
 have hall:=hall.trans (hx.mono hall.size)
 (try clear l01 l02)
 have l01:=ld_row kf Tryz.underlying28 rfl info_fld
 have l02:=ld_row kc Tryz.underlying48 rfl info_cal
 clear hx
 go_wp2_with fail
 refine(many_a Ad cd ds true _ (hD.row.up hall) hmy).mono ?_
 rintro e w2 ⟨rfl,rfl⟩
 go_wp2_with fail
 refine(spoken_a _ (hEn.up hall)).mono ?_
 rintro e w3 ⟨rfl,hx⟩
 have kf:=kE hx kf
 have kc:=kE hx kc
 have hall:=hall.trans (hx.mono hall.size)
 (try clear l01 l02)
 have l01:=ld_row kf Tryz.underlying28 rfl info_fld
 have l02:=ld_row kc Tryz.underlying48 rfl info_cal
 clear hx
 go_wp2_with fail
 go_ret
 exact⟨by first|rfl|(simp;done),hall⟩
set_option maxHeartbeats 8000000 in
theorem back_bad (Ad:Option Addr)(cd:Nat)(ds:List (Pl.Ded×Option Addr×Nat))(c:Pl.Cal)(w:World)(hEn:Env w)(hf:FldS w w.heap.size A1 A2 A3 A4 f)(hm:Small f)(hc:Caps c1 c2 c3 c4 f)(hv:Hid (Pl.vast f=false))(hD:DedS w w.heap.size Ad ds)(hmy:Hid (Pl.many (ds.map (·.1))=false))(E:Int)(HE:Hid (Pl.fieldE f=E))(h0:E≠0):
  Calls Tryz.prog 14 #[.agg (fq A1 A2 A3 A4 c1 c2 c3 c4 f),.slice Ad ds.length cd,.agg (kq c)] w fun e w'=>e=.returned (.bool true)∧Below w.heap.size w w':=by
 have hne:(E !=0)=true:=by simpa using h0
 have kf:=heap_alloc2_old w (.cells (fq A1 A2 A3 A4 c1 c2 c3 c4 f) 28) (.cells (kq c) 48)
 have kc:=heap_alloc2_new w (.cells (fq A1 A2 A3 A4 c1 c2 c3 c4 f) 28) (.cells (kq c) 48)
 have hall:Below w.heap.size w ((w.alloc (.cells (fq A1 A2 A3 A4 c1 c2 c3 c4 f) 28)).alloc (.cells (kq c) 48)):=((Below.refl _ w).alloc (Nat.le_refl _) _).alloc (by simp) _
 have l01:=ld_row kf Tryz.underlying28 rfl info_fld
 have l02:=ld_row kc Tryz.underlying48 rfl info_cal
 go_enter Tryz.func14,Tryz.ntmps14
 go_wp2_with fail
 refine(vast_a A1 A2 A3 A4 c1 c2 c3 c4 f _ (hf.up hall) false hv).mono ?_
 rintro e w1 ⟨rfl,hx⟩
 have kf:=kE hx kf
 have kc:=kE hx kc
 have hall:=hall.trans (hx.mono hall.size)
 (try clear l01 l02)
 have l01:=ld_row kf Tryz.underlying28 rfl info_fld
 have l02:=ld_row kc Tryz.underlying48 rfl info_cal
 clear hx
 go_wp2_with fail
 refine(many_a Ad cd ds false _ (hD.row.up hall) hmy).mono ?_
 rintro e w2 ⟨rfl,rfl⟩
 go_wp2_with fail
 refine(checkField_h A1 A2 A3 A4 c1 c2 c3 c4 f E _ HE (hf.up hall) hm hc).mono ?_
 rintro e w3 ⟨rfl,hx⟩
 have kf:=kE hx kf
 have kc:=kE hx kc
 have hall:=hall.trans (hx.mono hall.size)
 (try clear l01 l02)
 have l01:=ld_row kf Tryz.underlying28 rfl info_fld
 have l02:=ld_row kc Tryz.underlying48 rfl info_cal
 clear hx
 go_wp2_with fail
 refine(spoken_a _ (hEn.up hall)).mono ?_
 rintro e w4 ⟨rfl,hx⟩
 have kf:=kE hx kf
 have kc:=kE hx kc
 have hall:=hall.trans (hx.mono hall.size)
 (try clear l01 l02)
 have l01:=ld_row kf Tryz.underlying28 rfl info_fld
 have l02:=ld_row kc Tryz.underlying48 rfl info_cal
 clear hx
 go_wp2_with fail
 go_ret
 exact⟨by first|rfl|(simp;done),hall⟩
set_option maxHeartbeats 32000000 in
theorem back_ok (Ad:Option Addr)(cd:Nat)(ds:List (Pl.Ded×Option Addr×Nat))(c:Pl.Cal)(w:World)(hEn:Env w)(hf:FldS w w.heap.size A1 A2 A3 A4 f)(hm:Small f)(hc:Caps c1 c2 c3 c4 f)(hv:Hid (Pl.vast f=false))(hD:DedS w w.heap.size Ad ds)(hmy:Hid (Pl.many (ds.map (·.1))=false))(hcap:ds.length<=cd)(hkd: ∀x∈ds,∀c∈x.1.calls,c.kind<=255)(hnd: ∀x∈ds,x.1.name.size<=100000)(hld:ds.length<=100000)(hkk:c.kind<=255)(HE:Hid (Pl.fieldE f=0))(S:ByteArray)(HS:Hid (Pl.printB f=S))(hS:S.size<=20000)(HP:Hid (Pl.parseField S=(f,0,0)))(T:ByteArray)(HT:Hid (Pl.deedsB f (ds.map (·.1))=T))(u:ByteArray)(HU:Hid (Pl.writeV f c=u))(D:Int)(HD:Hid (Pl.deedsE f (ds.map (·.1))=D))(K:Int)(HK:Hid (Pl.checkCallE f c=K))(hlcd: ∀x∈ds,x.1.calls.length<=100000)(HDs:Hid ((D==0)=false∨D=0∧ ¬(T.size:Int)<=20000∨D=0∧(T.size:Int)<=20000∧Pl.parseDeeds f T=(ds.map (·.1),0,0)))(HCs:Hid ((K !=0)=true∨K=0∧u.size<=90000∧(((c.kind:Int)==3)=true∧Pl.readCall f u c.crs.y=.ok c∨((c.kind:Int)==3)=false∧Pl.readCall f u 1800=.ok c))):
  Calls Tryz.prog 14 #[.agg (fq A1 A2 A3 A4 c1 c2 c3 c4 f),.slice Ad ds.length cd,.agg (kq c)] w fun e w'=>e=.returned (.bool true)∧Below w.heap.size w w':=by
 have p0:=fun W hW hf=>PrintField_h A1 A2 A3 A4 c1 c2 c3 c4 f S W hW HS hf hm hc
 have p1:=fun W hE=>parseField_a S W hE hS
 rw[HP.out]at p1
 have p2:=fun W hW hf hD=>PrintDeeds_a A1 A2 A3 A4 c1 c2 c3 c4 f Ad cd ds W hW hf hm hc hD hcap hkd hnd hld
 rw[HT.out]at p2
 have p3:=fun W hf hD=>CheckDeeds_a A1 A2 A3 A4 c1 c2 c3 c4 f Ad cd ds W hf hm hc hD hcap hkd hnd hld
 rw[HD.out]at p3
 have p4:=fun W hW hf=>WriteCall_a A1 A2 A3 A4 c1 c2 c3 c4 f c W hW hf hm hc hkk
 rw[HU.out,HK.out]at p4
 have hqF:=eq_fltV
 have hml:=(show f.st.length<=100000∧f.li.length<=100000∧f.pa.length<=100000∧f.va.length<=100000 from⟨hm.st,hm.li,hm.pa,hm.va⟩)
 have kf:=heap_alloc2_old w (.cells (fq A1 A2 A3 A4 c1 c2 c3 c4 f) 28) (.cells (kq c) 48)
 have kc:=heap_alloc2_new w (.cells (fq A1 A2 A3 A4 c1 c2 c3 c4 f) 28) (.cells (kq c) 48)
 have hall:Below w.heap.size w ((w.alloc (.cells (fq A1 A2 A3 A4 c1 c2 c3 c4 f) 28)).alloc (.cells (kq c) 48)):=((Below.refl _ w).alloc (Nat.le_refl _) _).alloc (by simp) _
 have l01:=ld_row kf Tryz.underlying28 rfl info_fld
 have l02:=ld_row kc Tryz.underlying48 rfl info_cal
 go_enter Tryz.func14,Tryz.ntmps14
 go_wp2_with fail
 refine(vast_a A1 A2 A3 A4 c1 c2 c3 c4 f _ (hf.up hall) false hv).mono ?_
 rintro e w1 ⟨rfl,hx⟩
 have kf:=kE hx kf
 have kc:=kE hx kc
 have hall:=hall.trans (hx.mono hall.size)
 (try clear l01 l02)
 have l01:=ld_row kf Tryz.underlying28 rfl info_fld
 have l02:=ld_row kc Tryz.underlying48 rfl info_cal
 clear hx
 go_wp2_with fail
 refine(many_a Ad cd ds false _ (hD.row.up hall) hmy).mono ?_
 rintro e w2 ⟨rfl,rfl⟩
 go_wp2_with fail
 refine(checkField_h A1 A2 A3 A4 c1 c2 c3 c4 f 0 _ HE (hf.up hall) hm hc).mono ?_
 rintro e w3 ⟨rfl,hx⟩
 have kf:=kE hx kf
 have kc:=kE hx kc
 have hall:=hall.trans (hx.mono hall.size)
 (try clear l01 l02)
 have l01:=ld_row kf Tryz.underlying28 rfl info_fld
 have l02:=ld_row kc Tryz.underlying48 rfl info_cal
 clear hx
 go_wp2_with fail
 refine(p0 _ (hEn.up hall) (hf.up hall)).mono ?_
 rintro e w4 ⟨rfl,hx⟩
 have kf:=kE hx kf
 have kc:=kE hx kc
 have hall:=hall.trans (hx.mono hall.size)
 (try clear l01 l02)
 have l01:=ld_row kf Tryz.underlying28 rfl info_fld
 have l02:=ld_row kc Tryz.underlying48 rfl info_cal
 clear hx
 go_wp2_with fail
 refine(p1 _ (hEn.up hall)).mono ?_
 rintro e w5 ⟨B1,x1,B2,x2,B3,x3,B4,x4,rfl,hg1,hq1,hx⟩
 simp only at hg1 hq1
 have kf:=kE hx kf
 have kc:=kE hx kc
 have hall:=hall.trans (hx.mono hall.size)
 (try clear l01 l02)
 have l01:=ld_row kf Tryz.underlying28 rfl info_fld
 have l02:=ld_row kc Tryz.underlying48 rfl info_cal
 clear hx
 obtain⟨Wa,Wb,sa,sb,ka,kb,hx⟩:=bx_ff (.slice B1 f.st.length x1) (.slice B2 f.li.length x2) (.slice B3 f.pa.length x3) (.slice B4 f.va.length x4) 0 0 w5 rfl rfl rfl rfl
 have kf:=kE hx kf
 have kc:=kE hx kc
 have hall:=hall.trans (hx.mono hall.size)
 have hg1:=hg1.up hx
 (try clear l01 l02)
 have l01:=ld_row kf Tryz.underlying28 rfl info_fld
 have l02:=ld_row kc Tryz.underlying48 rfl info_cal
 clear hx
 obtain⟨na,hna⟩: ∃n,w5.heap.size=n:=⟨_,rfl⟩
 rw[hna]at sa sb ka kb
 have l03:=ld_row ka Tryz.underlying28 rfl info_fld
 have l04:=ld_row kb Tryz.underlying31 rfl info_flt
 go_wp2_with fail
 refine(sameField_a A1 A2 A3 A4 c1 c2 c3 c4 f B1 B2 B3 B4 x1 x2 x3 x4 _ (hf.up hall) hml hg1).mono ?_
 rintro e w6 ⟨rfl,hx⟩
 clear sa sb l03 l04 ka kb hg1 hna
 have kf:=kE hx kf
 have kc:=kE hx kc
 have hall:=hall.trans (hx.mono hall.size)
 (try clear l01 l02)
 have l01:=ld_row kf Tryz.underlying28 rfl info_fld
 have l02:=ld_row kc Tryz.underlying48 rfl info_cal
 clear hx
 go_wp2_with fail
 refine(p2 _ (hEn.up hall) (hf.up hall) (hD.up hall)).mono ?_
 rintro e w7 ⟨rfl,hx⟩
 have kf:=kE hx kf
 have kc:=kE hx kc
 have hall:=hall.trans (hx.mono hall.size)
 (try clear l01 l02)
 have l01:=ld_row kf Tryz.underlying28 rfl info_fld
 have l02:=ld_row kc Tryz.underlying48 rfl info_cal
 clear hx
 go_wp2_with fail
 refine(p3 _ (hf.up hall) (hD.up hall)).mono ?_
 rintro e w8 ⟨rfl,hx⟩
 have kf:=kE hx kf
 have kc:=kE hx kc
 have hall:=hall.trans (hx.mono hall.size)
 (try clear l01 l02)
 have l01:=ld_row kf Tryz.underlying28 rfl info_fld
 have l02:=ld_row kc Tryz.underlying48 rfl info_cal
 clear hx
 clear p0 p1 p2 p3
 rcases HDs.out with hD0|⟨rfl,hT2⟩|⟨rfl,hT2,HB⟩
 case' inl=>go_wp2_with fail
 case' inr.inl=>go_wp2_with fail
 case' inr.inr=>
  have p5:=parseDeeds_h A1 A2 A3 A4 c1 c2 c3 c4 f T _ (hEn.up hall) (hf.up hall) hm hc (by omega)
  rw[HB]at p5
  go_wp2_with fail
  refine p5.mono ?_
  rintro e w9 ⟨lb,Ab,xb,hlb,rfl,hDb,hx⟩
  clear p5
  simp only at hlb
  have kf:=kE hx kf
  have kc:=kE hx kc
  have hall:=hall.trans (hx.mono hall.size)
  (try clear l01 l02)
  have l01:=ld_row kf Tryz.underlying28 rfl info_fld
  have l02:=ld_row kc Tryz.underlying48 rfl info_cal
  clear hx
  obtain⟨Wc,sc,kd,hx⟩:=sp_3 0 0 w9
  have kf:=kE hx kf
  have kc:=kE hx kc
  have hall:=hall.trans (hx.mono hall.size)
  have hDb:=hDb.up hx
  (try clear l01 l02)
  have l01:=ld_row kf Tryz.underlying28 rfl info_fld
  have l02:=ld_row kc Tryz.underlying48 rfl info_cal
  clear hx
  obtain⟨nc,hnc⟩: ∃n,w9.heap.size=n:=⟨_,rfl⟩
  rw[hnc]at sc kd
  have l05:=ld_row kd Tryz.underlying31 rfl info_flt
  go_wp2_with fail
  refine(sameDeeds_a Ad Ab cd xb ds lb _ hlb.symm (hD.up hall) hDb hld hlcd).mono ?_
  rintro e w10 ⟨rfl,hx⟩
  clear sc l05 kd hDb hnc
  have kf:=kE hx kf
  have kc:=kE hx kc
  have hall:=hall.trans (hx.mono hall.size)
  (try clear l01 l02)
  have l01:=ld_row kf Tryz.underlying28 rfl info_fld
  have l02:=ld_row kc Tryz.underlying48 rfl info_cal
  clear hx
  go_wp2_with fail
 all_goals (
  refine(p4 _ (hEn.up hall) (hf.up hall)).mono ?_
  rintro e w11 ⟨rfl,hx⟩
  have kf:=kE hx kf
  have kc:=kE hx kc
  have hall:=hall.trans (hx.mono hall.size)
  (try clear l01 l02)
  have l01:=ld_row kf Tryz.underlying28 rfl info_fld
  have l02:=ld_row kc Tryz.underlying48 rfl info_cal
  clear hx
  have z0:=(blk_cells kc).1 0
  have z10:=(blk_cells kc).1 10
  clear p4
  rcases HCs.out with hK0|⟨rfl,hu,⟨b3,HR⟩|⟨b3,HR⟩⟩
  ·go_wp2_with fail
   refine(spoken_a _ (hEn.up hall)).mono ?_
   rintro e w12 ⟨rfl,hx⟩
   have kf:=kE hx kf
   have kc:=kE hx kc
   have hall:=hall.trans (hx.mono hall.size)
   (try clear l01 l02)
   have l01:=ld_row kf Tryz.underlying28 rfl info_fld
   have l02:=ld_row kc Tryz.underlying48 rfl info_cal
   clear hx
   go_wp2_with fail
   refine(checkCall_h A1 A2 A3 A4 c1 c2 c3 c4 f c K _ HK (hf.up hall) hm hc hkk).mono ?_
   rintro e w13 ⟨rfl,hx⟩
   have kf:=kE hx kf
   have kc:=kE hx kc
   have hall:=hall.trans (hx.mono hall.size)
   (try clear l01 l02)
   have l01:=ld_row kf Tryz.underlying28 rfl info_fld
   have l02:=ld_row kc Tryz.underlying48 rfl info_cal
   clear hx
   go_wp2_with fail
   go_ret
   exact⟨by first|rfl|(simp;done),hall⟩
  ·have p6:=readCall_a A1 A2 A3 A4 c1 c2 c3 c4 f u c.crs.y _ (hEn.up hall) (hf.up hall) hm hc hu
   rw[HR]at p6
   go_wp2_with fail
   refine p6.mono ?_
   rintro e w12 ⟨hx,rfl⟩
   clear z0 z10 p6
   have kf:=kE hx kf
   have kc:=kE hx kc
   have hall:=hall.trans (hx.mono hall.size)
   (try clear l01 l02)
   have l01:=ld_row kf Tryz.underlying28 rfl info_fld
   have l02:=ld_row kc Tryz.underlying48 rfl info_cal
   clear hx
   obtain⟨Wd,sd,ke,hx⟩:=sp_2 (kq c) rfl (by simp[Value.oneCell']) w12
   have kf:=kE hx kf
   have kc:=kE hx kc
   have hall:=hall.trans (hx.mono hall.size)
   (try clear l01 l02)
   have l01:=ld_row kf Tryz.underlying28 rfl info_fld
   have l02:=ld_row kc Tryz.underlying48 rfl info_cal
   clear hx
   obtain⟨ne,hne⟩: ∃n,w12.heap.size=n:=⟨_,rfl⟩
   rw[hne]at sd ke
   have l06:=ld_row ke Tryz.underlying48 rfl info_cal
   go_wp2_with fail
   refine(spoken_a _ (hEn.up hall)).mono ?_
   rintro e w13 ⟨rfl,hx⟩
   clear sd l06
   have kf:=kE hx kf
   have kc:=kE hx kc
   have ke:=kE hx ke
   have hall:=hall.trans (hx.mono hall.size)
   (try clear l01 l02)
   have l01:=ld_row kf Tryz.underlying28 rfl info_fld
   have l02:=ld_row kc Tryz.underlying48 rfl info_cal
   clear hx
   have l06:=ld_row ke Tryz.underlying48 rfl info_cal
   have hqC:=eq_calV c
   go_wp2_with fail
   go_ret
   exact⟨by first|rfl|(simp;done),hall⟩
  ·have p6:=readCall_a A1 A2 A3 A4 c1 c2 c3 c4 f u 1800 _ (hEn.up hall) (hf.up hall) hm hc hu
   rw[HR]at p6
   go_wp2_with fail
   refine p6.mono ?_
   rintro e w12 ⟨hx,rfl⟩
   clear z0 z10 p6
   have kf:=kE hx kf
   have kc:=kE hx kc
   have hall:=hall.trans (hx.mono hall.size)
   (try clear l01 l02)
   have l01:=ld_row kf Tryz.underlying28 rfl info_fld
   have l02:=ld_row kc Tryz.underlying48 rfl info_cal
   clear hx
   obtain⟨Wd,sd,ke,hx⟩:=sp_2 (kq c) rfl (by simp[Value.oneCell']) w12
   have kf:=kE hx kf
   have kc:=kE hx kc
   have hall:=hall.trans (hx.mono hall.size)
   (try clear l01 l02)
   have l01:=ld_row kf Tryz.underlying28 rfl info_fld
   have l02:=ld_row kc Tryz.underlying48 rfl info_cal
   clear hx
   obtain⟨ne,hne⟩: ∃n,w12.heap.size=n:=⟨_,rfl⟩
   rw[hne]at sd ke
   have l06:=ld_row ke Tryz.underlying48 rfl info_cal
   go_wp2_with fail
   refine(spoken_a _ (hEn.up hall)).mono ?_
   rintro e w13 ⟨rfl,hx⟩
   clear sd l06
   have kf:=kE hx kf
   have kc:=kE hx kc
   have ke:=kE hx ke
   have hall:=hall.trans (hx.mono hall.size)
   (try clear l01 l02)
   have l01:=ld_row kf Tryz.underlying28 rfl info_fld
   have l02:=ld_row kc Tryz.underlying48 rfl info_cal
   clear hx
   have l06:=ld_row ke Tryz.underlying48 rfl info_cal
   have hqC:=eq_calV c
   go_wp2_with fail
   go_ret
   exact⟨by first|rfl|(simp;done),hall⟩)
theorem deedBack_w (Ad:Option Addr)(cd:Nat)(ds:List (Pl.Ded×Option Addr×Nat))(c:Pl.Cal)(w:World)(hEn:Env w)(hf:FldS w w.heap.size A1 A2 A3 A4 f)(hc:Caps c1 c2 c3 c4 f)(hD:DedS w w.heap.size Ad ds)(hcap:ds.length<=cd)(hkd: ∀x∈ds,∀c∈x.1.calls,c.kind<=255)(hkk:c.kind<=255):
  Calls Tryz.prog 14 #[.agg (fq A1 A2 A3 A4 c1 c2 c3 c4 f),.slice Ad ds.length cd,.agg (kq c)] w fun e w'=>e=.returned (.bool true)∧Below w.heap.size w w':=by
 cases hv:Pl.vast f with
 |true=>exact back_vast A1 A2 A3 A4 c1 c2 c3 c4 f Ad cd ds c w hEn hf (Lib.hid hv)
 |false=>
 cases hmy:Pl.many (ds.map (·.1))with
 |true=>exact back_many A1 A2 A3 A4 c1 c2 c3 c4 f Ad cd ds c w hEn hf (Lib.hid hv) hD (Lib.hid hmy)
 |false=>
 have hm:=Pl.vast_small hv
 by_cases hF:Pl.fieldE f=0
 case neg=>exact back_bad A1 A2 A3 A4 c1 c2 c3 c4 f Ad cd ds c w hEn hf hm hc (Lib.hid hv) hD (Lib.hid hmy) _ (Lib.hid rfl) hF
 have hok:=Pl.fieldE_ok hF
 obtain⟨m70,mD⟩:ds.length<=70∧ ∀x∈ds,x.1.calls.length<=30∧x.1.name.size<=100:=by
  unfold Pl.many at hmy
  simp only[Bool.or_eq_false_iff,decide_eq_false_iff_not,List.any_eq_false,List.length_map]at hmy
  refine⟨by omega,fun x hx=> ?_⟩
  have:=hmy.2 x.1 (List.mem_map_of_mem hx)
  simp only[Pl.manyD,Bool.or_eq_true,decide_eq_true_eq,not_or]at this
  omega
 have hnd: ∀x∈ds,x.1.name.size<=100000:=fun x hx=>by have:=mD x hx;omega
 have hlcd: ∀x∈ds,x.1.calls.length<=100000:=fun x hx=>by have:=mD x hx;omega
 have hS:(Pl.printB f).size<=20000:=by
  unfold Pl.printB
  rw[if_pos hF]
  show(Pl.printL f).toArray.size<=20000
  simpa using Pl.printB_size hok
 have HP:=Pl.field_back hF
 have hR:Pl.checkCallE f c=0->(Pl.writeV f c).size<=90000∧ ∀y:Int,1<=y->y<=3000->(c.kind=3->c.crs.y=y)->Pl.readCall f (Pl.writeV f c) y=.ok c:=fun hK=>by
  have hC:Pl.callE f c=0:=by
   unfold Pl.checkCallE at hK
   rwa[if_pos hF]at hK
  unfold Pl.writeV
  rw[if_pos hK]
  exact⟨by have:=Pl.lineB_size hok (Pl.callE_tab hC) (fun hk=>(Pl.callE_three hC hk).1);omega,fun y y0 y1 hy=>Pl.read_line hF hC y0 y1 hy⟩
 have hY:Pl.checkCallE f c=0->c.kind=3->1<=c.crs.y∧c.crs.y<=3000:=fun hK hk=>by
  have hC:Pl.callE f c=0:=by
   unfold Pl.checkCallE at hK
   rwa[if_pos hF]at hK
  exact(Pl.Crs.ok_iff (Pl.callE_three hC hk).1).2.2.2.1
 have hB:Pl.deedsE f (ds.map (·.1))=0->(Pl.deedsB f (ds.map (·.1))).size<=20000->Pl.parseDeeds f (Pl.deedsB f (ds.map (·.1)))=(ds.map (·.1),0,0):=fun h1 h2=>Pl.deeds_back h1 h2
 have hDs:(Pl.deedsE f (ds.map (·.1))==0)=false∨Pl.deedsE f (ds.map (·.1))=0∧ ¬((Pl.deedsB f (ds.map (·.1))).size:Int)<=20000∨Pl.deedsE f (ds.map (·.1))=0∧((Pl.deedsB f (ds.map (·.1))).size:Int)<=20000∧Pl.parseDeeds f (Pl.deedsB f (ds.map (·.1)))=(ds.map (·.1),0,0):=by
  by_cases h1:Pl.deedsE f (ds.map (·.1))=0
  ·by_cases h2:((Pl.deedsB f (ds.map (·.1))).size:Int)<=20000
   ·exact .inr (.inr ⟨h1,h2,hB h1 (by omega)⟩)
   ·exact .inr (.inl ⟨h1,h2⟩)
  ·exact .inl (by simpa using h1)
 have hCs:(Pl.checkCallE f c !=0)=true∨Pl.checkCallE f c=0∧(Pl.writeV f c).size<=90000∧(((c.kind:Int)==3)=true∧Pl.readCall f (Pl.writeV f c) c.crs.y=.ok c∨((c.kind:Int)==3)=false∧Pl.readCall f (Pl.writeV f c) 1800=.ok c):=by
  by_cases hK:Pl.checkCallE f c=0
  ·obtain⟨hu,hr⟩:=hR hK
   refine .inr ⟨hK,hu,?_⟩
   by_cases hk:c.kind=3
   ·obtain⟨y0,y1⟩:=hY hK hk
    exact .inl ⟨by simp[hk],hr _ y0 y1 fun _=>rfl⟩
   ·exact .inr ⟨by simp;omega,hr 1800 (by omega) (by omega) fun h=>absurd h hk⟩
  ·exact .inl (by simpa using hK)
 exact back_ok A1 A2 A3 A4 c1 c2 c3 c4 f Ad cd ds c w hEn hf hm hc (Lib.hid hv) hD (Lib.hid hmy) hcap hkd hnd (by omega) hkk (Lib.hid hF) _ (Lib.hid rfl) hS (Lib.hid HP) _ (Lib.hid rfl) _ (Lib.hid rfl) _ (Lib.hid rfl) _ (Lib.hid rfl) hlcd (Lib.hid hDs) (Lib.hid hCs)
end Go.Proofs.YtgbpekeoegfjpaaGreatDoor
