/- Part U02 of the proof: Oa Mp Ky Bs. -/
import Derived.Maps.RangeWalk
import Derived.Test.YtcffonnijhhhiaaGreatDoorProg
import Derived.WalkKit
import Derived.WalkLawsBesides
import Derived.WalkSpells
import Derived.Handy
import Derived.Lib.Hide
import Derived.Great.BuildSlice
import Derived.Deep.QuietTactic
import Derived.BigQuiet
import Derived.Deep.RegionHeld3
import Derived.Deep.DeepCutAuto
import Derived.DeepKeys4
import Derived.Maps.AppendAt
import Derived.RangeFuncBox
import Derived.Deep.MidRow
import Derived.StillTailTactics
import Derived.Test.YtcffonnijhhhiaaGreatDoorU01
set_option linter.all false
set_option linter.unusedSimpArgs false
set_option linter.unusedVariables false
set_option linter.unusedSectionVars false
namespace Go.Proofs.Rt
theorem minF (l:List Int)(o:Option Int)(v:Int):l.foldl (fun o d=>some (lesser o d)) o=some v↔(v∈l∨o=some v)∧(∀u∈l,v≤u)∧ ∀u,o=some u→v≤u:=by
 induction l generalizing o with
 |nil=>
  constructor
  ·intro h
   have h:o=some v:=h
   exact⟨.inr h,by simp,fun u hu=>by rw[h]at hu;cases hu;exact Int.le_refl _⟩
  ·rintro⟨h|h,_⟩
   ·cases h
   ·exact h
 |cons d l ih=>
  rw[List.foldl_cons,ih]
  constructor
  ·rintro⟨h1,h2,h3⟩
   have h4:=h3 _ rfl
   cases o with
   |none=>
    have h4:v≤d:=h4
    refine⟨.inl ?_,fun u hu=> ?_,fun u hu=>by cases hu⟩
    ·rcases h1 with h|h
     ·exact .tail _ h
     ·have h:d=v:=Option.some.inj h
      rw[h]
      exact .head _
    ·rcases List.mem_cons.1 hu with rfl|hu
     ·exact h4
     ·exact h2 u hu
   |some a=>
    have h4:v≤min a d:=h4
    refine⟨?_,fun u hu=> ?_,fun u hu=> ?_⟩
    ·rcases h1 with h|h
     ·exact .inl (.tail _ h)
     ·have h:min a d=v:=Option.some.inj h
      by_cases e:a≤d
      ·exact .inr (by rw[←h,Int.min_eq_left e])
      ·exact .inl (by rw[←h,Int.min_eq_right (by omega)];exact .head _)
    ·rcases List.mem_cons.1 hu with rfl|hu
     ·omega
     ·exact h2 u hu
    ·cases hu
     omega
  ·rintro⟨h1,h2,h3⟩
   have hd:=h2 d (.head _)
   cases o with
   |none=>
    refine⟨?_,fun u hu=>h2 u (.tail _ hu),fun u hu=>by have hu:d=u:=Option.some.inj hu;omega⟩
    rcases h1 with h|h
    ·rcases List.mem_cons.1 h with rfl|h
     ·exact .inr rfl
     ·exact .inl h
    ·cases h
   |some a=>
    have ha:=h3 a rfl
    refine⟨?_,fun u hu=>h2 u (.tail _ hu),fun u hu=>by have hu:min a d=u:=Option.some.inj hu;omega⟩
    rcases h1 with h|h
    ·rcases List.mem_cons.1 h with rfl|h
     ·exact .inr (congrArg some (by show min a v=v;omega))
     ·exact .inl h
    ·cases h
     exact .inr (congrArg some (by show min v d=v;omega))
theorem dealIn_eq (L : List Ease) (k : Int × Int) (o : Option Int) : dealIn L k o = ((L.filter fun e => decide (e.key = k)).map (·.deal)).foldl (fun o d => some (lesser o d)) o := by
 unfold dealIn
 induction L generalizing o with
 |nil=>rfl
 |cons x L ih=>
  rw[List.foldl_cons,ih,List.filter_cons]
  by_cases e:x.key=k
  ·rw[if_pos e,if_pos (by simpa using e)]
   rfl
  ·rw[if_neg e,if_neg (by simpa using e)]
theorem eases_iff (L : List Ease) (k : Int × Int) (v : Int) : (findK Ease.key (L.foldl putEase []) k).map (·.deal) = some v ↔ (∃ e ∈ L, e.key = k ∧ e.deal = v) ∧ ∀ e ∈ L, e.key = k → v ≤ e.deal := by
 rw[fold_putEase,findK_nil,Option.map_none,dealIn_eq,minF]
 constructor
 ·rintro⟨h1,h2,_⟩
  refine⟨?_,fun e he hk=>h2 _ (List.mem_map.2 ⟨e,List.mem_filter.2 ⟨he,by simpa using hk⟩,rfl⟩)⟩
  rcases h1 with h|h
  ·obtain⟨e,he,rfl⟩:=List.mem_map.1 h
   obtain⟨a,b⟩:=List.mem_filter.1 he
   exact⟨e,a,by simpa using b,rfl⟩
  ·cases h
 ·rintro⟨⟨e,he,hk,rfl⟩,h2⟩
  refine⟨.inl (List.mem_map.2 ⟨e,List.mem_filter.2 ⟨he,by simpa using hk⟩,rfl⟩),fun u hu=> ?_,fun u hu=>by cases hu⟩
  obtain⟨e',he',rfl⟩:=List.mem_map.1 hu
  obtain⟨a,b⟩:=List.mem_filter.1 he'
  exact h2 e' a (by simpa using b)
theorem stints_iff (L:List Stint)(hpw:L.Pairwise fun a b=>Stint.key a≠Stint.key b)(k:Int×Int)(v:Int×Int):(findK Stint.key (L.foldl (insK Stint.key) []) k).map (fun t=>(t.beasts,t.deal))=some v↔ ∃e∈L,e.key=k∧(e.beasts,e.deal)=v:=by
 obtain⟨sa,_,sc⟩:=fold_ins Stint.key (acc:=[]) trivial hpw (fun y hy=>by cases hy)
 rw[Option.map_eq_some_iff]
 constructor
 ·rintro⟨t,ht,rfl⟩
  obtain⟨m,hk⟩:=findK_some _ ht
  exact⟨t,((sc t).1 m).resolve_right (by simp),hk,rfl⟩
 ·rintro⟨e,he,rfl,rfl⟩
  exact⟨e,findK_mem _ sa ((sc e).2 (.inl he)),rfl⟩
theorem Inv.ease_iff {s : St} (h : Inv s) (k : Int × Int) (v : Int) : (findK Ease.key s.roll.eases k).map (·.deal) = some v ↔ ∃ e ∈ s.roll.eases, e.key = k ∧ e.deal = v := by
 rw[Option.map_eq_some_iff]
 constructor
 ·rintro⟨t,ht,rfl⟩
  obtain⟨m,hk⟩:=findK_some _ ht
  exact⟨t,m,hk,rfl⟩
 ·rintro⟨e,he,rfl,rfl⟩
  exact⟨e,findK_mem _ h.eases he,rfl⟩
theorem Inv.stint_iff {s:St}(h:Inv s)(k:Int×Int)(v:Int×Int):(findK Stint.key s.roll.stints k).map (fun t=>(t.beasts,t.deal))=some v↔ ∃e∈s.roll.stints,e.key=k∧(e.beasts,e.deal)=v:=by
 rw[Option.map_eq_some_iff]
 constructor
 ·rintro⟨t,ht,rfl⟩
  obtain⟨m,hk⟩:=findK_some _ ht
  exact⟨t,m,hk,rfl⟩
 ·rintro⟨e,he,rfl,rfl⟩
  exact⟨e,findK_mem _ h.stints he,rfl⟩
theorem fold_hit {K V:Type}(hit:K×V→K→Bool)(D:List (K×V))(E0:K→Option V)(k:K)(v:V)(hu: ∀e∈D,∀e'∈D,hit e k=true→hit e' k=true→e.2=e'.2):
  D.foldl (fun E e q=>if hit e q then some e.2 else E q) E0 k=some v↔(∃e∈D,hit e k=true∧e.2=v)∨((∀e∈D,hit e k=false)∧E0 k=some v):=by
 induction D generalizing E0 with
 |nil=>simp
 |cons d D ih=>
  rw[List.foldl_cons,ih _ fun e he e' he'=>hu e (.tail _ he) e' (.tail _ he')]
  cases hd:hit d k with
  |false=>
   simp only[Bool.false_eq_true,if_false]
   constructor
   ·rintro(⟨e,h1,h2⟩|⟨h1,h2⟩)
    ·exact .inl ⟨e,.tail _ h1,h2⟩
    ·refine .inr ⟨fun e he=> ?_,h2⟩
     rcases List.mem_cons.1 he with rfl|he
     ·exact hd
     ·exact h1 e he
   ·rintro(⟨e,h1,h2⟩|⟨h1,h2⟩)
    ·rcases List.mem_cons.1 h1 with rfl|h1
     ·rw[hd]at h2;cases h2.1
     ·exact .inl ⟨e,h1,h2⟩
    ·exact .inr ⟨fun e he=>h1 e (.tail _ he),h2⟩
  |true=>
   simp only[if_true]
   constructor
   ·rintro(⟨e,h1,h2⟩|⟨h1,h2⟩)
    ·exact .inl ⟨e,.tail _ h1,h2⟩
    ·exact .inl ⟨d,.head _,hd,Option.some.inj h2⟩
   ·rintro(⟨e,h1,h2,h3⟩|⟨h1,h2⟩)
    ·by_cases hx: ∃e∈D,hit e k=true
     ·obtain⟨e',a,b⟩:=hx
      exact .inl ⟨e',a,b,(hu e' (.tail _ a) e h1 b h2).trans h3⟩
     ·refine .inr ⟨fun e' he'=> ?_,?_⟩
      ·cases hb:hit e' k with
       |false=>rfl
       |true=>exact absurd ⟨e',he',hb⟩ hx
      ·rw[hu d (.head _) e h1 hd h2,h3]
    ·have:=h1 d (.head _)
     rw[hd]at this
     cases this
theorem fold_mini {K:Type}(hit:K×Int→K→Bool)(D:List (K×Int))(E0:K→Option Int)(k:K):
  D.foldl (fun E e q => if hit e q then some (lesser (E q) e.2) else E q) E0 k = ((D.filter (hit · k)).map (·.2)).foldl (fun o d => some (lesser o d)) (E0 k) := by
 induction D generalizing E0 with
 |nil=>rfl
 |cons d D ih=>
  rw[List.foldl_cons,ih,List.filter_cons]
  cases hd:hit d k with
  |false=>simp only[Bool.false_eq_true,if_false]
  |true=>simp only[if_true];rfl
theorem fold_same {K V : Type} (P : Int → K → Bool) (l : List Int) (v : V) (E : K → Option V) (k : K) : l.foldl (fun E n q => if P n q then some v else E q) E k = if l.any (P · k) then some v else E k := by
 induction l generalizing E with
 |nil=>rfl
 |cons a l ih=>
  rw[List.foldl_cons,ih,List.any_cons]
  cases P a k <;> cases l.any (P · k) <;> simp
theorem Inv.div_pw {s:St}(h:Inv s){x:Deal}(hn:x.into.Nodup)(hu: ∀n∈x.into,n∉s.used):(s.roll.stints.flatMap (divS x.lot x.into)).Pairwise fun a b=>Stint.key a≠Stint.key b:=by
 rw[List.pairwise_flatMap]
 refine⟨fun a ha=> ?_,(asc2_pw Stint.key h.stints).imp_of_mem fun {a b} ha hb hab=> ?_⟩
 ·unfold divS
  split
  ·exact List.pairwise_singleton _ _
  ·rw[List.pairwise_map]
   exact hn.imp fun {m n} hmn e => hmn (congrArg (·.1) e)
 ·intro p hp q hq e
  have e1 : p.lot = q.lot := congrArg (·.1) e
  have e2 : p.owner = q.owner := congrArg (·.2) e
  have na:=h.number (h.sok a ha).1
  have nb:=h.number (h.sok b hb).1
  unfold divS at hp hq
  split at hp
  ·have hp:=List.mem_singleton.1 hp
   subst hp
   split at hq
   ·have hq:=List.mem_singleton.1 hq
    subst hq
    exact hab.ne (Prod.ext e1 e2)
   ·obtain⟨n,hn',rfl⟩:=List.mem_map.1 hq
    exact hu n hn' ((show p.lot=n from e1)▸na)
  ·rename_i ha'
   obtain⟨m,hm',rfl⟩:=List.mem_map.1 hp
   split at hq
   ·have hq:=List.mem_singleton.1 hq
    subst hq
    exact hu m hm' ((show m=q.lot from e1)▸nb)
   ·rename_i hb'
    obtain⟨n,hn',rfl⟩:=List.mem_map.1 hq
    have ea:a.lot=x.lot:=Classical.not_not.1 ha'
    have eb:b.lot=x.lot:=Classical.not_not.1 hb'
    exact hab.ne (Prod.ext (ea.trans eb.symm) e2)
theorem Inv.mrg_pw {s:St}(h:Inv s){x:Deal}{f:Int}(hu:x.lot∉s.used):(s.roll.stints.flatMap (mrgS x.lot f x.into)).Pairwise fun a b=>Stint.key a≠Stint.key b:=by
 rw[List.pairwise_flatMap]
 refine⟨fun a ha=> ?_,(asc2_pw Stint.key h.stints).imp_of_mem fun {a b} ha hb hab=> ?_⟩
 ·unfold mrgS
  split
  ·exact List.pairwise_singleton _ _
  ·split
   ·exact .nil
   ·exact List.pairwise_singleton _ _
 ·intro p hp q hq e
  have e1 : p.lot = q.lot := congrArg (·.1) e
  have e2 : p.owner = q.owner := congrArg (·.2) e
  have na:=h.number (h.sok a ha).1
  have nb:=h.number (h.sok b hb).1
  unfold mrgS at hp hq
  split at hp
  ·rename_i ha'
   have hp:=List.mem_singleton.1 hp
   subst hp
   split at hq
   ·rename_i hb'
    have hq:=List.mem_singleton.1 hq
    subst hq
    exact hab.ne (Prod.ext (ha'.trans hb'.symm) e2)
   ·split at hq
    ·cases hq
    ·have hq:=List.mem_singleton.1 hq
     subst hq
     exact hu ((show x.lot=q.lot from e1)▸nb)
  ·split at hp
   ·cases hp
   ·have hp:=List.mem_singleton.1 hp
    subst hp
    split at hq
    ·have hq:=List.mem_singleton.1 hq
     subst hq
     exact hu ((show p.lot=x.lot from e1)▸na)
    ·split at hq
     ·cases hq
     ·have hq:=List.mem_singleton.1 hq
      subst hq
      exact hab.ne (Prod.ext e1 e2)
end Go.Proofs.Rt
namespace Go.Proofs.Mp
open Go Go.Maps Go.MapKept
open Go.ChangeMaps (setBlock heap_setBlock_same heap_setBlock_other modify_eq_set)
structure Kt (P:Program)(kt:TypeId){K:Type}(ek:K→Value)(ok:K→Prop):Prop where
 law:Keyed P kt
 key: ∀ {k},ok k→ ∃l,keyOf P kt (ek k)=some l
 inj: ∀ {a b},ek a=ek b→a=b
section
variable {P : Program} {K : Type} {kt t e : TypeId} {ek : K → Value} {ok : K → Prop} {w w' : World} {b r : Nat} {f : K → Option Value}
def upd [DecidableEq K](f:K→Option Value)(k:K)(v:Option Value):K→Option Value:=fun j=>if j=k then v else f j
theorem upd_self [DecidableEq K](f:K→Option Value)(k:K)(v:Option Value):upd f k v k=v:=if_pos rfl
theorem upd_ne [DecidableEq K](f:K→Option Value){k j:K}(v:Option Value)(h:j≠k):upd f k v j=f j:=if_neg h
structure Ent (ek:K→Value)(ok:K→Prop)(es:Array MapEntry)(clock:Nat)(f:K→Option Value):Prop where
 st:Stamped es clock
 mem: ∀x∈es.toList,∃k,ok k∧x.key=ek k∧f k=some x.val
 get: ∀k v,f k=some v→ ∃x∈es.toList,x.key=ek k∧x.val=v
def FM (ek:K→Value)(ok:K→Prop)(w:World)(b:Nat)(f:K→Option Value):Prop:=
 ∃es clock,w.heap[b]?=some (.map es clock)∧Ent ek ok es clock f
theorem FM.made (w:World):FM ek ok (w.alloc (.map #[] 0)) w.heap.size fun _=>none:=
 ⟨#[],0,(MapKept.heap_alloc w _).1,stamped_empty 0,fun x hx=>(by simp at hx),fun k v h=>(by cases h)⟩
theorem FM.same (h:FM ek ok w b f)(e:w'.heap[b]?=w.heap[b]?):FM ek ok w' b f:=by
 obtain⟨es,c,hb,E⟩:=h
 exact⟨es,c,e.trans hb,E⟩
theorem FM.lt (h:FM ek ok w b f):b<w.heap.size:=by
 obtain⟨es,c,hb,E⟩:=h
 exact(Array.getElem?_eq_some_iff.1 hb).1
theorem FM.kept {row:Option Nat}(h:FM ek ok w b f)(hg:w.grownBy w' row)(hne:some b≠row):FM ek ok w' b f:=
 h.same (hg.block b h.lt hne)
theorem FM.alloc (h:FM ek ok w b f)(o:Obj):FM ek ok (w.alloc o) b f:=h.same ((MapKept.heap_alloc w o).2 b h.lt)
theorem FM.new (w:World){b:Nat}(h:w.heap.size=b):FM ek ok (w.alloc (.map #[] 0)) b fun _=>none:=by subst h;exact FM.made w
theorem Ent.find {es:Array MapEntry}{clock:Nat}(E:Ent ek ok es clock f)(T:Kt P kt ek ok)(w:World){k:K}{l:Lit}(hl:keyOf P kt (ek k)=some l):
  ((Instr.findKey kt (ek k) es.toList).run P w=.ok none w∧(∀x∈es.toList,x.key≠ek k)∧f k=none)∨
  ∃j x,(Instr.findKey kt (ek k) es.toList).run P w=.ok (some (j,x.val)) w∧es.toList[j]?=some x∧x.key=ek k∧f k=some x.val:=by
 rcases T.law.find w hl es.toList (fun x hx=>by
  obtain⟨j,hj,h1,_⟩:=E.mem x hx
  obtain⟨l,hl⟩:=T.key hj
  exact⟨l,by rw[h1];exact hl⟩)with ⟨h1,h2⟩|⟨j,x,h1,h2,h3⟩
 ·refine Or.inl ⟨h1,h2,?_⟩
  cases hf:f k with
  |none=>rfl
  |some v=>
   obtain⟨x,hx,h3,_⟩:=E.get k v hf
   exact absurd h3 (h2 x hx)
 ·refine Or.inr ⟨j,x,h1,h2,h3,?_⟩
  obtain⟨i,hi,h4,h5⟩:=E.mem x (List.mem_of_getElem? h2)
  rw[h3]at h4
  exact T.inj h4▸h5
theorem FM.lookup (h:FM ek ok w b f)(T:Kt P kt ek ok)(ht:P.underlying t=some (.map kt e)){z:Value}(hz:(zeroValue e).run P w=.ok z w){k:K}{l:Lit}(hl:keyOf P kt (ek k)=some l):
  (Instr.lookup t (.map (some b)) (ek k) false).run P w=.ok ((f k).getD z) w∧(Instr.lookup t (.map (some b)) (ek k) true).run P w=.ok (.tuple #[(f k).getD z,.bool (f k).isSome]) w:=by
 obtain⟨es,c,hb,E⟩:=h
 rcases E.find T w hl with ⟨h1,h2,h3⟩|⟨j,x,h1,h2,h3,h4⟩
 ·constructor<;>simp[Instr.lookup,run_underlying ht,MapKept.run_getObj_map hb,T.law.check w _ hl,h1,hz,Result.andThen,h3]
 ·constructor<;>simp[Instr.lookup,run_underlying ht,MapKept.run_getObj_map hb,T.law.check w _ hl,h1,Result.andThen,h4]
theorem grown_setBlock {es:Array MapEntry}{c:Nat}(hb:w.heap[b]?=some (.map es c))(o:Obj):w.grownBy (setBlock w b o) (some b):=
 ⟨rfl,rfl,rfl,by simp[setBlock],fun i _ hi=>heap_setBlock_other hb _ (fun e=>hi (by rw[e]))⟩
theorem keys_ne {l:List MapEntry}(h:l.Pairwise fun x y=>x.key≠y.key){i j:Nat}{x y:MapEntry}(hi:l[i]?=some x)(hj:l[j]?=some y)(e:i≠j):x.key≠y.key:=by
 obtain⟨h1,rfl⟩:=List.getElem?_eq_some_iff.1 hi
 obtain⟨h2,rfl⟩:=List.getElem?_eq_some_iff.1 hj
 rcases Nat.lt_or_gt_of_ne e with h3|h3
 ·exact List.pairwise_iff_getElem.1 h i j h1 h2 h3
 ·exact(List.pairwise_iff_getElem.1 h j i h2 h1 h3).symm
theorem Ent.push [DecidableEq K]{es:Array MapEntry}{c:Nat}(E:Ent ek ok es c f){k:K}(hk:ok k)(h2: ∀x∈es.toList,x.key≠ek k)(v:Value):
  Ent ek ok (es.push ⟨ek k,v,c⟩) (c+1) (upd f k (some v)):=by
 refine⟨stamped_push E.st h2,fun x hx=> ?_,fun j u hj=> ?_⟩
 ·simp only[Array.toList_push,List.mem_append,List.mem_singleton]at hx
  rcases hx with hx|rfl
  ·obtain⟨i,h3,h4,h5⟩:=E.mem x hx
   exact⟨i,h3,h4,by rw[upd_ne _ _ (fun e=>h2 x hx (by rw[h4,e]))];exact h5⟩
  ·exact⟨k,hk,rfl,upd_self _ _ _⟩
 ·by_cases e:j=k
  ·subst e
   rw[upd_self]at hj
   exact⟨⟨ek j,v,c⟩,by simp,rfl,Option.some.inj hj⟩
  ·rw[upd_ne _ _ e]at hj
   obtain⟨x,hx,h3,h4⟩:=E.get j u hj
   exact⟨x,by rw[Array.toList_push];exact List.mem_append.2 (Or.inl hx),h3,h4⟩
theorem Ent.modify [DecidableEq K]{es:Array MapEntry}{c:Nat}(E:Ent ek ok es c f)(hi: ∀ {a b},ek a=ek b→a=b){k:K}(hk:ok k){j:Nat}{x:MapEntry}(h2:es.toList[j]?=some x)(h3:x.key=ek k)(v:Value)(g:MapEntry→MapEntry)
  (hg: ∀y,y.key=ek k→g y= {y with val:=v}) (hgb: ∀y,(g y).born=y.born):Ent ek ok (es.modify j g) c (upd f k (some v)):=by
 have hj:es[j]?=some x:=by simpa using h2
 have hjl:j<es.toList.length:=(List.getElem?_eq_some_iff.1 h2).1
 have hlist:(es.modify j g).toList=es.toList.set j {x with val:=v}:=by rw[Array.toList_modify,modify_eq_set _ _ _ _ h2,hg x h3]
 have hne:=((stamped_iff es c).1 E.st).2.2
 have other: ∀y∈es.toList.set j {x with val:=v},y= {x with val:=v}∨(y∈es.toList∧y.key≠ek k):=by
  intro y hy
  obtain⟨i,hi',ex⟩:=List.getElem_of_mem hy
  rw[List.getElem_set]at ex
  split at ex
  ·exact Or.inl ex.symm
  ·rename_i hij
   have hl:i<es.toList.length:=by simpa using hi'
   refine Or.inr ⟨ex▸List.getElem_mem hl,fun e1=> ?_⟩
   exact keys_ne hne (List.getElem?_eq_some_iff.2 ⟨hl,ex⟩) h2 (fun e=>hij e.symm) (e1.trans h3.symm)
 refine⟨stamped_modify E.st _ _ (fun y _=>hgb y) (fun y _ hy=>by rw[hj]at hy;cases hy;rw[hg x h3]),fun y hy=> ?_,fun i u hiu=> ?_⟩
 ·rw[hlist]at hy
  rcases other y hy with rfl|⟨hy',hk'⟩
  ·exact⟨k,hk,h3,upd_self _ _ _⟩
  ·obtain⟨i,h4,h5,h6⟩:=E.mem y hy'
   exact⟨i,h4,h5,by rw[upd_ne _ _ (fun e=>hk' (by rw[h5,e]))];exact h6⟩
 ·rw[hlist]
  by_cases e:i=k
  ·subst e
   rw[upd_self]at hiu
   exact⟨{x with val:=v},List.mem_iff_getElem.2 ⟨j,by simpa using hjl,by simp⟩,h3,Option.some.inj hiu⟩
  ·rw[upd_ne _ _ e]at hiu
   obtain⟨y,hy,h4,h5⟩:=E.get i u hiu
   obtain⟨n,hn,hny⟩:=List.getElem_of_mem hy
   refine⟨y,List.mem_iff_getElem.2 ⟨n,by simpa using hn,?_⟩,h4,h5⟩
   rw[List.getElem_set]
   split
   ·rename_i e1
    subst e1
    exfalso
    rw[(List.getElem?_eq_some_iff.1 h2).2]at hny
    rw[←hny,h3]at h4
    exact e (hi h4).symm
   ·exact hny
theorem FM.update [DecidableEq K](h:FM ek ok w b f)(T:Kt P kt ek ok)(ht:P.underlying t=some (.map kt e)){k:K}(hk:ok k)(v:Value):
  ∃w',(Instr.mapUpdate t (.map (some b)) (ek k) v).run P w=.ok () w'∧FM ek ok w' b (upd f k (some v))∧w.grownBy w' (some b)∧w'.heap.size=w.heap.size:=by
 obtain⟨es,c,hb,E⟩:=h
 obtain⟨l,hl⟩:=T.key hk
 rcases E.find T w hl with ⟨h1,h2,_⟩|⟨j,x,h1,h2,h3,_⟩
 ·refine⟨setBlock w b (.map (es.push ⟨ek k,v,c⟩) (c+1)),?_,⟨_,_,heap_setBlock_same hb _,E.push hk h2 v⟩,grown_setBlock hb _,by simp[setBlock]⟩
  simp[Instr.mapUpdate,run_underlying ht,MapKept.run_getObj_map hb,T.law.check w false hl,h1,MapKept.run_setObj_map _ hb,Result.andThen,setBlock]
 ·have hj:es[j]?=some x:=by simpa using h2
  refine⟨setBlock w b (.map (es.modify j fun y=> {y with key:=ek k,val:=v}) c),?_,⟨_,_,heap_setBlock_same hb _,E.modify T.inj hk h2 h3 v _ (fun y hy=>by rw[←hy]) (fun _=>rfl)⟩,grown_setBlock hb _,by simp[setBlock]⟩
  simp[Instr.mapUpdate,run_underlying ht,MapKept.run_getObj_map hb,T.law.check w false hl,h1,hj,h3,T.law.stays w hl,MapKept.run_setObj_map _ hb,Result.andThen,setBlock]
theorem Ent.drop [DecidableEq K]{es:Array MapEntry}{c:Nat}(E:Ent ek ok es c f)(T:Kt P kt ek ok)(ht:P.underlying t=some (.map kt e))(hb:w.heap[b]?=some (.map es c)){k:K}{l:Lit}(hl:keyOf P kt (ek k)=some l):
  ∃es',(∀ty,(Builtin.delete_ #[t,kt] ty #[.map (some b),ek k]).run P w=.ok (.tuple #[]) (setBlock w b (.map es' c)))∧Ent ek ok es' c (upd f k none)∧es'.toList.Sublist es.toList∧ ∀x,x∈es'.toList↔(x∈es.toList∧x.key≠ek k):=by
 have key: ∀es':Array MapEntry,Stamped es' c→(∀x,x∈es'.toList↔(x∈es.toList∧x.key≠ek k))→Ent ek ok es' c (upd f k none):=fun es' hs hw=>by
  refine⟨hs,fun x hx=> ?_,fun j v hj=> ?_⟩
  ·obtain⟨h1,h2⟩:=(hw x).1 hx
   obtain⟨i,h3,h4,h5⟩:=E.mem x h1
   exact⟨i,h3,h4,by rw[upd_ne _ _ (fun e=>h2 (by rw[h4,e]))];exact h5⟩
  ·by_cases e:j=k
   ·subst e
    rw[upd_self]at hj
    cases hj
   ·rw[upd_ne _ _ e]at hj
    obtain⟨x,hx,h1,h2⟩:=E.get j v hj
    exact⟨x,(hw x).2 ⟨hx,fun e1=>e (T.inj (h1.symm.trans e1))⟩,h1,h2⟩
 rcases E.find T w hl with ⟨h1,h2,_⟩|⟨j,x,h1,h2,h3,_⟩
 ·refine⟨es,fun ty=> ?_,key es E.st (fun x=>⟨fun hx=>⟨hx,h2 x hx⟩,fun hx=>hx.1⟩),List.Sublist.refl _,fun x=>⟨fun hx=>⟨hx,h2 x hx⟩,fun hx=>hx.1⟩⟩
  simp[Builtin.delete_,run_underlying ht,MapKept.run_getObj_map hb,T.law.check w _ hl,h1,MapKept.run_setObj_map _ hb,Result.andThen,setBlock]
 ·have hjl:j<es.toList.length:=(List.getElem?_eq_some_iff.1 h2).1
  have hjs:j<es.size:=by simpa using hjl
  have hsub:(es.eraseIdxIfInBounds j).toList=es.toList.eraseIdx j:=by
   unfold Array.eraseIdxIfInBounds
   rw[dif_pos hjs]
   simp
  have hne:=((stamped_iff es c).1 E.st).2.2
  have hwho: ∀y,y∈(es.eraseIdxIfInBounds j).toList↔(y∈es.toList∧y.key≠ek k):=fun y=>by
   rw[hsub,List.mem_eraseIdx_iff_getElem?]
   constructor
   ·rintro⟨i,hij,hi⟩
    refine⟨List.mem_of_getElem? hi,fun e1=> ?_⟩
    exact keys_ne hne hi h2 hij (e1.trans h3.symm)
   ·rintro⟨hy,hk⟩
    obtain⟨i,hi⟩:=List.getElem?_of_mem hy
    refine⟨i,fun e1=>hk ?_,hi⟩
    rw[e1,h2]at hi
    cases hi
    exact h3
  refine⟨es.eraseIdxIfInBounds j,fun ty=> ?_,key _ (stamped_erase E.st j) hwho,by rw[hsub];exact List.eraseIdx_sublist _ _,hwho⟩
  simp[Builtin.delete_,run_underlying ht,MapKept.run_getObj_map hb,T.law.check w _ hl,h1,MapKept.run_setObj_map _ hb,Result.andThen,setBlock]
theorem FM.delete [DecidableEq K](h:FM ek ok w b f)(T:Kt P kt ek ok)(ht:P.underlying t=some (.map kt e)){k:K}{l:Lit}(hl:keyOf P kt (ek k)=some l):
  ∃w',(∀ty,(Builtin.delete_ #[t,kt] ty #[.map (some b),ek k]).run P w=.ok (.tuple #[]) w')∧FM ek ok w' b (upd f k none)∧w.grownBy w' (some b)∧w'.heap.size=w.heap.size:=by
 obtain⟨es,c,hb,E⟩:=h
 obtain⟨es',h1,h2,_⟩:=E.drop T ht hb hl
 exact⟨_,h1,⟨es',c,heap_setBlock_same hb _,h2⟩,grown_setBlock hb _,by simp[setBlock]⟩
theorem FM.clear (h:FM ek ok w b f)(ht:P.underlying t=some (.map kt e)):
  ∃w',(∀ty,(Builtin.clear_ #[t] ty #[.map (some b)]).run P w=.ok (.tuple #[]) w')∧FM ek ok w' b (fun _=>none)∧w.grownBy w' (some b)∧w'.heap.size=w.heap.size:=by
 obtain⟨es,c,hb,E⟩:=h
 refine⟨setBlock w b (.map #[] c),fun ty=> ?_,⟨#[],c,heap_setBlock_same hb _,⟨by simp,by simp,by simp⟩,fun x hx=>(by simp at hx),fun k v h=>(by cases h)⟩,grown_setBlock hb _,by simp[setBlock]⟩
 simp[Builtin.clear_,run_underlying ht,MapKept.run_getObj_map hb,MapKept.run_setObj_map _ hb,Result.andThen,setBlock]
def RG (ek:K→Value)(ok:K→Prop)(w:World)(b r:Nat)(f:K→Option Value)(left:K→Bool)(n:Nat):Prop:=
 ∃es clock since seen c0,w.heap[b]?=some (.map es clock)∧Ent ek ok es clock f∧w.heap[r]?=some (.mapIter (some b) since seen c0)∧(∀x∈es.toList,x.born<since)∧(leftOf es seen).size=n∧
  (∀x∈es.toList,∀k,x.key=ek k→left k= !seen.contains x.born)∧(∀k,left k=true→(f k).isSome)∧since≤c0∧since≤clock
theorem RG.fm {left:K→Bool}{n:Nat}(h:RG ek ok w b r f left n):FM ek ok w b f:=by
 obtain⟨es,c,_,_,_,hb,E,_⟩:=h
 exact⟨es,c,hb,E⟩
theorem RG.ne {left:K→Bool}{n:Nat}(h:RG ek ok w b r f left n):r≠b:=by
 obtain⟨es,c,_,_,_,hb,_,hr,_⟩:=h
 intro e
 rw[e,hb]at hr
 cases hr
theorem RG.lt {left:K→Bool}{n:Nat}(h:RG ek ok w b r f left n):r<w.heap.size:=by
 obtain⟨es,c,_,_,_,hb,_,hr,_⟩:=h
 exact(Array.getElem?_eq_some_iff.1 hr).1
theorem RG.left_eq {left:K→Bool}{n:Nat}(h:RG ek ok w b r f left n):w.rangeLeft b r=n:=by
 obtain⟨es,c,since,seen,c0,hb,_,hr,_,hc,_⟩:=h
 simp only[World.rangeLeft,hb,hr]
 exact hc
theorem RG.same {left:K→Bool}{n:Nat}(h:RG ek ok w b r f left n)(e1:w'.heap[b]?=w.heap[b]?)(e2:w'.heap[r]?=w.heap[r]?):RG ek ok w' b r f left n:=by
 obtain⟨es,c,since,seen,c0,hb,E,hr,z⟩:=h
 exact⟨es,c,since,seen,c0,e1.trans hb,E,e2.trans hr,z⟩
theorem RG.kept {left:K→Bool}{n:Nat}{row:Option Nat}(h:RG ek ok w b r f left n)(hg:w.grownBy w' row)(h1:some b≠row)(h2:some r≠row):RG ek ok w' b r f left n:=
 h.same (hg.block b h.fm.lt h1) (hg.block r h.lt h2)
theorem FM.range (h:FM ek ok w b f)(hi: ∀ {a b},ek a=ek b→a=b)(ht:P.underlying t=some (.map kt e)):
  ∃w' n,(Instr.range t (.map (some b))).run P w=.ok (.pointer (some ⟨w.heap.size,0,none⟩)) w'∧RG ek ok w' b w.heap.size f (fun k=>(f k).isSome) n∧w.grownBy w' none∧w'.heap.size=w.heap.size+1:=by
 have hlt:=h.lt
 obtain⟨es,c,hb,E⟩:=h
 refine⟨_,_,run_range_map w t kt e b es c ht hb,⟨es,c,c,#[],c,((MapKept.heap_alloc w _).2 b hlt).trans hb,E,(MapKept.heap_alloc w _).1,E.st.1,rfl,fun x hx k hk=> ?_,fun k hk=>hk,Nat.le_refl _,Nat.le_refl _⟩,World.grownBy_alloc w _ none,by simp⟩
 obtain⟨j,_,h1,h2⟩:=E.mem x hx
 rw[hk]at h1
 rw[←hi h1]at h2
 simp[h2]
theorem RG.next [DecidableEq K]{left:K→Bool}{n:Nat}(h:RG ek ok w b r f left n)(hi: ∀ {a b},ek a=ek b→a=b)(ty:TypeId):
  ((∀k,left k=false)∧(Instr.next (.pointer (some ⟨r,0,none⟩)) false ty).run P w=.ok (.tuple #[.bool false]) w)∨
  ∃k v w' n',ok k∧left k=true∧f k=some v∧(Instr.next (.pointer (some ⟨r,0,none⟩)) false ty).run P w=.ok (.tuple #[.bool true,ek k,v]) w'∧
   RG ek ok w' b r f (fun j=>left j&& !decide (j=k)) n'∧n'<n∧w.grownBy w' (some r)∧w'.heap.size=w.heap.size∧(Instr.entry (.pointer (some ⟨r,0,none⟩))).run P w'=.ok (.tuple #[ek k,v]) w':=by
 have hne:=h.ne
 obtain⟨es,c,since,seen,c0,hb,E,hr,hold,rfl,hl1,hl2,hsc,hsk⟩:=h
 rcases run_next_at (P:=P) w ty r b since c0 seen es c hr hb hold hsc with ⟨h0,hrun⟩|⟨x,hx,w1,hal,hrun⟩
 ·refine Or.inl ⟨fun k=> ?_,hrun⟩
  cases hk:left k
  ·rfl
  ·obtain⟨v,hv⟩:=Option.isSome_iff_exists.1 (hl2 k hk)
   obtain⟨x,hx,h1,_⟩:=E.get k v hv
   rw[hl1 x hx k h1,all_seen es seen h0 x hx]at hk
   cases hk
 ·obtain⟨hxm,hxs⟩:=mem_left hx
  obtain⟨k,hk,h1,h2⟩:=E.mem x hxm
  have hr1:w1.heap[r]?=some (.mapIter (some b) since seen c0):=by rcases hal with rfl|rfl<;>exact hr
  have hb1:w1.heap[b]?=some (.map es c):=by rcases hal with rfl|rfl<;>exact hb
  have hset:=heap_set (o':=.mapIter (some b) since (seen.push x.born) c) hr1
  have hb':(setBlock w1 r (.mapIter (some b) since (seen.push x.born) c)).heap[b]?=some (.map es c):=(hset.2 b (fun e1=>hne e1.symm)).trans hb1
  have hst:=(stamped_iff es c).1 E.st
  refine Or.inr ⟨k,x.val,_,_,hk,by rw[hl1 x hxm k h1,hxs];rfl,h2,h1▸hrun,⟨es,c,since,seen.push x.born,c,hb',E,hset.1,hold,rfl,fun y hy j hj=> ?_,fun j hj=>hl2 j (by simp at hj;exact hj.1),hsk,hsk⟩,
   left_shrinks es seen x hx,?_,?_,h1▸run_entry_at _ r b since seen es c x hset.1 hb' hxm hst.2.1⟩
  ·show(left j&& !decide (j=k))=_
   rw[hl1 y hy j hj,contains_push]
   by_cases e:j=k
   ·subst e
    have:y=x:=entry_eq_of_key hst.2.2 hy hxm (hj.trans h1.symm)
    simp[this]
   ·have:(y.born==x.born)=false:=by
     rw[beq_eq_false_iff_ne]
     intro hbb
     have:=born_inj hst.2.1 hy hxm hbb
     exact e (hi (by rw[←hj,this,h1]))
    simp[e,this]
  ·rcases hal with rfl|rfl<;>exact⟨rfl,rfl,rfl,by simp[setBlock],fun i _ hi=>hset.2 i (fun e1=>hi (by rw[e1]))⟩
  ·rcases hal with rfl|rfl<;>simp[setBlock]
theorem RG.drop [DecidableEq K]{left:K→Bool}{n:Nat}(h:RG ek ok w b r f left n)(T:Kt P kt ek ok)(ht:P.underlying t=some (.map kt e)){k:K}{l:Lit}(hl:keyOf P kt (ek k)=some l):
  ∃w' n',(∀ty,(Builtin.delete_ #[t,kt] ty #[.map (some b),ek k]).run P w=.ok (.tuple #[]) w')∧RG ek ok w' b r (upd f k none) (fun j=>left j&& !decide (j=k)) n'∧n'≤n∧w.grownBy w' (some b)∧w'.heap.size=w.heap.size:=by
 have hne:=h.ne
 obtain⟨es,c,since,seen,c0,hb,E,hr,hold,rfl,hl1,hl2,hsc,hsk⟩:=h
 obtain⟨es',h1,h2,hsub,hwho⟩:=E.drop T ht hb hl
 refine⟨_,_,h1,⟨es',c,since,seen,c0,heap_setBlock_same hb _,h2,(heap_setBlock_other hb _ hne).trans hr,fun x hx=>hold x ((hwho x).1 hx).1,rfl,fun x hx j hj=> ?_,fun j hj=> ?_,hsc,hsk⟩,?_,grown_setBlock hb _,by simp[setBlock]⟩
 ·obtain⟨h3,h4⟩:=(hwho x).1 hx
  show(left j&& !decide (j=k))=_
  have:j≠k:=fun e=>h4 (by rw[hj,e])
  rw[hl1 x h3 j hj]
  simp[this]
 ·simp only[Bool.and_eq_true,Bool.not_eq_true',decide_eq_false_iff_not]at hj
  rw[upd_ne _ _ hj.2]
  exact hl2 j hj.1
 ·have e1: ∀a:Array MapEntry,(leftOf a seen).size=(a.toList.filter fun e=> !seen.contains e.born).length:=fun a=>by
   unfold leftOf
   rw[←Array.toList_filter,Array.length_toList]
  rw[e1,e1]
  exact(hsub.filter _).length_le
end
end Go.Proofs.Mp
namespace Go.Proofs.YtcffonnijhhhiaaGreatDoor
open Go Go.RowKit Go.Maps Mp
theorem laidP :laidOutB Tryz.prog=true:=by kernel_rfl
def okI (n:Int):Prop:=0≤n∧n≤1000000
def okP (p:Int×Int):Prop:=okI p.1∧okI p.2
abbrev ekI :Int→Value:=Value.int .i64
abbrev ekU :Int→Value:=Value.int .u8
abbrev ekP (p:Int×Int):Value:=.agg #[.int .i64 p.1,.int .i64 p.2]
theorem wfI {n:Int}(h1: -9223372036854775808≤n)(h2:n≤9223372036854775807):(Lit.int .i64 n).wf=true:=by
 unfold Lit.wf;simp[IntKind.min,IntKind.max,IntKind.bits,IntKind.signed];omega
theorem keyI {n:Int}(h1: -9223372036854775808≤n)(h2:n≤9223372036854775807):keyOf Tryz.prog 3 (ekI n)=some (.int .i64 n):=keyOf_int_mk Tryz.underlying3 (wfI h1 h2)
theorem kI :Kt Tryz.prog 3 ekI okI where
 law:=int_keyed Tryz.underlying3
 key h:=⟨_,keyI (by have:=h.1;omega) (by have:=h.2;omega)⟩
 inj h:=by cases h;rfl
theorem lawP :Keyed Tryz.prog 163:=Keyed.of_law (deep_law_laid laidP (m:=2) (by omega) (of_decide_eq_true (by kernel_rfl)) (by kernel_rfl) (by rw[Tryz.underlying163]))
theorem keyP {p:Int×Int}(h1: -9223372036854775808≤p.1)(h2:p.1≤9223372036854775807)(h3: -9223372036854775808≤p.2)(h4:p.2≤9223372036854775807): ∃l,keyOf Tryz.prog 163 (ekP p)=some l:=by
 have e1:Tryz.prog.keyType 163=true:=by kernel_rfl
 have e2:(ekP p).formed Tryz.prog 163=true:=by
  have:Tryz.prog.cellsOf 163=2:=by kernel_rfl
  simp[ekP,Value.formed,Tryz.underlying163,this]
 have e3: ∀n,(Tryz.prog.keyLits (n+2) 163 (ekP p).cells.toList)=some [.int .i64 p.1,.int .i64 p.2]:=fun n=>by
  have c1:Tryz.prog.cellsOf 163=2:=by kernel_rfl
  have c2:Tryz.prog.cellsOf 3=1:=by kernel_rfl
  simp[ekP,Program.keyLits,Tryz.underlying163,Tryz.underlying3,c1,c2,Value.cells,wfI h1 h2,wfI h3 h4]
 obtain⟨m,hm⟩: ∃m,Tryz.prog.types.size+1=m+2:=⟨Tryz.prog.types.size-1,by have:0<Tryz.prog.types.size:=of_decide_eq_true (by kernel_rfl);omega⟩
 exact⟨_,by unfold keyOf;rw[Tryz.underlying163];simp only[e1,e2,hm,e3];rfl⟩
theorem kP :Kt Tryz.prog 163 ekP okP where
 law:=lawP
 key h:=keyP (by have:=h.1.1;omega) (by have:=h.1.2;omega) (by have:=h.2.1;omega) (by have:=h.2.2;omega)
 inj {a b} h:=by
  obtain⟨a1,a2⟩:=a
  obtain⟨b1,b2⟩:=b
  simp[ekP]at h
  rw[h.1,h.2]
theorem kU :Kt Tryz.prog 5 ekU fun n=>0≤n∧n≤255 where
 law:=int_keyed Tryz.underlying5
 key {n} h:=⟨_,keyOf_int_mk Tryz.underlying5 (by unfold Lit.wf;simp[IntKind.min,IntKind.max,IntKind.bits,IntKind.signed];omega)⟩
 inj h:=by cases h;rfl
end Go.Proofs.YtcffonnijhhhiaaGreatDoor
namespace Go.Proofs.YtcffonnijhhhiaaGreatDoor
open Go Go.RowKit Mp
theorem blk_cells {w:World}{g:Nat}{t:TypeId}{cs:Array Value}(h:w.heap[g]?=some (.cells cs t (0,0))):(∀j,w.cell? ⟨g,j,none⟩=cs[j]?)∧(∀j,w.frozen? ⟨g,j,none⟩=false):=
 ⟨fun j=>cell_of_row w g j cs t (0,0) h,fun j=>frozen_of_row w g j cs t h⟩
theorem heap_at {w:World}{o:Obj}{n:Nat}(h:w.heap.size=n):(w.alloc o).heap[n]?=some o:=by subst h;exact heap_alloc_new _ _
def Seg {α:Type}(enc:α→List Value)(size:Nat)(w:World)(B:Nat)(A:Option Addr)(l:List α):Prop:=
 l=[]∨ ∃b off,A=some ⟨b,off,none⟩∧b<B∧ ∀k x,l[k]?=some x→ ∀j v,(enc x)[j]?=some v→w.cell? ⟨b,off+k*size+j,none⟩=some v
section
variable {α : Type} {enc : α → List Value} {size : Nat} {w w' : World} {B B' : Nat} {A : Option Addr} {l : List α}
theorem Seg.keep (h:Seg enc size w B A l)(hk: ∀p:Addr,p.block<B→w'.cell? p=w.cell? p):Seg enc size w' B A l:=by
 rcases h with h|⟨b,off,hA,hb,hc⟩
 ·exact .inl h
 ·exact .inr ⟨b,off,hA,hb,fun k x hx j v hv=>(hk _ hb).trans (hc k x hx j v hv)⟩
theorem Seg.more (h:Seg enc size w B A l)(hB:B≤B'):Seg enc size w B' A l:=by
 rcases h with h|⟨b,off,hA,hb,hc⟩
 ·exact .inl h
 ·exact .inr ⟨b,off,hA,by omega,hc⟩
theorem Seg.below (h:Seg enc size w B A l)(hb:Below B w w'):Seg enc size w' B A l:=h.keep fun _ hp=>hb.cell hp
theorem Seg.up (h:Seg enc size w w.heap.size A l)(hb:Below w.heap.size w w'):Seg enc size w' w'.heap.size A l:=(h.below hb).more hb.size
theorem Seg.at_ (h:Seg enc size w B A l){k:Nat}(hk:k<l.length): ∃b off,A=some ⟨b,off,none⟩∧b<B∧ ∀j v,(enc l[k])[j]?=some v→w.cell? ⟨b,off+k*size+j,none⟩=some v:=by
 rcases h with h|⟨b,off,hA,hb,hc⟩
 ·subst h;simp at hk
 ·exact⟨b,off,hA,hb,fun j v hv=>hc k l[k] (List.getElem?_eq_getElem hk) j v hv⟩
end
theorem grownBy_of_below {W W':World}(h:Below W.heap.size W W'):W.grownBy W' none:=
 ⟨h.os,h.tape,h.output,h.size,fun k hk _=>h.block k hk⟩
theorem own_below {W W':World}{n₀:Nat}{t:TypeId}{s k:Nat}{v:Value}{xs:List Value}(h:W.ownsRow n₀ t s v k xs)(hb:Below W.heap.size W W'):W'.ownsRow n₀ t s v k xs:=
 h.kept (grownBy_of_below hb) (by cases v.ownBlock<;>simp)
def From (n:Nat)(A:Option Addr):Prop:= ∀a,A=some a→n≤a.block
theorem takeH {P:Program}{md:Region.Mode}{ops:Array Oper}{Q:Exit→Act→World→Prop}{S:World→Prop}{oi:Oper}{v:Value}{fuel:Nat}{listed:Array Bool}{a:Act}{w:World}(i:Nat)(d:Option Tmp)(hi:ops[i]?=some oi)(hd:oi.dst=d)
  (hs:Region.noSelect ops=true) (hf:Region.free md ops listed i=true) (hr:(Region.ready md ops listed).contains i=true)
  (hQ: ∀c a w,Q (.panic c) (a.put d v) w→Q (.panic c) a w) (hy:YieldsIf P ops S oi v a) (hS:S w)
  (h:wpAnyH P md ops Q S fuel (listed.setIfInBounds i true) (a.put d v) w):wpAnyH P md ops Q S (fuel+1) listed a w:=by
 subst hd
 exact wpAnyH_take hi hs hf hr hQ hy hS h
theorem readyH {P:Program}{md:Region.Mode}{ops:Array Oper}{Q:Exit→Act→World→Prop}{S:World→Prop}{fuel:Nat}{listed:Array Bool}{a:Act}{w:World}{i:Nat}{o:Oper}{rs:List Nat}(d:Option Tmp)(ho:ops[i]?=some o)(hd:o.dst=d)
  (h: ∀K':Act→World→Prop,Shut (∀a w,S w→(S w→wpAnyH P md ops Q S fuel (listed.setIfInBounds i true) a w)→K' a w)→if Region.wanted o (yielded ops a.tmps)=true then Oper.wp P o a w K' Q else K' (a.put d undef) w)
  (hs:AllReadyH P md ops Q S fuel listed a w rs):AllReadyH P md ops Q S fuel listed a w (i::rs):=by
 subst hd
 exact AllReadyH.cons ho h hs
theorem flat_at {α:Type}(enc:α→List Value)(size:Nat)(hsz: ∀x,(enc x).length=size){l:List α}{k:Nat}{x:α}(hk:l[k]?=some x){j:Nat}{v:Value}(hv:(enc x)[j]?=some v):(l.flatMap enc)[k*size+j]?=some v:=by
 induction l generalizing k with
 |nil=>simp at hk
 |cons y l ih=>
  have hj:j<size:=by rw[←hsz x];exact(List.getElem?_eq_some_iff.1 hv).1
  rw[List.flatMap_cons]
  cases k with
  |zero=>
   simp at hk
   subst hk
   rw[List.getElem?_append_left (by rw[hsz];omega)]
   simpa using hv
  |succ k=>
   have h1:=ih (k:=k) (by simpa using hk)
   rw[List.getElem?_append_right (by rw[hsz,Nat.add_mul];omega),hsz]
   rw[show(k+1)*size+j-size=k*size+j by rw[Nat.add_mul];omega]
   exact h1
theorem flat_len {α:Type}(enc:α→List Value)(size:Nat)(hsz: ∀x,(enc x).length=size)(l:List α):(l.flatMap enc).length=l.length*size:=by
 induction l with
 |nil=>simp
 |cons y l ih=>rw[List.flatMap_cons,List.length_append,ih,hsz,List.length_cons,Nat.add_mul];omega
structure Lay {α:Type}(enc:α→List Value)(ST ET:TypeId)(z:Value)(size bytes:Nat):Prop where
 ht:Tryz.prog.underlying ST=some (.slice ET)
 hi:(Tryz.prog.info? ET).map (fun i=>(i.zero,i.size,i.bytes))=some (some z,size,bytes)
 hz:z.cells.size=size
 hs:0<size
 henc: ∀x,(enc x).length=size
 hone: ∀x,∀v∈enc x,v.oneCell'=true
section
variable {α : Type} {enc : α → List Value} {ST ET : TypeId} {z : Value} {size bytes : Nat}
theorem own_app (L:Lay enc ST ET z size bytes){n₀ k:Nat}{w1:World}{v:Value}{l:List α}(hr:w1.ownsRow n₀ ET size v k (l.flatMap enc))(r:List α)(m:Nat)(hm:r.length=m+1)(cs:Array Value)(hcs:cs.toList=r.flatMap enc)
  (h63:k+(m+1)≤maxLen) (hb:(k+(m+1))*bytes≤140737488355328) (hn:n₀≤w1.heap.size):
  ∃g' cap' w2,(Builtin.append_ #[ST,ST] ST #[v,.slice (some ⟨w1.heap.size,0,none⟩) (m+1) (m+1)]).run Tryz.prog (w1.alloc (.cells cs ET))=.ok (.slice (some ⟨g',0,none⟩) (k+(m+1)) cap') w2∧
   w2.ownsRow n₀ ET size (.slice (some ⟨g',0,none⟩) (k+(m+1)) cap') (k+(m+1)) ((l++r).flatMap enc)∧Below n₀ w1 w2:=by
 obtain⟨i0,hi0,hz0,hz1,hz2⟩:=info_parts L.hi
 have hcell: ∀j u,(r.flatMap enc)[j]?=some u→(w1.alloc (.cells cs ET)).cell? ((⟨w1.heap.size,0,none⟩:Addr).add j)=some u:=by
  intro j u hj
  rw[Go.WideShapes.add_plain,Nat.zero_add,(blk_cells (World.alloc_heap_new w1 (.cells cs ET))).1,←Array.getElem?_toList,hcs]
  exact hj
 have hone: ∀u∈r.flatMap enc,u.oneCell'=true:=by
  intro u hu
  obtain⟨x,_,hx⟩:=List.mem_flatMap.1 hu
  exact L.hone x u hx
 obtain⟨v',w2,hrun,hown,hgrow,hn2⟩:=run_append_own (P:=Tryz.prog) (w:=w1.alloc (.cells cs ET)) n₀ ST ST ET i0 _ size bytes L.ht hi0 hz0 hz1 hz2 L.hz L.hs v k (l.flatMap enc) (hr.alloc _) ⟨w1.heap.size,0,none⟩ (m+1) (m+1) (r.flatMap enc)
  (by rw[flat_len enc size L.henc,hm]) hcell hone h63 hb (by simp only[World.size_alloc];omega)
 obtain⟨g',cap',rfl⟩:=ownsRow_succ (k:=k+m) hown
 refine⟨g',cap',w2,hrun,by rw[List.flatMap_append];exact hown,?_⟩
 refine(((Below.refl n₀ w1).alloc hn _).grown hgrow (by simp only[World.size_alloc];omega) fun j ej=> ?_)
 exact((hr.alloc (.cells cs ET)).lt j ej).1
theorem own_count (L:Lay enc ST ET z size bytes){n₀ k:Nat}{w:World}{v:Value}{l:List α}(h:w.ownsRow n₀ ET size v k (l.flatMap enc)):k=l.length:=by
 have:=h.1
 rw[flat_len enc size L.henc]at this
 exact(Nat.eq_of_mul_eq_mul_right L.hs this).symm
theorem own_seg (L:Lay enc ST ET z size bytes){n₀:Nat}{w:World}{v:Value}{l:List α}(h:w.ownsRow n₀ ET size v l.length (l.flatMap enc)): ∃A c,v=.slice A l.length c∧Seg enc size w w.heap.size A l∧l.length≤c∧From n₀ A:=by
 rcases h.2 with ⟨h2,h3⟩|⟨g,cap,cur,h2,h3,_,hle,_⟩
 ·exact⟨none,0,by rw[h2,h3],.inl (List.length_eq_zero_iff.1 h3),by omega,by intro a ha;cases ha⟩
 ·refine⟨some ⟨g,0,none⟩,cap,h2,.inr ⟨g,0,rfl,?_,fun k x hx j v' hv=> ?_⟩,hle,by intro a ha;cases ha;exact h3⟩
  ·exact(h.lt g (by rw[h2];rfl)).2
  ·have hf:=flat_at enc size L.henc hx hv
   have:=h.cells (g:=g) (by rw[h2];rfl) (k*size+j) v' hf
   rw[Go.WideShapes.add_plain]at this
   rw[Nat.add_assoc,this]
end
theorem grown_row (W:World)(g:Nat)(cs:Array Value):W.grownBy (W.setRow g cs) (some g):=
 ⟨rfl,rfl,rfl,by simp,fun k _ hne=>setRow_other W g k cs (by simp at hne;omega)⟩
theorem st_row (w : World) (g : Nat) (t ty : TypeId) (old cells : Array Value) (hg : w.heap[g]? = some (.cells old t (0, 0))) (hi : (Tryz.prog.info? ty).map (·.size) = some cells.size)
  (ho : old.size = cells.size) (h1 : cells.all (·.oneCell') = true) :
  ∃w',(storeVar ty ⟨g,0,none⟩ (.agg cells)).run Tryz.prog w=.ok () w'∧w'.heap[g]?=some (.cells cells t (0,0))∧w.grownBy w' (some g):=
 ⟨_,run_storeVar_row w g t ty old cells hg hi ho h1,setRow_heap w g old cells t (0,0) hg,grown_row w g cells⟩
theorem lv_scalar {t:TypeId}{d:TypeDesc}(hu:Tryz.prog.underlying t=some d)(hd:d.isRow=false)(a:Addr)(w:World):(loadVar t a).run Tryz.prog w=(load a).run Tryz.prog w:=by
 have hagg:(isAgg t).run Tryz.prog w=.ok false w:=by
  unfold isAgg
  rw[Sem.run_bind,run_underlying hu w]
  cases d<;>simp_all
 simp[loadVar,Sem.run_bind,hagg]
theorem ld_row {w : World} {g : Nat} {t ty : TypeId} {d : TypeDesc} {cs : Array Value} (hg : w.heap[g]? = some (.cells cs t (0, 0))) (hu : Tryz.prog.underlying ty = some d) (hd : d.isRow = true) (hi : (Tryz.prog.info? ty).map (·.size) = some cs.size) : (loadVar ty ⟨g, 0, none⟩).run Tryz.prog w = .ok (.agg cs) w :=
 run_loadVar_row w g _ _ _ _ _ hg hu (by cases d<;>simp_all) hi
theorem grown_up {w w1 w2:World}{b:Nat}(h:w.grownBy w1 (some b))(hb:Below w1.heap.size w1 w2):w.grownBy w2 (some b):=h.trans ((grownBy_of_below hb).but (some b))
theorem grown_below {w w1:World}(b:Nat)(hb:Below w.heap.size w w1):w.grownBy w1 (some b):=(grownBy_of_below hb).but (some b)
theorem leaves_congr {P:Program}{fn:Func}{T T':Array Value}{R:Ending→World→Prop}(h: ∀w,(results fn T).run P w=(results fn T').run P w): ∀(ds:List Deferred) (u:FrameMode) (w:World),Leaves P fn T R ds u w→Leaves P fn T' R ds u w
 | [],u,w,hl=>by
  cases u with
  |returning=>obtain⟨v,h1,h2⟩:=hl;exact⟨v,(h w)▸h1,h2⟩
  |panicking c=>exact hl
  |run=>exact hl
 |d::ds,u,w,hl=>by
  obtain⟨hu,fv,cap,f,args,ht,hi,hc⟩:=hl
  refine⟨hu,fv,cap,f,args,ht,hi,hc.mono ?_⟩
  intro e u' w' h'
  cases e with
  |returned v=>exact leaves_congr h ds _ _ h'
  |panicked c=>exact leaves_congr h ds _ _ h'
  |outgrown=>exact h'
theorem put_get {T:Array Value}{d i:Nat}{v:Value}(h:d≠i):(T.setIfInBounds d v).getD i undef=T.getD i undef:=by
 simp[Array.getD_eq_getD_getElem?,h]
theorem still_tail {P:Program}{id:Nat}{Q:Exit→Act→World→Prop}{a:Act}{w W:World}{l:List Oper}(hW:W=w.drew)(n:Nat)(hm:P.follows .mixedOrders=true)(hB:Region.lexTailB .any l.toArray n=true)
  (h:wpStill P l.toArray W (fun a'=>wpList P l.toArray Q (l.drop n) a' W) (l.take n) a):(Code.region id l.toArray true).wp P Q a w:=by
 subst hW
 exact wp_region_still_tail n hm hB h
theorem still_all {P:Program}{id:Nat}{Q:Exit→Act→World→Prop}{a:Act}{w W:World}{l:List Oper}(hW:W=w.drew)(hm:P.follows .mixedOrders=true)(hB:Region.lexB .any l.toArray=true)
  (h:wpStill P l.toArray W (fun a'=>Q .normal a' W) l a):(Code.region id l.toArray true).wp P Q a w:=by
 subst hW
 exact wp_region_still_lit hm hB h
theorem below_drew {B:Nat}{a w:World}(h:Below B a w):Below B a w.drew:=⟨h.os,h.tape,h.output,h.size,h.block⟩
end Go.Proofs.YtcffonnijhhhiaaGreatDoor
