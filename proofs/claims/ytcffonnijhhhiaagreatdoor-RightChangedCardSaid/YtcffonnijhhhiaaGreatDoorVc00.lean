/- Part Vc00 of the proof: Yf Yg Yo Yp Ra Cm. -/
import Derived.Test.YtcffonnijhhhiaaGreatDoorProg
import Derived.WalkKit
import Derived.WalkLawsBesides
import Derived.WalkSpells
import Derived.Handy
import Derived.Lib.Hide
import Derived.Great.BuildSlice
import Derived.Deep.QuietTactic
import Derived.BigQuiet
import Derived.Deep.RegionHeld3
import Derived.Deep.DeepCutAuto
import Derived.Test.YtcffonnijhhhiaaGreatDoorU32
import Derived.Test.YtcffonnijhhhiaaGreatDoorU31
import Derived.Test.YtcffonnijhhhiaaGreatDoorU30
import Derived.Test.YtcffonnijhhhiaaGreatDoorU26
import Derived.Test.YtcffonnijhhhiaaGreatDoorU24
import Derived.Test.YtcffonnijhhhiaaGreatDoorU25
set_option linter.all false
set_option linter.unusedSimpArgs false
set_option linter.unusedVariables false
set_option linter.unusedSectionVars false
set_option linter.all false
set_option linter.unusedSimpArgs false
set_option linter.unusedVariables false
set_option linter.unusedSectionVars false
namespace Go.Proofs.Rt
theorem lots_ext2 {l m : List Lot} (hl : asc (l.map (·.number))) (hm : asc (m.map (·.number))) (h : ∀ n, lotOf l n = lotOf m n) : l = m := by
 have cons: ∀(y:Lot) (l:List Lot) (n:Int),lotOf (y::l) n=if y.number=n then some y else lotOf l n:=by
  intro y l n
  unfold lotOf
  rw[List.find?_cons]
  by_cases e:y.number=n
  ·simp[e]
  ·simp only[beq_eq_false_iff_ne.2 e,if_neg e]
 induction l generalizing m with
 |nil=>
  cases m with
  |nil=>rfl
  |cons y m=>
   have:=h y.number
   rw[cons,if_pos rfl]at this
   cases this
 |cons x l ih=>
  cases m with
  |nil=>
   have:=h x.number
   rw[cons,if_pos rfl]at this
   cases this
  |cons y m=>
   have l1: ∀z∈l,x.number<z.number:=fun z hz=>hl.1 _ (List.mem_map_of_mem hz)
   have m1: ∀z∈m,y.number<z.number:=fun z hz=>hm.1 _ (List.mem_map_of_mem hz)
   have hx:=h x.number
   have hy:=h y.number
   rw[cons,if_pos rfl]at hx
   rw[cons y,if_pos rfl]at hy
   have hxy:x=y:=by
    rcases List.mem_cons.1 (lotOf_some hx.symm).1 with e|a
    ·exact e
    ·rcases List.mem_cons.1 (lotOf_some hy).1 with e|b
     ·exact e.symm
     ·have:=m1 x a
      have:=l1 y b
      omega
   subst hxy
   congr 1
   refine ih hl.2 hm.2 (fun n=> ?_)
   have:=h n
   rw[cons,cons]at this
   by_cases e:x.number=n
   ·subst e
    rw[lotOf_none.2 (fun z hz=>by have:=l1 z hz;omega),lotOf_none.2 (fun z hz=>by have:=m1 z hz;omega)]
   ·rwa[if_neg e,if_neg e]at this
def kE (r:Roll):List (Int×Int):=r.eases.map Ease.key
def k3 (x:Stint):(Int×Int)×Int:=(x.key,x.beasts)
def kS (r:Roll):List ((Int×Int)×Int):=r.stints.map k3
theorem eqBy_keys {α β:Type}[DecidableEq β](f:α→β){p:α→α→Bool}(hp: ∀x y,p x y=true↔f x=f y): ∀ {l m:List α},eqBy p l m=true↔l.map f=m.map f
 | [],[]=>by simp[eqBy]
 | [],_::_=>by simp[eqBy]
 |_::_,[]=>by simp[eqBy]
 |x::l,y::m=>by
  unfold eqBy
  rw[Bool.and_eq_true,hp,eqBy_keys f hp]
  simp
theorem sameR_keys (r s:Roll):sameR r s=true↔r.lots=s.lots∧kE r=kE s∧kS r=kS s:=by
 unfold sameR kE kS
 rw[Bool.and_eq_true,Bool.and_eq_true,eqBy_keys (fun x:Lot=>x) (fun x y=>by simp[sameL]),eqBy_keys Ease.key (fun x y=>by simp[sameE,Ease.key]),eqBy_keys k3 (fun x y=>by
  simp[sameS,k3,Stint.key,and_assoc])]
 simp[and_assoc]
theorem alike_keys (r s:Roll)(n:Int):alike r s n=true↔r.lots.filter (fun x=>x.number==n)=s.lots.filter (fun x=>x.number==n)∧(kE r).filter (fun k=>k.1==n||k.2==n)=(kE s).filter (fun k=>k.1==n||k.2==n)∧(kS r).filter (fun k=>k.1.1==n)=(kS s).filter (fun k=>k.1.1==n):=by
 unfold alike
 rw[sameR_keys]
 unfold partR kE kS
 simp only[List.filter_map]
 rfl
theorem over_keys (r : Roll) (n : Int) : (r.eases.filter fun e => e.over == n).map (·.of) = ((kE r).filter fun k => k.1 == n).map (·.2) := by
 unfold kE
 rw[List.filter_map,List.map_map]
 rfl
theorem beasts_keys (r : Roll) (n : Int) : (r.stints.filter fun e => e.lot == n).map (·.beasts) = ((kS r).filter fun k => k.1.1 == n).map (·.2) := by
 unfold kS
 rw[List.filter_map,List.map_map]
 rfl
theorem alike_over {r s : Roll} {n : Int} (h : alike r s n = true) : (r.eases.filter fun e => e.over == n).map (·.of) = (s.eases.filter fun e => e.over == n).map (·.of) := by
 rw[over_keys,over_keys]
 have:=congrArg (List.filter fun k:Int×Int=>k.1==n) ((alike_keys r s n).1 h).2.1
 rw[List.filter_filter,List.filter_filter]at this
 have e:(fun a:Int×Int=>(a.1==n)&&(a.1==n||a.2==n))=fun a=>a.1==n:=by funext a;cases a.1==n<;>rfl
 rw[e]at this
 rw[this]
theorem alike_beasts {r s : Roll} {n : Int} (h : alike r s n = true) : (r.stints.filter fun e => e.lot == n).map (·.beasts) = (s.stints.filter fun e => e.lot == n).map (·.beasts) := by
 rw[beasts_keys,beasts_keys,((alike_keys r s n).1 h).2.2]
theorem alike_lot {r s:Roll}{n:Int}(h:alike r s n=true):lotOf r.lots n=lotOf s.lots n:=by
 unfold lotOf
 rw[←List.head?_filter,←List.head?_filter,((alike_keys r s n).1 h).1]
theorem sorted_uniq {α:Type}{R:α→α→Prop}(ha: ∀a b,R a b→R b a→False): ∀ {l m:List α},l.Pairwise R→m.Pairwise R→(∀x,x∈l↔x∈m)→l=m
 | [],[],_,_,_=>rfl
 | [],y::m,_,_,h=>absurd ((h y).2 (by simp)) (by simp)
 |x::l,[],_,_,h=>absurd ((h x).1 (by simp)) (by simp)
 |x::l,y::m,hl,hm,h=>by
  obtain⟨l1,l2⟩:=List.pairwise_cons.1 hl
  obtain⟨m1,m2⟩:=List.pairwise_cons.1 hm
  have hr: ∀a,¬R a a:=fun a h=>ha a a h h
  have hxy:x=y:=by
   rcases List.mem_cons.1 ((h x).1 (by simp))with e|e
   ·exact e
   ·rcases List.mem_cons.1 ((h y).2 (by simp))with e2|e2
    ·exact e2.symm
    ·exact absurd (l1 y e2) (fun h1=>ha _ _ h1 (m1 x e))
  subst hxy
  congr 1
  refine sorted_uniq ha l2 m2 fun z=>⟨fun hz=> ?_,fun hz=> ?_⟩
  ·rcases List.mem_cons.1 ((h z).1 (by simp[hz]))with e|e
   ·exact absurd (l1 z hz) (e▸hr x)
   ·exact e
  ·rcases List.mem_cons.1 ((h z).2 (by simp[hz]))with e|e
   ·exact absurd (m1 z hz) (e▸hr x)
   ·exact e
theorem before_asym (a b:Int×Int)(h:before a b)(k:before b a):False:=by unfold before at*;omega
theorem asc2_pws {l:List (Int×Int)}(h:asc2 l):l.Pairwise before:=by
 induction l with
 |nil=>exact .nil
 |cons a l ih=>exact .cons h.1 (ih h.2)
theorem kS_pw {l:List Stint}(h:asc2 (l.map Stint.key)):(l.map k3).Pairwise fun a b=>before a.1 b.1:=by
 have:=asc2_pws h
 rw[List.pairwise_map]at this ⊢
 exact this
theorem same_of_alike {s t:St}(hs:Inv s)(ht:Inv t)(h: ∀n,(∃x∈s.roll.lots++t.roll.lots,x.number=n)→alike s.roll t.roll n=true):sameR s.roll t.roll=true:=by
 have hin: ∀ {u:St},Inv u→ ∀ {n:Int},(lotOf u.roll.lots n).isSome→ ∃x∈u.roll.lots,x.number=n:=fun {u} _ {n} hn=>by
  obtain⟨x,hx⟩:=Option.isSome_iff_exists.1 hn
  exact⟨x,lotOf_some hx⟩
 have key: ∀ {u v:St},Inv u→(∀n,(∃x∈u.roll.lots,x.number=n)→alike u.roll v.roll n=true)→(∀k∈kE u.roll,k∈kE v.roll)∧ ∀k∈kS u.roll,k∈kS v.roll:=fun {u v} hu ha=>by
  refine⟨fun k hk=> ?_,fun k hk=> ?_⟩
  ·obtain⟨e,he,rfl⟩:=List.mem_map.1 hk
   have hal:=((alike_keys _ _ _).1 (ha e.over (hin hu (hu.eok e he).2.1))).2.1
   have hm:e.key∈(kE u.roll).filter (fun k=>k.1==e.over||k.2==e.over):=List.mem_filter.2 ⟨hk,by simp[Ease.key]⟩
   rw[hal]at hm
   exact(List.mem_filter.1 hm).1
  ·obtain⟨e,he,rfl⟩:=List.mem_map.1 hk
   have hal:=((alike_keys _ _ _).1 (ha e.lot (hin hu (hu.sok e he).1))).2.2
   have hm:k3 e∈(kS u.roll).filter (fun k=>k.1.1==e.lot):=List.mem_filter.2 ⟨hk,by simp[k3,Stint.key]⟩
   rw[hal]at hm
   exact(List.mem_filter.1 hm).1
 have hsym: ∀ {r s:Roll} {n:Int},alike r s n=true→alike s r n=true:=fun h=>by
  rw[alike_keys]at h ⊢
  exact⟨h.1.symm,h.2.1.symm,h.2.2.symm⟩
 obtain⟨e1,f1⟩:=key (v:=t) hs (fun n ⟨x,hx,e⟩=>h n ⟨x,List.mem_append_left _ hx,e⟩)
 obtain⟨e2,f2⟩:=key (v:=s) ht (fun n ⟨x,hx,e⟩=>hsym (h n ⟨x,List.mem_append_right _ hx,e⟩))
 rw[sameR_keys]
 refine⟨lots_ext2 hs.lots ht.lots fun n=> ?_,?_,?_⟩
 ·by_cases hn: ∃x∈s.roll.lots++t.roll.lots,x.number=n
  ·exact alike_lot (h n hn)
  ·rw[lotOf_none.2 fun y hy e=>hn ⟨y,List.mem_append_left _ hy,e⟩,lotOf_none.2 fun y hy e=>hn ⟨y,List.mem_append_right _ hy,e⟩]
 ·exact sorted_uniq before_asym (asc2_pws hs.eases) (asc2_pws ht.eases) fun k=>⟨e1 k,e2 k⟩
 ·exact sorted_uniq (R:=fun a b:(Int×Int)×Int=>before a.1 b.1) (fun a b=>before_asym a.1 b.1) (kS_pw hs.stints) (kS_pw ht.stints) fun k=>⟨f1 k,f2 k⟩
theorem alike_of_same {r s:Roll}(h:sameR r s=true)(n:Int):alike r s n=true:=by
 obtain⟨a,b,c⟩:=(sameR_keys r s).1 h
 rw[alike_keys,a,b,c]
 exact⟨rfl,rfl,rfl⟩
theorem mem_compactI {l:List Int}{x:Int}:x∈Go.Lib.compact l↔x∈l:=by
 unfold Go.Lib.compact Go.Lib.compactUpTo
 rw[List.mem_map]
 have hg: ∀j,j<l.length→l.toArray[j]! =l[j]!:=fun j hj=>by simp
 constructor
 ·rintro⟨j,hj,rfl⟩
  have h1:=List.mem_range.1 (List.mem_filter.1 hj).1
  rw[hg j h1,getElem!_pos l j h1]
  exact List.getElem_mem h1
 ·intro hx
  have key: ∀j,j<l.length→ ∃a,a∈(List.range l.length).filter (Go.Lib.keeps l.toArray)∧l.toArray[a]! =l.toArray[j]!:=by
   intro j
   induction j with
   |zero=>exact fun hj=>⟨0,List.mem_filter.2 ⟨List.mem_range.2 hj,by simp[Go.Lib.keeps]⟩,rfl⟩
   |succ j ih=>
    intro hj
    by_cases e:l.toArray[j+1]! =l.toArray[j]!
    ·obtain⟨a,h1,h2⟩:=ih (by omega)
     exact⟨a,h1,h2.trans e.symm⟩
    ·refine⟨j+1,List.mem_filter.2 ⟨List.mem_range.2 hj,?_⟩,rfl⟩
     unfold Go.Lib.keeps
     rw[decide_eq_true_iff]
     exact .inr e
  obtain⟨j,hj,rfl⟩:=List.getElem_of_mem hx
  obtain⟨a,h1,h2⟩:=key j hj
  refine⟨a,h1,h2.trans ?_⟩
  rw[hg j hj,getElem!_pos l j hj]
theorem mem_riseI {l:List Int}{x:Int}:x∈rise l↔x∈l:=by unfold rise;exact List.mem_mergeSort
theorem changed_iff {r s:Roll}{n:Int}:n∈changedR r s↔(∃x∈r.lots++s.lots,x.number=n)∧alike r s n=false:=by
 unfold changedR
 rw[List.mem_filter,mem_compactI,mem_riseI,List.mem_map]
 simp
theorem changed_none {s t:St}(hs:Inv s)(ht:Inv t):changedR s.roll t.roll=[]↔sameR s.roll t.roll=true:=by
 constructor
 ·intro h
  refine same_of_alike hs ht fun n hn=> ?_
  cases e:alike s.roll t.roll n with
  |true=>rfl
  |false=>
   have:=changed_iff.2 ⟨hn,e⟩
   rw[h]at this
   cases this
 ·intro h
  refine List.eq_nil_iff_forall_not_mem.2 fun n hn=> ?_
  have:=(changed_iff.1 hn).2
  rw[alike_of_same h n]at this
  cases this
theorem unchanged {r s:Roll}{x:Lot}(hx:x∈r.lots)(h:x.number∉changedR r s):alike r s x.number=true:=by
 cases e:alike r s x.number with
 |true=>rfl
 |false=>exact absurd (changed_iff.2 ⟨⟨x,List.mem_append_left _ hx,rfl⟩,e⟩) h
end Go.Proofs.Rt
namespace Go.Proofs.Rt
theorem put_in {l:List Lot}{x y:Lot}(h:y∈put l x):y=x∨y∈l:=by
 induction l with
 |nil=>exact .inl (List.mem_singleton.1 h)
 |cons z l ih=>
  unfold put at h
  split at h
  ·rcases List.mem_cons.1 h with e|e
   ·exact .inl e
   ·exact .inr e
  ·rcases List.mem_cons.1 h with e|e
   ·exact .inr (by simp[e])
   ·rcases ih e with e|e
    ·exact .inl e
    ·exact .inr (by simp[e])
theorem gone_in {l:List Lot}{n:Int}{y:Lot}(h:y∈gone l n):y∈l:=(List.mem_filter.1 h).1
theorem goneAll_in : ∀(L:List Int) {l:List Lot} {y:Lot},y∈L.foldl gone l→y∈l
 | [],_,_,h=>h
 |_::L,_,_,h=>gone_in (goneAll_in L h)
theorem putAll_in (hd:List (Int×Int)): ∀(L:List (Int×Int)) {l:List Lot} {y:Lot},y∈L.foldl (fun l p=>put l ⟨p.1,p.2,hd⟩) l→(∃p∈L,y.number=p.1)∨y∈l
 | [],_,_,h=> .inr h
 |p::L,_,_,h=>by
  rcases putAll_in hd L h with ⟨q,hq,e⟩|h
  ·exact .inl ⟨q,List.mem_cons_of_mem _ hq,e⟩
  ·rcases put_in h with e|e
   ·exact .inl ⟨p,by simp,by rw[e]⟩
   ·exact .inr e
def numOk (n:Int):Prop:=1≤n∧n≤1000000
theorem does_nums {s:St}(h: ∀y∈s.roll.lots,numOk y.number){x:Deal}(hf:formed x=true): ∀y∈(does s x).roll.lots,numOk y.number:=by
 unfold formed isId at hf
 simp only[Bool.and_eq_true,inR_iff]at hf
 obtain⟨⟨_,hl⟩,hk⟩:=hf
 intro y hy
 unfold does at hy
 match e:x.kind with
 |1=>
  rw[e]at hy
  rcases put_in hy with g|g
  ·rw[g];exact hl
  ·exact h y g
 |2=>
  rw[e]at hy
  rcases put_in hy with g|g
  ·rw[g];exact hl
  ·exact h y (gone_in g)
 |3=>
  rw[e]at hy hk
  simp only[Bool.and_eq_true,lotsOk_iff]at hk
  rcases putAll_in _ _ hy with ⟨p,hp,g⟩|g
  ·rw[g]
   exact hk.1.1.2.2.1 p.1 (List.of_mem_zip (show(p.1,p.2)∈_ from hp)).1
  ·exact h y (gone_in g)
 |4=>
  rw[e]at hy
  rcases put_in hy with g|g
  ·rw[g];exact hl
  ·exact h y (goneAll_in _ g)
 |0=>rw[e]at hk;cases hk
 |5=>rw[e]at hy;exact h y hy
 |6=>rw[e]at hy;exact h y hy
 |7=>rw[e]at hy;exact h y hy
 |8=>rw[e]at hy;exact h y hy
 |n+9=>rw[e]at hk;cases hk
theorem right_nums : ∀ {s:St} {done l:List Deal},(∀y∈s.roll.lots,numOk y.number)→rightFrom s done l→ ∀y∈(l.foldl does s).roll.lots,numOk y.number
 |_,_,[],h,_=>h
 |s,_,x::l,h,hr=>by
  rw[List.foldl_cons]
  exact right_nums (does_nums h (refused_zero hr.1).2.1) hr.2
theorem stOf_nums {l:List Deal}(h:(check l).2=0): ∀y∈(stOf l).roll.lots,numOk y.number:=right_nums (fun y hy=>by cases hy) ((checkGo_iff _ _ _).1 h)
end Go.Proofs.Rt
set_option linter.all false
set_option linter.unusedSimpArgs false
set_option linter.unusedVariables false
set_option linter.unusedSectionVars false
namespace Go.Proofs.Rt
theorem put_len (l:List Lot)(x:Lot):(put l x).length=l.length+1:=by
 induction l with
 |nil=>rfl
 |cons y l ih=>
  unfold put
  split
  ·rfl
  ·simp[ih]
theorem gone_len (l:List Lot)(n:Int):(gone l n).length≤l.length:=List.length_filter_le _ _
theorem goneAll_len : ∀(L:List Int) (l:List Lot),(L.foldl gone l).length≤l.length
 | [],_=>Nat.le_refl _
 |n::L,l=>Nat.le_trans (goneAll_len L (gone l n)) (gone_len l n)
theorem putAll_len (hd:List (Int×Int)): ∀(L:List (Int×Int)) (l:List Lot),(L.foldl (fun l p=>put l ⟨p.1,p.2,hd⟩) l).length=l.length+L.length
 | [],_=>rfl
 |p::L,l=>by
  rw[List.foldl_cons,putAll_len hd L,put_len]
  simp
  omega
theorem does_len {s:St}{x:Deal}(hf:formed x=true):(does s x).roll.lots.length≤s.roll.lots.length+10:=by
 unfold formed isId at hf
 simp only[Bool.and_eq_true,inR_iff]at hf
 obtain⟨_,hk⟩:=hf
 unfold does
 match e:x.kind with
 |1=>
  show(put s.roll.lots _).length≤_
  rw[put_len];omega
 |2=>
  show(put (gone s.roll.lots x.lot) _).length≤_
  rw[put_len]
  have:=gone_len s.roll.lots x.lot
  omega
 |3=>
  rw[e]at hk
  simp only[Bool.and_eq_true,lotsOk_iff]at hk
  show((x.into.zip x.sizes).foldl _ (gone s.roll.lots x.lot)).length≤_
  rw[putAll_len]
  have:=gone_len s.roll.lots x.lot
  have h2:=hk.1.1.2.1.2
  rw[List.length_zip]
  omega
 |4=>
  show(put (x.into.foldl gone s.roll.lots) _).length≤_
  rw[put_len]
  have:=goneAll_len x.into s.roll.lots
  omega
 |0=>show s.roll.lots.length≤_;omega
 |5=>show s.roll.lots.length≤_;omega
 |6=>show s.roll.lots.length≤_;omega
 |7=>show s.roll.lots.length≤_;omega
 |8=>show s.roll.lots.length≤_;omega
 |n+9=>show s.roll.lots.length≤_;omega
theorem right_len : ∀ {s:St} {done l:List Deal},rightFrom s done l→(l.foldl does s).roll.lots.length≤s.roll.lots.length+10*l.length
 |_,_,[],_=>by simp
 |s,done,x::l,hr=>by
  rw[List.foldl_cons]
  have h1:=right_len hr.2
  have h2:=does_len (s:=s) (refused_zero hr.1).2.1
  simp only[List.length_cons]
  omega
theorem stOf_len {l:List Deal}(h:(check l).2=0):(stOf l).roll.lots.length≤10*l.length:=by
 have:=right_len ((checkGo_iff _ _ _).1 h)
 rw[show St.begun.roll.lots.length=0 from rfl,Nat.zero_add]at this
 exact this
theorem changed_len (r s:Roll):(changedR r s).length≤r.lots.length+s.lots.length:=by
 unfold changedR
 refine Nat.le_trans (List.length_filter_le _ _) (Nat.le_trans (Go.Lib.compact_length_le _) ?_)
 unfold rise
 rw[List.length_mergeSort]
 simp
theorem over_len {s : St} (h : Inv s) (n : Int) : ((s.roll.eases.filter fun e => e.over == n).map (·.of)).length ≤ s.roll.lots.length := by
 have hn : ((s.roll.eases.filter fun e => e.over == n).map (·.of)).Nodup := by
  rw[List.nodup_iff_pairwise_ne,List.pairwise_map]
  have h1:=asc2_pws h.eases
  rw[List.pairwise_map]at h1
  refine List.Pairwise.imp_of_mem (fun {a b} ha hb hab=> ?_) (h1.filter _)
  have h2:a.over=n:=by simpa using (List.mem_filter.1 ha).2
  have h3:b.over=n:=by simpa using (List.mem_filter.1 hb).2
  intro e
  unfold before Ease.key at hab
  simp only at hab
  omega
 have := hn.length_le_of_subset (l₂ := s.roll.lots.map (·.number)) (fun y hy => by
  obtain⟨e,he,rfl⟩:=List.mem_map.1 hy
  obtain⟨x,hx⟩:=Option.isSome_iff_exists.1 (h.eok e (List.mem_filter.1 he).1).2.2
  obtain⟨a,b⟩:=lotOf_some hx
  exact List.mem_map.2 ⟨x,a,b⟩)
 simpa using this
end Go.Proofs.Rt
set_option linter.all false
set_option linter.unusedSimpArgs false
set_option linter.unusedVariables false
set_option linter.unusedSectionVars false
namespace Go.Proofs.YtcffonnijhhhiaaGreatDoor
open Go Go.RowKit Go.Maps Mp
attribute [-simp] Prod.forall Prod.exists
attribute [-go_sem] loadVar storeVar Builtin.append_
attribute [local go_sem] lk_int lk_lots lk_parts lk_holds lk_mE lk_mS lk_sL lk_sE lk_sS fld0 fld1
set_option maxRecDepth 100000 in
set_option maxHeartbeats 2000000 in
theorem lotOf_a (A:Option Addr)(c:Nat)(L:List Dp)(day n:Int)(w:World)(h:Dls w w.heap.size A L)(hm:L.length≤1000000)(hn:i64 n):Calls Tryz.prog 64 #[.slice A L.length c,.int .i64 day,.int .i64 n] w (EndL w (lotX (dls L) day n) (lotE (dls L) day n)):=by
 have b0:Below w.heap.size w (w.alloc (.cells zcL 54)):=by go_grown
 have k0:=heap_alloc_new w (.cells zcL 54)
 have ho:=onSt_a A c L day _ (h.up b0) hm
 unfold EndOd at ho
 by_cases h0:(Rt.check (dls L)).2=0
 case neg=>
  simp only[h0,if_false]at ho
  have e1:lotE (dls L) day n=(Rt.check (dls L)).2:=if_pos h0
  have e2:lotX (dls L) day n=⟨0,0,[]⟩:=by unfold lotX onR;rw[if_neg h0];rfl
  rw[e1,e2]
  have hq2:((Rt.check (dls L)).2 !=0)=true:=by simpa using h0
  generalize (Rt.check (dls L)).2=E2 at ho hq2
  clear h0 e1 e2 h
  go_enter Tryz.func64,Tryz.ntmps64
  go_wp2_with fail
  refine ho.mono ?_
  clear ho
  rintro e w1 ⟨hb,rfl⟩
  have k1:=(hb.block _ (by simp)).trans k0
  obtain⟨W7,st7,k7,g7⟩:=st_row w1 w.heap.size 54 54 zcL zcL k1 info_lot rfl (by simp[Value.oneCell'])
  have l7:=ld_row k7 Tryz.underlying54 rfl info_lot
  have b7:Below w.heap.size w W7:=(b0.trans (hb.mono b0.size)).grown g7 (by have:=(hb.mono b0.size).size;have:=b0.size;omega) (fun k e=>by cases e;exact Nat.le_refl _)
  go_wp2
  refine bodyPost_ret (v:=.tuple #[.agg #[.int .i64 0,.int .i64 0,.slice none 0 0],.int .i64 E2]) (by simp[results,Tryz.results64,go_sem,l7]) rfl ?_
  exact⟨none,0,rfl,.inl rfl,Nat.le_refl _,fun a ha=>(by cases ha),b7⟩
 simp only[h0,if_true]at ho
 have hr:onR (dls L) day=(stDay (dls L) day).roll:=if_pos h0
 have e1:lotE (dls L) day n=if (Rt.lotOf (stDay (dls L) day).roll.lots n).isSome then 0 else 5:=by unfold lotE;rw[if_neg (by simpa using h0),hr]
 have e2:lotX (dls L) day n=(Rt.lotOf (stDay (dls L) day).roll.lots n).getD ⟨0,0,[]⟩:=by unfold lotX;rw[hr]
 rw[e1,e2]
 generalize stDay (dls L) day=s at ho ⊢
 obtain⟨E,hE⟩: ∃E:Int,(if (Rt.lotOf s.roll.lots n).isSome then 0 else 5)=E:=⟨_,rfl⟩
 obtain⟨X,hX⟩: ∃X:Rt.Lot,(Rt.lotOf s.roll.lots n).getD ⟨0,0,[]⟩=X:=⟨_,rfl⟩
 rw[hE,hX]
 have HE:=Lib.hid hE
 have HX:=Lib.hid hX
 clear h h0 hr e1 e2 hE hX
 go_enter Tryz.func64,Tryz.ntmps64
 go_wp2_with fail
 refine ho.mono ?_
 clear ho
 rintro e w1 ⟨b1',sb,bu,bl,be,bs,ad,rfl,hS,hin⟩
 have b1:Below w.heap.size w w1:=b0.trans (b1'.mono b0.size)
 have hz:=hS.lt
 have hz2:=hS.ord
 have z1:w.heap.size<w1.heap.size:=by have:=b1'.size;simp at this;omega
 obtain⟨hc,hf⟩:=blk_cells hS.blk
 have k1:=(b1'.block _ (by simp)).trans k0
 have hl:=hS.lLot hn
 cases hx:Rt.lotOf s.roll.lots n with
 |none=>
  have hp:ad n=none:=by
   cases hp:ad n with
   |none=>rfl
   |some p=>have:=(ad_iff hS n).1 (by rw[hp];rfl);obtain⟨x,hxm,e⟩:=List.mem_map.1 this;exact absurd e (Rt.lotOf_none.1 hx x hxm)
  rw[hp]at hl
  obtain⟨W7,st7,k7,g7⟩:=st_row w1 w.heap.size 54 54 zcL zcL k1 info_lot rfl (by simp[Value.oneCell'])
  have l7:=ld_row k7 Tryz.underlying54 rfl info_lot
  have b7:Below w.heap.size w W7:=b1.grown g7 (by omega) (fun k e=>by cases e;exact Nat.le_refl _)
  obtain rfl:E=5:=by rw[←HE.out,hx];rfl
  obtain rfl:X=⟨0,0,[]⟩:=by rw[←HX.out,hx];rfl
  clear hx hp k0 HE HX
  go_wp2
  refine bodyPost_ret (v:=.tuple #[.agg #[.int .i64 0,.int .i64 0,.slice none 0 0],.int .i64 5]) (by simp[results,Tryz.results64,go_sem,l7]) rfl ?_
  exact⟨none,0,rfl,.inl rfl,Nat.le_refl _,fun a ha=>(by cases ha),b7⟩
 |some x=>
  obtain⟨hok,p,hp,_⟩:=hS.plot hx
  rw[hp]at hl
  simp only[Option.map_some]at hl
  obtain rfl:E=0:=by rw[←HE.out,hx];rfl
  obtain rfl:x=X:=by rw[←HX.out,hx];rfl
  have hlot:=lot_a hS hx (hin.held x (Rt.lotOf_some hx).1).1
  have hnx:=(Rt.lotOf_some hx).2
  go_wp2_with fail
  refine hlot.mono ?_
  clear hlot hl hc hf
  rintro e w2 ⟨A',c',rfl,hs2,hc2,hf2,b2,_⟩
  have k2:=(b2.block _ z1).trans k1
  obtain⟨W7,st7,k7,g7⟩:=st_row w2 w.heap.size 54 54 zcL #[.int .i64 n,.int .i64 x.size,.slice A' x.held.length c'] k2 info_lot rfl (by simp[Value.oneCell'])
  have l7:=ld_row k7 Tryz.underlying54 rfl info_lot
  have b7:Below w.heap.size w W7:=(b1.trans (b2.mono b1.size)).grown g7 (by have:=b2.size;omega) (fun k e=>by cases e;exact Nat.le_refl _)
  have HS:=Lib.hid (show Seg encH 2 W7 W7.heap.size A' x.held from by
   rcases hs2 with hs2|⟨b,off,hA,hbb,hcell⟩
   ·exact .inl hs2
   ·have:=hf2 _ hA
    simp only at this
    exact .inr ⟨b,off,hA,Nat.lt_of_lt_of_le hbb g7.size,fun i y hy j u hu=>(World.cell?_of_block (g7.block b hbb (by simp;omega))).trans (hcell i y hy j u hu)⟩)
  clear hs2 k0 hp
  go_wp2
  refine bodyPost_ret (v:=.tuple #[.agg #[.int .i64 n,.int .i64 x.size,.slice A' x.held.length c'],.int .i64 0]) (by simp[results,Tryz.results64,go_sem,l7]) rfl ?_
  exact⟨A',c',by rw[hnx],HS.out,hc2,fun a ha=>by have:=hf2 a ha;omega,b7⟩
end Go.Proofs.YtcffonnijhhhiaaGreatDoor
set_option linter.all false
set_option linter.unusedSimpArgs false
set_option linter.unusedVariables false
set_option linter.unusedSectionVars false
namespace Go.Proofs.YtcffonnijhhhiaaGreatDoor
open Go Go.RowKit Go.Maps Mp
attribute [-simp] Prod.forall Prod.exists
theorem over_asc (l : List Dl) (day n : Int) : (overR (onR l day) n).Pairwise (· < ·) := by
 unfold overR
 rw[List.pairwise_map]
 refine List.Pairwise.imp_of_mem (fun {a b} ha hb hab=> ?_) ((List.pairwise_map.1 (asc2_lt (eases_asc (l:=l) (day:=day)))).filter _)
 have h2:a.over=n:=by simpa using (List.mem_filter.1 ha).2
 have h3:b.over=n:=by simpa using (List.mem_filter.1 hb).2
 unfold Rt.Ease.key Rt.before at hab
 simp only at hab
 omega
set_option maxRecDepth 100000 in
theorem over1_a (k:Int×Int)(n:Int)(b:Nat)(w:World)(hb:w.heap[b]?=some (.cells #[.int .i64 n] 3 (0,0))):Calls Tryz.prog 144 (#[.agg #[.int .i64 k.1,.int .i64 k.2]]++ #[.pointer (some ⟨b,0,none⟩)]) w fun e w'=>e=.returned (.tuple #[.int .i64 k.2,.bool (k.1==n)])∧Below w.heap.size w w':=by
 have b1:Below w.heap.size w (w.alloc (.cells #[.int .i64 k.1,.int .i64 k.2] 163)):=by go_grown
 obtain⟨W,hW⟩: ∃W:World,W=(w.alloc (.cells #[.int .i64 k.1,.int .i64 k.2] 163)).drew:=⟨_,rfl⟩
 have bW:Below w.heap.size w W:=by rw[hW];exact below_drew b1
 obtain⟨hc,hf⟩:=blk_cells ((bW.block _ (Array.getElem?_eq_some_iff.1 hb).1).trans hb)
 obtain⟨hc1,hf1⟩:=blk_cells (show W.heap[w.heap.size]?=some (.cells #[.int .i64 k.1,.int .i64 k.2] 163 (0,0)) by rw[hW];exact heap_alloc_new w _)
 have HW:=Lib.hid hW
 clear hW
 go_enter Tryz.func144,Tryz.ntmps144
 go_wp2
 refine still_all HW.out (by kernel_rfl) (by kernel_rfl) ?_
 repeat still_step
 refine wpStill_nil ?_
 go_wp2
 refine bodyPost_ret (v:=.tuple #[.int .i64 k.2,.bool (k.1==n)]) (by simp[results,Tryz.results144,go_sem]) rfl ?_
 exact⟨rfl,bW⟩
set_option maxRecDepth 100000 in
theorem over_a (A:Option Addr)(c:Nat)(L:List Dp)(day n:Int)(w:World)(h:Dls w w.heap.size A L)(hm:L.length≤1000000):Calls Tryz.prog 67 #[.slice A L.length c,.int .i64 day,.int .i64 n] w (EndN w (overR (onR (dls L) day) n)):=by
 have b1:Below w.heap.size w (w.alloc (.cells #[.int .i64 n] 3)):=by go_grown
 have k1:=heap_alloc_new w (.cells #[.int .i64 n] 3)
 have he:=eased_a A c L day _ (h.up b1) hm 144 #[.pointer (some ⟨w.heap.size,0,none⟩)] (fun k=>(k.2,k.1==n)) (enters_of Tryz.func144 (by kernel_rfl) rfl) (fun k W hW=>over1_a k n _ W ((hW.block _ (by simp)).trans k1))
 clear h
 go_enter Tryz.func67,Tryz.ntmps67
 go_wp2_with fail
 refine he.mono ?_
 clear he
 rintro e w2 ⟨l',A',c',HP,rfl,ho,b2⟩
 have hl:l'=overR (onR (dls L) day) n:=le_perm_eq HP.out.1 (over_asc _ _ _) HP.out.2
 have HO:=Lib.hid ho
 have HL:=Lib.hid hl
 clear ho hl
 go_wp2
 go_ret
 rw[←HL.out]
 refine⟨A',c',rfl,⟨HO.out.1,?_⟩,b1.trans (b2.mono (by simp))⟩
 rcases HO.out.2 with h4|⟨g,cap,cur,h4,h5,h6⟩
 ·exact .inl h4
 ·exact .inr ⟨g,cap,cur,h4,by simp at h5;omega,h6⟩
end Go.Proofs.YtcffonnijhhhiaaGreatDoor
set_option linter.all false
set_option linter.unusedSimpArgs false
set_option linter.unusedVariables false
set_option linter.unusedSectionVars false
namespace Go.Proofs.YtcffonnijhhhiaaGreatDoor
open Go Go.RowKit Go.Maps Mp
attribute [-simp] Prod.forall Prod.exists
attribute [-go_sem] loadVar storeVar run_equalIn_agg Builtin.append_
attribute [local go_sem] lk_int lk_u8 lk_ints lk_sL lk_sE lk_sS lk_holds
theorem hid_box2 {w:World}(ra rb:Array Value)(t:TypeId):
  Below w.heap.size w ((w.alloc (.cells ra t (0,0))).alloc (.cells rb t (0,0)))∧((w.alloc (.cells ra t (0,0))).alloc (.cells rb t (0,0))).heap[w.heap.size]?=some (.cells ra t (0,0))∧
  ((w.alloc (.cells ra t (0,0))).alloc (.cells rb t (0,0))).heap[w.heap.size+1]?=some (.cells rb t (0,0))∧((w.alloc (.cells ra t (0,0))).alloc (.cells rb t (0,0))).heap.size=w.heap.size+2:=
 ⟨((Below.refl _ w).alloc (Nat.le_refl _) _).alloc (by simp) _,by rw[Below.heap_alloc _ _ _ (by simp)];exact heap_at rfl,heap_at (by simp),by simp⟩
set_option maxRecDepth 100000 in
set_option maxHeartbeats 1000000 in
theorem sameHold_h (p q:Lp)(w:World)(hp:Seg encH 2 w w.heap.size p.A p.x.held)(hq:Seg encH 2 w w.heap.size q.A q.x.held)(h1:p.x.held.length≤2000000):
  Calls Tryz.prog 119 #[.agg (rowL p),.agg (rowL q)] w fun e w'=>e=.returned (.bool (decide (p.x.held=q.x.held)))∧Below w.heap.size w w':=by
 obtain⟨b0,k1,k2,z0⟩:=hid_box2 (w:=w) (rowL p) (rowL q) 54
 obtain⟨l,hl⟩: ∃l,p.x.held=l:=⟨_,rfl⟩
 obtain⟨m,hm⟩: ∃l,q.x.held=l:=⟨_,rfl⟩
 obtain⟨A,hA⟩: ∃A,p.A=A:=⟨_,rfl⟩
 obtain⟨B,hB⟩: ∃A,q.A=A:=⟨_,rfl⟩
 unfold rowL at b0 k1 k2 z0 ⊢
 rw[hl,hA]at hp
 rw[hm,hB]at hq
 rw[hl,hA,hm,hB]at b0 k1 k2 z0
 rw[hl]at h1
 rw[hl,hm,hA,hB]
 obtain⟨x1,_⟩:=blk_cells k1
 obtain⟨x2,_⟩:=blk_cells k2
 have d2:_=some (Value.slice A l.length p.c):=x1 2
 have e2:_=some (Value.slice B m.length q.c):=x2 2
 obtain⟨W0,hW0⟩: ∃W0,(w.alloc (.cells #[.int .i64 p.x.number,.int .i64 p.x.size,.slice A l.length p.c] 54 (0,0))).alloc (.cells #[.int .i64 q.x.number,.int .i64 q.x.size,.slice B m.length q.c] 54 (0,0))=W0:=⟨_,rfl⟩
 rw[hW0]at b0 k1 k2 z0
 have HW0:=Lib.hid hW0
 have B0:=Lib.hid b0
 have K1:=Lib.hid k1
 have K2:=Lib.hid k2
 have HP:=Lib.hid hp
 have HQ:=Lib.hid hq
 clear x1 x2 hW0 hl hm hA hB b0 k1 k2 hp hq
 by_cases hne:l.length=m.length
 ·have HL:=Lib.hid hne
  obtain⟨N,hN⟩: ∃N,m.length=N:=⟨_,rfl⟩
  have hNl:l.length=N:=hne.trans hN
  rw[hNl]at d2
  rw[hN]at e2
  rw[hNl,hN]
  rw[hNl]at h1
  have HNl:=Lib.hid hNl
  have HN:=Lib.hid hN
  clear hne hN hNl
  go_enter Tryz.func119,Tryz.ntmps119
  go_wp2
  go_loopw [5] (fun i wr=> ∃k:Nat,k≤N∧i=.int .i64 k∧Hid (∀j (hj:j<l.length) (hj':j<m.length),j<k→l[j]=m[j])∧Hid (Below W0.heap.size W0 wr)) (fun i _=>N-(intOf i).toNat)
  case atStart=>exact⟨0,by omega,rfl,Lib.hid (fun j _ _ h=>by omega),Lib.hid (by have:=HW0.out;rw[HNl.out,HN.out]at this;rw[this];exact Below.refl _ _)⟩
  case round=>
   obtain⟨k,hk,rfl,hg,HB⟩:=hrel
   have kr1:=(HB.out.block _ (by omega)).trans K1.out
   have kr2:=(HB.out.block _ (by omega)).trans K2.out
   rw[HNl.out]at kr1
   rw[HN.out]at kr2
   have dr2:_=some (Value.slice A N p.c):=(blk_cells kr1).1 2
   have er2:_=some (Value.slice B N q.c):=(blk_cells kr2).1 2
   by_cases hlt:k<N
   ·obtain⟨W,hW⟩: ∃W:World,W=wr.drew:=⟨_,rfl⟩
    have b1:Below w.heap.size w W:=by rw[hW];exact below_drew (B0.out.trans (HB.out.mono B0.out.size))
    have HB1:Hid (Below W0.heap.size W0 W):=Lib.hid (by rw[hW];exact below_drew HB.out)
    have dw2:W.cell? ⟨w.heap.size,2,none⟩=some (Value.slice A N p.c):=by rw[hW];exact dr2
    have ew2:W.cell? ⟨w.heap.size+1,2,none⟩=some (Value.slice B N q.c):=by rw[hW];exact er2
    have HW:=Lib.hid hW
    clear hW kr1 kr2
    have hkl:k<l.length:=by have:=HNl.out;omega
    have hkm:k<m.length:=by have:=HN.out;omega
    have hki:(k:Int)<(N:Int):=by omega
    obtain⟨bi,oi,ei,hbi,q1⟩:=ld_H (HP.out.below b1) hkl
    obtain⟨bj,oj,ej,hbj,q2⟩:=ld_H (HQ.out.below b1) hkm
    subst ei ej
    obtain⟨x,hx⟩: ∃x,l[k]=x:=⟨_,rfl⟩
    obtain⟨y,hy⟩: ∃y,m[k]=y:=⟨_,rfl⟩
    rw[hx]at q1
    rw[hy]at q2
    have qe:=eq_hold x y W
    have HX:=Lib.hid hx
    have HY:=Lib.hid hy
    clear hx hy
    by_cases hxy:x=y
    ·have qd:decide (x=y)=true:=by simpa using hxy
     rw[qd]at qe
     have HXY:=Lib.hid hxy
     clear hxy qd
     go_wp2
     refine still_all HW.out (by kernel_rfl) (by kernel_rfl) ?_
     repeat still_step
     refine wpStill_nil ?_
     go_wp2
     go_roundw
     case rel=>exact⟨k+1,by omega,by go_num,Lib.hid (fun j hj hj' h=>by
      by_cases e:j=k
      ·subst e
       rw[HX.out,HY.out,HXY.out]
      ·exact hg.out j hj hj' (by omega)),HB1⟩
     case measure=>first|(simp[intOf];done)|(simp[intOf];omega)
    ·have qd:decide (x=y)=false:=by simpa using hxy
     rw[qd]at qe
     have HV:=Lib.hid (show decide (l=m)=false by
      rw[decide_eq_false_iff_not]
      intro e
      subst e
      exact hxy (HX.out.symm.trans HY.out))
     clear hxy qd
     go_wp2
     refine still_all HW.out (by kernel_rfl) (by kernel_rfl) ?_
     repeat still_step
     refine wpStill_nil ?_
     go_wp2
     go_ret
     exact⟨ret_bool HV.out.symm,b1⟩
   ·obtain rfl:k=N:=by omega
    have HV:=Lib.hid (show decide (l=m)=true by
     rw[decide_eq_true_iff]
     exact List.ext_getElem HL.out (fun j hj hj'=>hg.out j hj hj' (by have:=HNl.out;omega)))
    have hb:Hid (Below w.heap.size w wr):=Lib.hid (B0.out.trans (HB.out.mono B0.out.size))
    clear kr1 kr2
    go_wp2
    go_ret
    exact⟨ret_bool HV.out.symm,hb.out⟩
 ·have hq:((l.length:Int) !=(m.length:Int))=true:=bne_iff_ne.2 (by omega)
  have HV:=Lib.hid (show decide (l=m)=false by
   rw[decide_eq_false_iff_not]
   intro e
   exact hne (by rw[e]))
  clear hne
  go_enter Tryz.func119,Tryz.ntmps119
  go_wp2
  go_ret
  exact⟨ret_bool HV.out.symm,by rw[HW0.out];exact B0.out⟩
set_option maxRecDepth 100000 in
set_option maxHeartbeats 1000000 in
theorem sameLot_h (p q:Lp)(w:World)(hp:Seg encH 2 w w.heap.size p.A p.x.held)(hq:Seg encH 2 w w.heap.size q.A q.x.held)(h1:p.x.held.length≤2000000):
  Calls Tryz.prog 47 #[.agg (rowL p),.agg (rowL q)] w fun e w'=>e=.returned (.bool (Rt.sameL p.x q.x))∧Below w.heap.size w w':=by
 obtain⟨b0,k1,k2,z0⟩:=hid_box2 (w:=w) (rowL p) (rowL q) 54
 have hc:=sameHold_h p q _ ((hp.below b0).more b0.size) ((hq.below b0).more b0.size) h1
 have l1:=ld_row k1 Tryz.underlying54 rfl info_lot
 have l2:=ld_row k2 Tryz.underlying54 rfl info_lot
 have K1:=Lib.hid k1
 have K2:=Lib.hid k2
 have B0:=Lib.hid b0
 have Z0:=Lib.hid z0
 have hr:Rt.sameL p.x q.x=(decide (p.x.held=q.x.held)&&decide (p.x.number=q.x.number)&&decide (p.x.size=q.x.size)):=by
  unfold Rt.sameL
  obtain⟨⟨p1,p2,p3⟩,_,_⟩:=p
  obtain⟨⟨q1,q2,q3⟩,_,_⟩:=q
  simp only[Rt.Lot.mk.injEq,Bool.decide_and]
  by_cases h1:p1=q1<;>by_cases h2:p2=q2<;>by_cases h3:p3=q3<;>simp[h1,h2,h3]
 rw[hr]
 obtain⟨v,hv⟩: ∃v,decide (p.x.held=q.x.held)=v:=⟨_,rfl⟩
 rw[hv]at hc ⊢
 clear hr hv hp hq h1 k1 k2 b0 z0
 go_enter Tryz.func47,Tryz.ntmps47
 go_wp2_with fail
 refine hc.mono ?_
 clear hc l1 l2
 rintro e w2 ⟨rfl,b2⟩
 have hz:=Z0.out
 have kr1:=(b2.block w.heap.size (by omega)).trans K1.out
 have kr2:=(b2.block (w.heap.size+1) (by omega)).trans K2.out
 have d0:_=some (Value.int .i64 p.x.number):=(blk_cells kr1).1 0
 have d1:_=some (Value.int .i64 p.x.size):=(blk_cells kr1).1 1
 have e0:_=some (Value.int .i64 q.x.number):=(blk_cells kr2).1 0
 have e1:_=some (Value.int .i64 q.x.size):=(blk_cells kr2).1 1
 have HBB:=Lib.hid (B0.out.trans (b2.mono B0.out.size))
 clear kr1 kr2 b2 hz
 cases v with
 |false=>
  go_wp2
  go_ret
  exact⟨rfl,HBB.out⟩
 |true=>
  by_cases g1:p.x.number=q.x.number
  ·have q1:(p.x.number==q.x.number)=true:=by simpa using g1
   have HG:=Lib.hid g1
   clear g1
   obtain⟨v2,q2⟩: ∃v,(p.x.size==q.x.size)=v:=⟨_,rfl⟩
   have HG2:Hid (decide (p.x.size=q.x.size)=v2):=Lib.hid (by rw[←q2];rfl)
   go_wp2
   go_ret
   exact⟨by rw[decide_eq_true HG.out,HG2.out];rfl,HBB.out⟩
  ·have q1:(p.x.number==q.x.number)=false:=by simpa using g1
   have HG:=Lib.hid g1
   clear g1
   go_wp2
   go_ret
   exact⟨by simp[HG.out],HBB.out⟩
end Go.Proofs.YtcffonnijhhhiaaGreatDoor
set_option linter.all false
set_option linter.unusedSimpArgs false
set_option linter.unusedVariables false
set_option linter.unusedSectionVars false
namespace Go.Proofs.YtcffonnijhhhiaaGreatDoor
open Go Go.RowKit Go.Maps Mp
attribute [-simp] Prod.forall Prod.exists
attribute [-go_sem] loadVar storeVar Builtin.append_
attribute [local go_sem] lk_int lk_u8 lk_ints lk_sL lk_sE lk_sS
theorem few30_h (A:Option Addr)(c:Nat)(L:List Dp)(w:World)(h:Seg encD 11 w w.heap.size A L)(hm:L.length≤maxLen):Calls Tryz.prog 36 #[.slice A L.length c] w fun e w'=>e=.returned (.bool (Rt.few (dls L) 30))∧w'=w:=by
 have hfe:=few_a A c L 30 w h hm (by decide)
 obtain⟨b,hb⟩: ∃b,Rt.few (dls L) 30=b:=⟨_,rfl⟩
 rw[hb]at hfe ⊢
 clear h hm hb
 go_enter Tryz.func36,Tryz.ntmps36
 go_wp2_with fail
 refine hfe.mono ?_
 rintro e w' ⟨rfl,rfl⟩
 go_wp2
 go_ret
 exact⟨rfl,rfl⟩
structure Dpo (w:World)(B:Nat)(p:Dp):Prop where
 into:Ints w B p.A1 p.x.into
 sizes:Ints w B p.A2 p.x.sizes
 h1:p.x.into.length≤p.c1
 h2:p.x.sizes.length≤p.c2
theorem Dpo.up {w w':World}{p:Dp}(h:Dpo w w.heap.size p)(hb:Below w.heap.size w w'):Dpo w' w'.heap.size p:=
 ⟨(h.into.below hb).more hb.size,(h.sizes.below hb).more hb.size,h.h1,h.h2⟩
theorem Dpo.ds {w:World}{B:Nat}{p:Dp}(h:Dpo w B p)(h1:p.x.into.length≤1000)(h2:p.x.sizes.length≤1000):DS w B p.A1 p.A2 p.x:=⟨h.into,h.sizes,h1,h2⟩
theorem Dlo.up {w w':World}{A:Option Addr}{L:List Dp}(h:Dlo w w.heap.size A L)(hb:Below w.heap.size w w'):Dlo w' w'.heap.size A L:=
 ⟨(h.seg.below hb).more hb.size,fun p hp=>by
  obtain⟨h1,h2,h3,h4⟩:=h.each p hp
  exact⟨(h1.below hb).more hb.size,(h2.below hb).more hb.size,h3,h4⟩⟩
theorem Dls.lo {w:World}{B:Nat}{A:Option Addr}{L:List Dp}(h:Dls w B A L):Dlo w B A L:=
 ⟨h.seg,fun p hp=>⟨(h.each p hp).1.into,(h.each p hp).1.sizes,(h.each p hp).2.1,(h.each p hp).2.2⟩⟩
theorem new_row (w : World) (t : TypeId) (old cells : Array Value) (hi : (Tryz.prog.info? t).map (·.size) = some cells.size) (ho : old.size = cells.size) (h1 : cells.all (·.oneCell') = true) :
  ∃w',(storeVar t ⟨w.heap.size,0,none⟩ (.agg cells)).run Tryz.prog (w.alloc (.cells old t (0,0)))=.ok () w'∧w'.heap[w.heap.size]?=some (.cells cells t (0,0))∧Below w.heap.size w w'∧w.heap.size<w'.heap.size:=by
 obtain⟨w2,st2,k2,g2⟩:=st_row (w.alloc (.cells old t (0,0))) w.heap.size t t old cells (heap_alloc_new w _) hi ho h1
 exact⟨w2,st2,k2,((Below.refl _ w).alloc (Nat.le_refl _) _).grown g2 (by simp) (by intro k e;cases e;exact Nat.le_refl _),(Array.getElem?_eq_some_iff.1 k2).1⟩
end Go.Proofs.YtcffonnijhhhiaaGreatDoor
