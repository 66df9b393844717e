/- Part U01 of the proof: Pc Pd Pe Pf Pg Ph Pi Pj Pk. -/
import Derived.Test.YtcffonnijhhhiaaGreatDoorU00
set_option linter.all false
set_option linter.unusedSimpArgs false
set_option linter.unusedVariables false
set_option linter.unusedSectionVars false
namespace Go.Proofs.Rt
theorem mem_grant {l:List (Int×Int)}{o b:Int}{y:Int×Int}(h:y∈grant l o b):y∈l∨y.1=o:=by
 induction l with
 |nil=>exact .inr (by rw[List.mem_singleton.1 h])
 |cons z l ih=>
  unfold grant at h
  split at h
  ·rcases List.mem_cons.1 h with rfl|h
   ·exact .inr rfl
   ·exact .inl h
  ·split at h
   ·split at h
    ·rcases List.mem_cons.1 h with rfl|h
     ·exact .inr rfl
     ·exact .inl (List.mem_cons_of_mem _ h)
    ·exact .inl (List.mem_cons_of_mem _ h)
   ·rcases List.mem_cons.1 h with rfl|h
    ·exact .inl (by simp)
    ·rcases ih h with h|h
     ·exact .inl (List.mem_cons_of_mem _ h)
     ·exact .inr h
theorem asc_grant {l : List (Int × Int)} {o b : Int} (h : asc (l.map (·.1))) : asc ((grant l o b).map (·.1)) := by
 induction l with
 |nil=>exact⟨fun b hb=>(by cases hb),trivial⟩
 |cons z l ih=>
  obtain⟨h1,h2⟩:=h
  have h1': ∀y∈l,z.1<y.1:=fun y hy=>h1 _ (List.mem_map_of_mem hy)
  unfold grant
  split
  ·rename_i hlt
   refine⟨fun b hb=> ?_,h1,h2⟩
   rcases List.mem_cons.1 hb with rfl|hb
   ·exact hlt
   ·exact Int.lt_trans hlt (h1 b hb)
  ·rename_i hlt
   split
   ·rename_i e
    subst e
    split
    ·exact⟨h1,h2⟩
    ·exact h2
   ·rename_i e
    refine⟨fun b hb=> ?_,ih h2⟩
    obtain⟨y,hy,rfl⟩:=List.mem_map.1 hb
    rcases mem_grant hy with hy|hy
    ·exact h1' y hy
    ·show z.1<y.1
     omega
theorem pos_grant {l : List (Int × Int)} {o b : Int} (h : asc (l.map (·.1))) (hp : ∀ p ∈ l, 0 < p.2) (hb : 0 < b ∨ 0 < heldBy l o) : ∀ p ∈ grant l o b, 0 < p.2 := by
 induction l with
 |nil=>
  rcases hb with hb|hb
  ·intro p hp
   rw[List.mem_singleton.1 hp]
   exact hb
  ·exact absurd hb (Int.lt_irrefl 0)
 |cons z l ih=>
  obtain⟨h1,h2⟩:=h
  have h1': ∀y∈l,z.1<y.1:=fun y hy=>h1 _ (List.mem_map_of_mem hy)
  unfold grant
  split
  ·rename_i hlt
   have h0:heldBy (z::l) o=0:=held_none (fun y hy=>by
    rcases List.mem_cons.1 hy with rfl|hy
    ·omega
    ·have:=h1' y hy;omega)
   intro p hq
   rcases List.mem_cons.1 hq with rfl|hq
   ·show 0<b
    omega
   ·exact hp p hq
  ·split
   ·split
    ·rename_i hz
     intro p hq
     rcases List.mem_cons.1 hq with rfl|hq
     ·exact hz
     ·exact hp p (List.mem_cons_of_mem _ hq)
    ·exact fun p hq=>hp p (List.mem_cons_of_mem _ hq)
   ·rename_i e
    intro p hq
    rcases List.mem_cons.1 hq with rfl|hq
    ·exact hp _ (by simp)
    ·exact ih h2 (fun p hp'=>hp p (List.mem_cons_of_mem _ hp')) (by rwa[held_cons,if_neg e]at hb) p hq
def sumP (l : List (Int × Int)) : Int := sumI (l.map (·.2))
theorem sumP_cons (z:Int×Int)(l:List (Int×Int)):sumP (z::l)=z.2+sumP l:=rfl
theorem sum_grant {l : List (Int × Int)} {o b : Int} (h : asc (l.map (·.1))) (hb : 0 ≤ heldBy l o + b) : sumP (grant l o b) = sumP l + b := by
 induction l with
 |nil=>
  show b+0=0+b
  omega
 |cons z l ih=>
  obtain⟨h1,h2⟩:=h
  unfold grant
  split
  ·rw[sumP_cons,sumP_cons]
   show b+_=_
   omega
  ·split
   ·rename_i e
    rw[held_cons,if_pos e]at hb
    split
    ·rw[sumP_cons,sumP_cons]
     show z.2+b+_=_
     omega
    ·rw[sumP_cons]
     omega
   ·rename_i e
    rw[held_cons,if_neg e]at hb
    rw[sumP_cons,sumP_cons,ih h2 hb]
    omega
theorem held_pos {l:List (Int×Int)}(hp: ∀p∈l,0<p.2)(o:Int):0≤heldBy l o:=by
 induction l with
 |nil=>exact Int.le_refl 0
 |cons z l ih=>
  rw[held_cons]
  split
  ·exact Int.le_of_lt (hp z (by simp))
  ·exact ih (fun p hq=>hp p (List.mem_cons_of_mem _ hq))
theorem held_le {l:List (Int×Int)}(hp: ∀p∈l,0<p.2)(o:Int):heldBy l o≤sumP l:=by
 induction l with
 |nil=>exact Int.le_refl 0
 |cons z l ih=>
  have hl: ∀p∈l,0<p.2:=fun p hq=>hp p (List.mem_cons_of_mem _ hq)
  have h0: ∀m:List (Int×Int),(∀p∈m,0<p.2)→0≤sumP m:=by
   intro m hm
   induction m with
   |nil=>exact Int.le_refl 0
   |cons w m ihm=>
    rw[sumP_cons]
    have:=hm w (by simp)
    have:=ihm (fun p hq=>hm p (List.mem_cons_of_mem _ hq))
    omega
  have:=h0 l hl
  have:=hp z (by simp)
  have:=ih hl
  rw[held_cons,sumP_cons]
  split<;>omega
theorem held_ext {l m : List (Int × Int)} (hl : asc (l.map (·.1))) (hm : asc (m.map (·.1))) (pl : ∀ p ∈ l, 0 < p.2) (pm : ∀ p ∈ m, 0 < p.2) (h : ∀ o, heldBy l o = heldBy m o) : l = m := by
 induction l generalizing m with
 |nil=>
  cases m with
  |nil=>rfl
  |cons y m=>
   have:=h y.1
   rw[held_cons,if_pos rfl]at this
   have hy:=pm y (by simp)
   have e:heldBy [] y.1=0:=rfl
   omega
 |cons x l ih=>
  cases m with
  |nil=>
   have:=h x.1
   rw[held_cons,if_pos rfl]at this
   have hx:=pl x (by simp)
   have e:heldBy [] x.1=0:=rfl
   omega
  |cons y m=>
   have l1: ∀z∈l,x.1<z.1:=fun z hz=>hl.1 _ (List.mem_map_of_mem hz)
   have m1: ∀z∈m,y.1<z.1:=fun z hz=>hm.1 _ (List.mem_map_of_mem hz)
   have hx:=pl x (by simp)
   have hy:=pm y (by simp)
   have e1:x.1=y.1:=by
    have a:=h x.1
    have b:=h y.1
    rw[held_cons,if_pos rfl]at a
    rw[held_cons y,if_pos rfl]at b
    rcases Int.lt_trichotomy x.1 y.1 with c|c|c
    ·rw[held_none (l:=y::m) (fun z hz=>by
      rcases List.mem_cons.1 hz with rfl|hz
      ·omega
      ·have:=m1 z hz;omega)]at a
     omega
    ·exact c
    ·rw[held_none (l:=x::l) (fun z hz=>by
      rcases List.mem_cons.1 hz with rfl|hz
      ·omega
      ·have:=l1 z hz;omega)]at b
     omega
   have e2:x.2=y.2:=by
    have a:=h x.1
    rwa[held_cons,if_pos rfl,held_cons,if_pos e1.symm]at a
   have e:x=y:=Prod.ext e1 e2
   subst e
   congr 1
   refine ih hl.2 hm.2 (fun p hq=>pl p (List.mem_cons_of_mem _ hq)) (fun p hq=>pm p (List.mem_cons_of_mem _ hq)) (fun o=> ?_)
   have:=h o
   rw[held_cons,held_cons]at this
   by_cases hxo:x.1=o
   ·subst hxo
    rw[held_none (l:=l) (fun z hz=>by have:=l1 z hz;omega),held_none (l:=m) (fun z hz=>by have:=m1 z hz;omega)]
   ·rwa[if_neg hxo,if_neg hxo]at this
structure Held (l:List (Int×Int)):Prop where
 asc : asc (l.map (·.1))
 pos: ∀p∈l,0<p.2
 sum:sumP l=5040
theorem Held.one (o:Int):Held [(o,5040)]:=⟨⟨fun b hb=>(by cases hb),trivial⟩,fun p hp=>by rw[List.mem_singleton.1 hp];exact(by decide:(0:Int)<5040),rfl⟩
theorem Held.grant {l:List (Int×Int)}(h:Held l){a b n:Int}(hn:0<n)(ha:n≤heldBy l a):Held (grant (Rt.grant l a (-n)) b n):=by
 have p1:=pos_grant (b:= -n) h.asc h.pos (.inr (show 0<heldBy l a by omega))
 have a1:=asc_grant (o:=a) (b:= -n) h.asc
 have s1:=sum_grant (o:=a) (b:= -n) h.asc (by omega)
 have h0:=held_pos p1 b
 refine⟨asc_grant a1,pos_grant a1 p1 (.inl hn),?_⟩
 rw[sum_grant a1 (by omega),s1,h.sum]
 omega
theorem Held.of_grant {l:List (Int×Int)}(h:Held l){a b n:Int}(hn:0<n)(ha:n≤heldBy l a)(hab:a≠b)(q:Int):
  heldBy (Rt.grant (Rt.grant l a (-n)) b n) q=if q=b then heldBy l b+n else if q=a then heldBy l a-n else heldBy l q:=by
 have p1:=pos_grant (b:= -n) h.asc h.pos (.inr (show 0<heldBy l a by omega))
 have a1:=asc_grant (o:=a) (b:= -n) h.asc
 have hq: ∀q,heldBy (Rt.grant l a (-n)) q=_:=fun q=>held_grant (q:=q) h.asc (show 0≤heldBy l a+ -n by omega)
 have h0:=held_pos p1 b
 rw[held_grant a1 (by omega),hq,hq,if_neg hab]
 by_cases e:q=b
 ·rw[if_pos e.symm,if_pos e]
 ·rw[if_neg (fun h=>e h.symm),if_neg e]
  by_cases e2:q=a
  ·rw[if_pos e2.symm,if_pos e2]
   omega
  ·rw[if_neg (fun h=>e2 h.symm),if_neg e2]
end Go.Proofs.Rt
namespace Go.Proofs.Rt
theorem lotOf_some {l:List Lot}{n:Int}{x:Lot}(h:lotOf l n=some x):x∈l∧x.number=n:=by
 unfold lotOf at h
 exact⟨List.mem_of_find?_eq_some h,by simpa using List.find?_some h⟩
theorem lotOf_none {l:List Lot}{n:Int}:lotOf l n=none↔ ∀y∈l,y.number≠n:=by
 unfold lotOf
 rw[List.find?_eq_none]
 exact⟨fun h y hy=>by simpa using h y hy,fun h y hy=>by simpa using h y hy⟩
theorem lotOf_mem {l : List Lot} {x : Lot} (h : asc (l.map (·.number))) (hx : x ∈ l) : lotOf l x.number = some x := by
 induction l with
 |nil=>cases hx
 |cons y l ih=>
  obtain⟨h1,h2⟩:=h
  unfold lotOf
  rw[List.find?_cons]
  rcases List.mem_cons.1 hx with rfl|hx
  ·simp
  ·have:y.number<x.number:=h1 _ (List.mem_map_of_mem hx)
   simp only[beq_eq_false_iff_ne.2 (show y.number≠x.number by omega)]
   exact ih h2 hx
structure Inv (s:St):Prop where
 lots : asc (s.roll.lots.map (·.number))
 held: ∀x∈s.roll.lots,Held x.held∧1≤x.size∧x.size≤10000000000∧x.number∈s.used
 eases:asc2 (s.roll.eases.map Ease.key)
 eok: ∀e∈s.roll.eases,e.over≠e.of∧(lotOf s.roll.lots e.over).isSome∧(lotOf s.roll.lots e.of).isSome
 stints:asc2 (s.roll.stints.map Stint.key)
 sok: ∀e∈s.roll.stints,(lotOf s.roll.lots e.lot).isSome∧1≤e.beasts∧e.beasts≤1000
theorem Inv.begun :Inv St.begun:=⟨trivial,fun x hx=>(by cases hx),trivial,fun x hx=>(by cases hx),trivial,fun x hx=>(by cases hx)⟩
theorem inR_iff {n a b:Int}:inR n a b=true↔a≤n∧n≤b:=by unfold inR;simp
theorem Inv.unused {s:St}(h:Inv s){n:Int}(hn:n∉s.used): ∀y∈s.roll.lots,y.number≠n:=
 fun y hy e=>hn (e▸(h.held y hy).2.2.2)
theorem Inv.enter {s:St}(h:Inv s){n z o:Int}(hn:n∉s.used)(h1:1≤z)(h2:z≤10000000000):Inv ⟨{s.roll with lots:=put s.roll.lots ⟨n,z,[(o,5040)]⟩},s.used++[n]⟩:=by
 have hu:=h.unused hn
 have ho: ∀m,(lotOf s.roll.lots m).isSome→(lotOf (put s.roll.lots ⟨n,z,[(o,5040)]⟩) m).isSome:=by
  intro m hm
  rw[lotOf_put hu]
  split
  ·rfl
  ·exact hm
 refine⟨asc_put h.lots hu,fun x hx=> ?_,h.eases,fun e he=>⟨(h.eok e he).1,ho _ (h.eok e he).2.1,ho _ (h.eok e he).2.2⟩,h.stints,fun e he=>⟨ho _ (h.sok e he).1,(h.sok e he).2⟩⟩
 rcases mem_put.1 hx with rfl|hx
 ·exact⟨Held.one o,h1,h2,by simp⟩
 ·obtain⟨a,b,c,d⟩:=h.held x hx
  exact⟨a,b,c,by simp[d]⟩
theorem Inv.reheld {s:St}(h:Inv s){n:Int}{x:Lot}{l:List (Int×Int)}(hx:lotOf s.roll.lots n=some x)(hl:Held l):Inv ⟨{s.roll with lots:=put (gone s.roll.lots n) ⟨n,x.size,l⟩},s.used⟩:=by
 have hu: ∀y∈gone s.roll.lots n,y.number≠n:=fun y hy=>by simpa [gone]using (List.mem_filter.1 hy).2
 have ho: ∀m,(lotOf s.roll.lots m).isSome→(lotOf (put (gone s.roll.lots n) ⟨n,x.size,l⟩) m).isSome:=by
  intro m hm
  rw[lotOf_put hu,lotOf_gone]
  by_cases e:n=m
  ·rw[if_pos e];rfl
  ·rw[if_neg e,if_neg e];exact hm
 obtain⟨mx,rfl⟩:=lotOf_some hx
 obtain⟨_,b,c,d⟩:=h.held x mx
 refine⟨asc_put (asc_gone h.lots) hu,fun y hy=> ?_,h.eases,fun e he=>⟨(h.eok e he).1,ho _ (h.eok e he).2.1,ho _ (h.eok e he).2.2⟩,h.stints,fun e he=>⟨ho _ (h.sok e he).1,(h.sok e he).2⟩⟩
 rcases mem_put.1 hy with rfl|hy
 ·exact⟨hl,b,c,d⟩
 ·exact h.held y (List.mem_filter.1 hy).1
theorem mem_putEase {l:List Ease}{x y:Ease}(h:y∈putEase l x):y.key=x.key∨y∈l:=by
 unfold putEase at h
 split at h
 ·obtain⟨z,hz,rfl⟩:=List.mem_map.1 h
  by_cases e:z.over=x.over∧z.of=x.of
  ·rw[if_pos e]
   exact .inl (Prod.ext e.1 e.2)
  ·rw[if_neg e]
   exact .inr hz
 ·rw[insEase_eq]at h
  rcases(mem_insK Ease.key).1 h with rfl|h
  ·exact .inl rfl
  ·exact .inr h
theorem Inv.way {s:St}(h:Inv s){x:Ease}(h0:x.over≠x.of)(h1:(lotOf s.roll.lots x.over).isSome)(h2:(lotOf s.roll.lots x.of).isSome):Inv ⟨{s.roll with eases:=putEase s.roll.eases x},s.used⟩:=by
 refine⟨h.lots,h.held,asc_putEase h.eases,fun e he=> ?_,h.stints,h.sok⟩
 rcases mem_putEase he with hk|he
 ·have a : e.over = x.over := congrArg (·.1) hk
  have b : e.of = x.of := congrArg (·.2) hk
  rw[a,b]
  exact⟨h0,h1,h2⟩
 ·exact h.eok e he
theorem Inv.lessEases {s:St}(h:Inv s)(p:Ease→Bool):Inv ⟨{s.roll with eases:=s.roll.eases.filter p},s.used⟩:=
 ⟨h.lots,h.held,asc_filterK Ease.key h.eases,fun e he=>h.eok e (List.mem_filter.1 he).1,h.stints,h.sok⟩
theorem Inv.lessStints {s:St}(h:Inv s)(p:Stint→Bool):Inv ⟨{s.roll with stints:=s.roll.stints.filter p},s.used⟩:=
 ⟨h.lots,h.held,h.eases,h.eok,asc_filterK Stint.key h.stints,fun e he=>h.sok e (List.mem_filter.1 he).1⟩
theorem Inv.stint {s:St}(h:Inv s){x:Stint}(hn:stintOf s.roll.stints x.lot x.owner=none)(h1:(lotOf s.roll.lots x.lot).isSome)(h2:1≤x.beasts)(h3:x.beasts≤1000):Inv ⟨{s.roll with stints:=putStint s.roll.stints x},s.used⟩:=by
 rw[stintOf_eq]at hn
 rw[putStint_eq]
 refine⟨h.lots,h.held,h.eases,h.eok,asc_insK Stint.key h.stints (fun y hy e=> ?_),fun e he=> ?_⟩
 ·have:=findK_mem Stint.key h.stints hy
  rw[e]at this
  rw[show(x.lot,x.owner)=x.key from rfl,this]at hn
  cases hn
 ·rcases(mem_insK Stint.key).1 he with rfl|he
  ·exact⟨h1,h2,h3⟩
  ·exact h.sok e he
end Go.Proofs.Rt
namespace Go.Proofs.Rt
section
variable {α : Type} (key : α → Int × Int)
theorem asc2_pw {l:List α}(h:asc2 (l.map key)):l.Pairwise fun a b=>before (key a) (key b):=by
 induction l with
 |nil=>exact .nil
 |cons y l ih=>exact .cons (fun b hb=>h.1 _ (List.mem_map_of_mem hb)) (ih h.2)
theorem fold_ins {L acc:List α}(h:asc2 (acc.map key))(hL:L.Pairwise fun a b=>key a≠key b)(hd: ∀y∈acc,∀x∈L,key y≠key x):
  asc2 ((L.foldl (insK key) acc).map key)∧(∀k,findK key (L.foldl (insK key) acc) k=(findK key L k).or (findK key acc k))∧ ∀y,y∈L.foldl (insK key) acc↔y∈L∨y∈acc:=by
 induction L generalizing acc with
 |nil=>exact⟨h,fun k=>rfl,fun y=>by simp⟩
 |cons x L ih=>
  obtain⟨h1,h2⟩:=List.pairwise_cons.1 hL
  have hx: ∀y∈acc,key y≠key x:=fun y hy=>hd y hy x (by simp)
  obtain⟨a,b,c⟩:=ih (acc:=insK key acc x) (asc_insK key h hx) h2 (fun y hy z hz=>by
   rcases(mem_insK key).1 hy with rfl|hy
   ·exact h1 z hz
   ·exact hd y hy z (by simp[hz]))
  refine⟨a,fun k=> ?_,fun y=> ?_⟩
  ·rw[List.foldl_cons,b,findK_ins key acc x k hx,findK_cons]
   by_cases e:key x=k
   ·have:findK key L k=none:=by
     unfold findK
     exact List.find?_eq_none.2 (fun z hz=>by simpa using fun e2=>h1 z hz (e.trans e2.symm))
    rw[if_pos e,if_pos e,this]
    rfl
   ·rw[if_neg e,if_neg e]
  ·rw[List.foldl_cons,c,mem_insK key,List.mem_cons]
   constructor
   ·rintro(h|h|h)<;>simp[h]
   ·rintro((h|h)|h)<;>simp[h]
end
def dealIn (L:List Ease)(k:Int×Int)(o:Option Int):Option Int:=L.foldl (fun o e=>if e.key=k then some (lesser o e.deal)else o) o
theorem fold_putEase (L acc : List Ease) (k : Int × Int) : (findK Ease.key (L.foldl putEase acc) k).map (·.deal) = dealIn L k ((findK Ease.key acc k).map (·.deal)) := by
 induction L generalizing acc with
 |nil=>rfl
 |cons x L ih=>
  rw[List.foldl_cons,ih,findK_putEase]
  unfold dealIn
  rw[List.foldl_cons]
  by_cases e:x.key=k
  ·subst e
   rw[if_pos rfl,if_pos rfl]
   rfl
  ·rw[if_neg e,if_neg e]
theorem asc_foldEase (L acc:List Ease)(h:asc2 (acc.map Ease.key)):asc2 ((L.foldl putEase acc).map Ease.key):=by
 induction L generalizing acc with
 |nil=>exact h
 |cons x L ih=>exact ih _ (asc_putEase h)
theorem mem_foldEase {L acc:List Ease}{y:Ease}(h:y∈L.foldl putEase acc):(∃x∈L,y.key=x.key)∨y∈acc:=by
 induction L generalizing acc with
 |nil=>exact .inr h
 |cons x L ih=>
  rcases ih h with ⟨z,hz,e⟩|h
  ·exact .inl ⟨z,by simp[hz],e⟩
  ·rcases mem_putEase h with e|h
   ·exact .inl ⟨x,by simp,e⟩
   ·exact .inr h
theorem fold_put (L : List (Int × Int)) (h : List (Int × Int)) (acc : List Lot) (ha : asc (acc.map (·.number))) (hn : (L.map (·.1)).Nodup) (hd : ∀ p ∈ L, ∀ y ∈ acc, y.number ≠ p.1) :
  asc ((L.foldl (fun l p => put l ⟨p.1, p.2, h⟩) acc).map (·.number)) ∧ (∀ n, lotOf (L.foldl (fun l p => put l ⟨p.1, p.2, h⟩) acc) n = ((L.find? (fun p => p.1 == n)).map fun p => (⟨p.1, p.2, h⟩ : Lot)).or (lotOf acc n)) ∧
  ∀y,y∈L.foldl (fun l p=>put l ⟨p.1,p.2,h⟩) acc↔(∃p∈L,y=⟨p.1,p.2,h⟩)∨y∈acc:=by
 induction L generalizing acc with
 |nil=>exact⟨ha,fun n=>rfl,fun y=>by simp⟩
 |cons p L ih=>
  obtain⟨h1,h2⟩:=List.nodup_cons.1 hn
  have h1 : p.1 ∉ L.map (·.1) := h1
  have hp: ∀y∈acc,y.number≠p.1:=hd p (by simp)
  obtain⟨a,b,c⟩:=ih (put acc ⟨p.1,p.2,h⟩) (asc_put ha hp) h2 (fun q hq y hy=>by
   rcases mem_put.1 hy with rfl|hy
   ·intro e
    have e':p.1=q.1:=e
    exact h1 (by rw[e'];exact List.mem_map_of_mem hq)
   ·exact hd q (by simp[hq]) y hy)
  refine⟨a,fun n=> ?_,fun y=> ?_⟩
  ·rw[List.foldl_cons,b,lotOf_put hp,List.find?_cons]
   by_cases e:p.1=n
   ·have:L.find? (fun p=>p.1==n)=none:=List.find?_eq_none.2 (fun q hq=>by
     have:q.1≠n:=fun e2=>h1 (by rw[e,←e2];exact List.mem_map_of_mem hq)
     simpa using this)
    rw[this]
    simp[e]
   ·simp only[beq_eq_false_iff_ne.2 e,if_neg e]
  ·rw[List.foldl_cons,c,mem_put]
   constructor
   ·rintro(⟨q,hq,e⟩|e|hy)
    ·exact .inl ⟨q,by simp[hq],e⟩
    ·exact .inl ⟨p,by simp,e⟩
    ·exact .inr hy
   ·rintro(⟨q,hq,e⟩|hy)
    ·rcases List.mem_cons.1 hq with rfl|hq
     ·exact .inr (.inl e)
     ·exact .inl ⟨q,hq,e⟩
    ·exact .inr (.inr hy)
theorem fold_gone (L : List Int) (acc : List Lot) (ha : asc (acc.map (·.number))) :
  asc ((L.foldl gone acc).map (·.number)) ∧ (∀ n, lotOf (L.foldl gone acc) n = if n ∈ L then none else lotOf acc n) ∧ ∀ y, y ∈ L.foldl gone acc ↔ y ∈ acc ∧ y.number ∉ L := by
 induction L generalizing acc with
 |nil=>exact⟨ha,fun n=>by simp,fun y=>by simp⟩
 |cons m L ih=>
  obtain⟨a,b,c⟩:=ih (gone acc m) (asc_gone ha)
  refine⟨a,fun n=> ?_,fun y=> ?_⟩
  ·rw[List.foldl_cons,b,lotOf_gone]
   by_cases e:m=n
   ·subst e
    simp
   ·by_cases e2:n∈L
    ·simp[e2]
    ·rw[if_neg e2,if_neg e,if_neg (by simpa using ⟨fun h=>e h.symm,e2⟩)]
  ·rw[List.foldl_cons,c]
   unfold gone
   rw[List.mem_filter]
   simp only[List.mem_cons,not_or]
   constructor
   ·rintro⟨⟨h1,h2⟩,h3⟩
    exact⟨h1,by simpa using h2,h3⟩
   ·rintro⟨h1,h2,h3⟩
    exact⟨⟨h1,by simpa using h2⟩,h3⟩
end Go.Proofs.Rt
namespace Go.Proofs.Rt
theorem foldl_flat {α β γ:Type}(f:α→List β)(g:γ→β→γ)(l:List α)(a:γ):(l.flatMap f).foldl g a=l.foldl (fun a x=>(f x).foldl g a) a:=by
 induction l generalizing a with
 |nil=>rfl
 |cons x l ih=>rw[List.flatMap_cons,List.foldl_append,List.foldl_cons,ih]
def divE (n:Int)(into:List Int)(e:Ease):List Ease:=
 if e.over≠n∧e.of≠n then [e]else into.map fun m=>if e.over=n then {e with over:=m} else {e with of:=m}
def divS (n:Int)(into:List Int)(e:Stint):List Stint:=if e.lot≠n then [e]else into.map fun m=> {e with lot:=m}
theorem divide_eases (r:Roll)(x:Deal):(divide r x).eases=(r.eases.flatMap (divE x.lot x.into)).foldl putEase []:=by
 rw[foldl_flat]
 dsimp only[divide]
 congr 1
 funext l e
 unfold divE
 split
 ·rfl
 ·rw[List.foldl_map]
theorem divide_stints (r:Roll)(x:Deal):(divide r x).stints=(r.stints.flatMap (divS x.lot x.into)).foldl (insK Stint.key) []:=by
 rw[foldl_flat]
 dsimp only[divide]
 congr 1
 funext l e
 unfold divS
 split
 ·show putStint l e=_
  rw[putStint_eq]
  rfl
 ·rw[List.foldl_map]
  congr 1
  funext l n
  exact putStint_eq _ _
theorem Inv.number {s:St}(h:Inv s){n:Int}(hn:(lotOf s.roll.lots n).isSome):n∈s.used:=by
 obtain⟨x,hx⟩:=Option.isSome_iff_exists.1 hn
 obtain⟨mx,rfl⟩:=lotOf_some hx
 exact(h.held x mx).2.2.2
theorem Inv.divide {s:St}(h:Inv s){x:Deal}{o:Lot}(ho:lotOf s.roll.lots x.lot=some o)(hn:x.into.Nodup)(hu: ∀n∈x.into,n∉s.used)(hl:x.sizes.length=x.into.length)
  (hz: ∀z∈x.sizes,1≤z∧z≤10000000000):Inv ⟨Rt.divide s.roll x,s.used++x.into⟩:=by
 have hfst : (x.into.zip x.sizes).map (·.1) = x.into := List.map_fst_zip (by omega)
 have hin: ∀p∈x.into.zip x.sizes,p.1∈x.into∧p.2∈x.sizes:=fun p hp=>⟨(List.of_mem_zip (a:=p.1) (b:=p.2) hp).1,(List.of_mem_zip (a:=p.1) (b:=p.2) hp).2⟩
 have hlu:x.lot∈s.used:=h.number (by rw[ho];rfl)
 have hg:=fold_put (x.into.zip x.sizes) (heldOf s.roll.lots x.lot) (gone s.roll.lots x.lot) (asc_gone h.lots) (by rw[hfst];exact hn) (fun p hp y hy e=>by
  have:=(h.held y (List.mem_filter.1 hy).1).2.2.2
  rw[e]at this
  exact hu _ (hin p hp).1 this)
 obtain⟨ga,gb,gc⟩:=hg
 have hh:heldOf s.roll.lots x.lot=o.held:=by unfold heldOf;rw[ho];rfl
 have hod:=(h.held o (lotOf_some ho).1).1
 have hlots:(Rt.divide s.roll x).lots=(x.into.zip x.sizes).foldl (fun l p=>put l ⟨p.1,p.2,heldOf s.roll.lots x.lot⟩) (gone s.roll.lots x.lot):=rfl
 have hold: ∀n,n≠x.lot→(lotOf s.roll.lots n).isSome→(lotOf (Rt.divide s.roll x).lots n).isSome:=by
  intro n hne hs
  rw[hlots,gb,lotOf_gone,if_neg (fun e=>hne e.symm)]
  cases (x.into.zip x.sizes).find? (fun p=>p.1==n)<;>simp[hs]
 have hnew: ∀n∈x.into,(lotOf (Rt.divide s.roll x).lots n).isSome:=by
  intro n hm
  rw[hlots,gb]
  have:(x.into.zip x.sizes).find? (fun p=>p.1==n)≠none:=by
   intro e
   rw[←hfst]at hm
   obtain⟨p,hp,rfl⟩:=List.mem_map.1 hm
   have:=List.find?_eq_none.1 e p hp
   simp at this
  cases hf:(x.into.zip x.sizes).find? (fun p=>p.1==n)with
  |none=>exact absurd hf this
  |some p=>rfl
 refine ⟨by show asc ((Rt.divide s.roll x).lots.map (·.number)); rw [hlots]; exact ga, fun y hy => ?_, ?_, fun e he => ?_, ?_, fun e he => ?_⟩
 ·have hy:y∈(Rt.divide s.roll x).lots:=hy
  rw[hlots]at hy
  rcases(gc y).1 hy with ⟨p,hp,rfl⟩|hy
  ·obtain⟨a,b⟩:=hz _ (hin p hp).2
   exact⟨hh▸hod,a,b,List.mem_append.2 (.inr (hin p hp).1)⟩
  ·obtain⟨a,b,c,d⟩:=h.held y (List.mem_filter.1 hy).1
   exact⟨a,b,c,List.mem_append.2 (.inl d)⟩
 ·show asc2 ((Rt.divide s.roll x).eases.map Ease.key)
  rw[divide_eases]
  exact asc_foldEase _ _ trivial
 ·have he:e∈(Rt.divide s.roll x).eases:=he
  rw[divide_eases]at he
  rcases mem_foldEase he with ⟨z,hz',hk⟩|he
  ·have k1 : e.over = z.over := congrArg (·.1) hk
   have k2 : e.of = z.of := congrArg (·.2) hk
   rw[k1,k2]
   obtain⟨w,hw,hzw⟩:=List.mem_flatMap.1 hz'
   obtain⟨w1,w2,w3⟩:=h.eok w hw
   unfold divE at hzw
   split at hzw
   ·rename_i hc
    rw[List.mem_singleton.1 hzw]
    exact⟨w1,hold _ hc.1 w2,hold _ hc.2 w3⟩
   ·rename_i hc
    obtain⟨n,hn',rfl⟩:=List.mem_map.1 hzw
    by_cases hov:w.over=x.lot
    ·rw[if_pos hov]
     have:w.of≠x.lot:=fun e=>w1 (hov.trans e.symm)
     exact⟨fun e=>hu n hn' (show n∈s.used from(show n=w.of from e)▸h.number w3),hnew n hn',hold _ this w3⟩
    ·rw[if_neg hov]
     exact⟨fun e=>hu n hn' (show n∈s.used from(show w.over=n from e)▸h.number w2),hold _ hov w2,hnew n hn'⟩
  ·cases he
 all_goals
  have hpw:(s.roll.stints.flatMap (divS x.lot x.into)).Pairwise fun a b=>Stint.key a≠Stint.key b:=by
   rw[List.pairwise_flatMap]
   refine⟨fun a ha=> ?_,(asc2_pw Stint.key h.stints).imp_of_mem fun {a b} ha hb hab=> ?_⟩
   ·unfold divS
    split
    ·exact List.pairwise_singleton _ _
    ·rw[List.pairwise_map]
     exact hn.imp fun {m n} hmn e => hmn (congrArg (·.1) e)
   ·intro p hp q hq e
    have e1 : p.lot = q.lot := congrArg (·.1) e
    have e2 : p.owner = q.owner := congrArg (·.2) e
    have na:=h.number (h.sok a ha).1
    have nb:=h.number (h.sok b hb).1
    unfold divS at hp hq
    split at hp
    ·have hp:=List.mem_singleton.1 hp
     subst hp
     split at hq
     ·have hq:=List.mem_singleton.1 hq
      subst hq
      exact hab.ne (Prod.ext e1 e2)
     ·obtain⟨n,hn',rfl⟩:=List.mem_map.1 hq
      exact hu n hn' ((show p.lot=n from e1)▸na)
    ·rename_i ha'
     obtain⟨m,hm',rfl⟩:=List.mem_map.1 hp
     split at hq
     ·have hq:=List.mem_singleton.1 hq
      subst hq
      exact hu m hm' ((show m=q.lot from e1)▸nb)
     ·rename_i hb'
      obtain⟨n,hn',rfl⟩:=List.mem_map.1 hq
      have ea:a.lot=x.lot:=Classical.not_not.1 ha'
      have eb:b.lot=x.lot:=Classical.not_not.1 hb'
      exact hab.ne (Prod.ext (ea.trans eb.symm) e2)
  obtain⟨sa,_,sc⟩:=fold_ins Stint.key (acc:=[]) trivial hpw (fun y hy=>by cases hy)
 ·show asc2 ((Rt.divide s.roll x).stints.map Stint.key)
  rw[divide_stints]
  exact sa
 ·have he:e∈(Rt.divide s.roll x).stints:=he
  rw[divide_stints]at he
  rcases(sc e).1 he with he|he
  ·obtain⟨w,hw,hzw⟩:=List.mem_flatMap.1 he
   obtain⟨w1,w2⟩:=h.sok w hw
   unfold divS at hzw
   split at hzw
   ·rename_i hc
    rw[List.mem_singleton.1 hzw]
    exact⟨hold _ hc w1,w2⟩
   ·obtain⟨n,hn',rfl⟩:=List.mem_map.1 hzw
    exact⟨hnew n hn',w2⟩
  ·cases he
end Go.Proofs.Rt
namespace Go.Proofs.Rt
def mrgE (n:Int)(into:List Int)(e:Ease):List Ease:=
 if into.contains e.over&&into.contains e.of then []else [⟨if into.contains e.over then n else e.over,if into.contains e.of then n else e.of,e.deal⟩]
def mrgS (n f:Int)(into:List Int)(e:Stint):List Stint:=if e.lot=f then [{e with lot:=n}]else if into.contains e.lot then []else [e]
theorem merge_eases (r:Roll)(x:Deal):(merge r x).eases=(r.eases.flatMap (mrgE x.lot x.into)).foldl putEase []:=by
 rw[foldl_flat]
 dsimp only[merge]
 congr 1
 funext l e
 unfold mrgE
 split<;>rfl
theorem merge_stints (r:Roll)(x:Deal):(merge r x).stints=(r.stints.flatMap (mrgS x.lot (x.into.headD 0) x.into)).foldl (insK Stint.key) []:=by
 rw[foldl_flat]
 dsimp only[merge]
 congr 1
 funext l e
 unfold mrgS
 split
 ·rw[putStint_eq]
  rfl
 ·split
  ·rfl
  ·rw[putStint_eq]
   rfl
theorem Inv.size {s:St}(h:Inv s){n:Int}(hn:(lotOf s.roll.lots n).isSome):1≤sizeOf s.roll.lots n:=by
 obtain⟨x,hx⟩:=Option.isSome_iff_exists.1 hn
 unfold sizeOf
 rw[hx]
 exact(h.held x (lotOf_some hx).1).2.1
theorem sum_pos {l:List Int}(h: ∀z∈l,1≤z):(l.length:Int)≤sumI l:=by
 induction l with
 |nil=>exact Int.le_refl 0
 |cons a l ih=>
  have:=h a (by simp)
  have:=ih (fun z hz=>h z (by simp[hz]))
  unfold sumI
  rw[List.length_cons]
  omega
theorem Inv.merge {s:St}(h:Inv s){x:Deal}(hne:x.into≠ [])(hi: ∀n∈x.into,(lotOf s.roll.lots n).isSome)(hu:x.lot∉s.used)(hz:sumI (x.into.map (sizeOf s.roll.lots))≤10000000000):
  Inv ⟨Rt.merge s.roll x,s.used++[x.lot]⟩:=by
 obtain⟨f,hf⟩: ∃f,x.into.headD 0=f:=⟨_,rfl⟩
 have hfm:f∈x.into:=by
  cases hx:x.into with
  |nil=>exact absurd hx hne
  |cons a l=>rw[←hf,hx];simp
 obtain⟨o,ho⟩:=Option.isSome_iff_exists.1 (hi f hfm)
 have hh:heldOf s.roll.lots f=o.held:=by unfold heldOf;rw[ho];rfl
 have hod:=(h.held o (lotOf_some ho).1).1
 obtain⟨ga,gb,gc⟩:=fold_gone x.into s.roll.lots h.lots
 have hlots:(Rt.merge s.roll x).lots=put (x.into.foldl gone s.roll.lots) ⟨x.lot,sumI (x.into.map (sizeOf s.roll.lots)),heldOf s.roll.lots f⟩:=by rw[←hf];rfl
 have hun: ∀y∈x.into.foldl gone s.roll.lots,y.number≠x.lot:=fun y hy=>h.unused hu y ((gc y).1 hy).1
 have hold: ∀n,n∉x.into→(lotOf s.roll.lots n).isSome→(lotOf (Rt.merge s.roll x).lots n).isSome:=by
  intro n hn hs
  rw[hlots,lotOf_put hun,gb,if_neg hn]
  split
  ·rfl
  ·exact hs
 have hnew:(lotOf (Rt.merge s.roll x).lots x.lot).isSome:=by
  rw[hlots,lotOf_put hun,if_pos rfl]
  rfl
 have hsz:1≤sumI (x.into.map (sizeOf s.roll.lots)):=by
  have:=sum_pos (l:=x.into.map (sizeOf s.roll.lots)) (fun z hz=>by
   obtain⟨n,hn,rfl⟩:=List.mem_map.1 hz
   exact h.size (hi n hn))
  have:=List.length_pos_iff.2 hne
  rw[List.length_map]at*
  omega
 have hpw:(s.roll.stints.flatMap (mrgS x.lot f x.into)).Pairwise fun a b=>Stint.key a≠Stint.key b:=by
  rw[List.pairwise_flatMap]
  refine⟨fun a ha=> ?_,(asc2_pw Stint.key h.stints).imp_of_mem fun {a b} ha hb hab=> ?_⟩
  ·unfold mrgS
   split
   ·exact List.pairwise_singleton _ _
   ·split
    ·exact .nil
    ·exact List.pairwise_singleton _ _
  ·intro p hp q hq e
   have e1 : p.lot = q.lot := congrArg (·.1) e
   have e2 : p.owner = q.owner := congrArg (·.2) e
   have na:=h.number (h.sok a ha).1
   have nb:=h.number (h.sok b hb).1
   unfold mrgS at hp hq
   split at hp
   ·rename_i ha'
    have hp:=List.mem_singleton.1 hp
    subst hp
    split at hq
    ·rename_i hb'
     have hq:=List.mem_singleton.1 hq
     subst hq
     exact hab.ne (Prod.ext (ha'.trans hb'.symm) e2)
    ·split at hq
     ·cases hq
     ·have hq:=List.mem_singleton.1 hq
      subst hq
      exact hu ((show x.lot=q.lot from e1)▸nb)
   ·split at hp
    ·cases hp
    ·have hp:=List.mem_singleton.1 hp
     subst hp
     split at hq
     ·have hq:=List.mem_singleton.1 hq
      subst hq
      exact hu ((show p.lot=x.lot from e1)▸na)
     ·split at hq
      ·cases hq
      ·have hq:=List.mem_singleton.1 hq
       subst hq
       exact hab.ne (Prod.ext e1 e2)
 obtain⟨sa,_,sc⟩:=fold_ins Stint.key (acc:=[]) trivial hpw (fun y hy=>by cases hy)
 have hst:=merge_stints s.roll x
 rw[hf]at hst
 refine ⟨by show asc ((Rt.merge s.roll x).lots.map (·.number)); rw [hlots]; exact asc_put ga hun, fun y hy => ?_, ?_, fun e he => ?_, ?_, fun e he => ?_⟩
 ·have hy:y∈(Rt.merge s.roll x).lots:=hy
  rw[hlots]at hy
  rcases mem_put.1 hy with rfl|hy
  ·exact⟨hh▸hod,hsz,hz,by simp⟩
  ·obtain⟨a,b,c,d⟩:=h.held y ((gc y).1 hy).1
   exact⟨a,b,c,by simp[d]⟩
 ·show asc2 ((Rt.merge s.roll x).eases.map Ease.key)
  rw[merge_eases]
  exact asc_foldEase _ _ trivial
 ·have he:e∈(Rt.merge s.roll x).eases:=he
  rw[merge_eases]at he
  rcases mem_foldEase he with ⟨z,hz',hk⟩|he
  ·have k1 : e.over = z.over := congrArg (·.1) hk
   have k2 : e.of = z.of := congrArg (·.2) hk
   rw[k1,k2]
   obtain⟨w,hw,hzw⟩:=List.mem_flatMap.1 hz'
   obtain⟨w1,w2,w3⟩:=h.eok w hw
   have n1:w.over≠x.lot:=fun e=>hu (e▸h.number w2)
   have n2:w.of≠x.lot:=fun e=>hu (e▸h.number w3)
   unfold mrgE at hzw
   split at hzw
   ·cases hzw
   ·rename_i hc
    rw[List.mem_singleton.1 hzw]
    by_cases a:w.over∈x.into
    ·have b:w.of∉x.into:=fun b=>hc (by simp[a,b])
     simp only[List.contains_iff_mem.2 a,if_true,show x.into.contains w.of=false by simpa using b,Bool.false_eq_true,if_false]
     exact⟨fun e=>n2 e.symm,hnew,hold _ b w3⟩
    ·simp only[show x.into.contains w.over=false by simpa using a,Bool.false_eq_true,if_false]
     by_cases b:w.of∈x.into
     ·simp only[List.contains_iff_mem.2 b,if_true]
      exact⟨n1,hold _ a w2,hnew⟩
     ·simp only[show x.into.contains w.of=false by simpa using b,Bool.false_eq_true,if_false]
      exact⟨w1,hold _ a w2,hold _ b w3⟩
  ·cases he
 ·show asc2 ((Rt.merge s.roll x).stints.map Stint.key)
  rw[hst]
  exact sa
 ·have he:e∈(Rt.merge s.roll x).stints:=he
  rw[hst]at he
  rcases(sc e).1 he with he|he
  ·obtain⟨w,hw,hzw⟩:=List.mem_flatMap.1 he
   obtain⟨w1,w2⟩:=h.sok w hw
   unfold mrgS at hzw
   split at hzw
   ·rw[List.mem_singleton.1 hzw]
    exact⟨hnew,w2⟩
   ·split at hzw
    ·cases hzw
    ·rename_i hc
     rw[List.mem_singleton.1 hzw]
     exact⟨hold _ (by simpa using hc) w1,w2⟩
  ·cases he
end Go.Proofs.Rt
namespace Go.Proofs.Rt
theorem possible_iff {s:St}{x:Deal}:possible s x=0↔missing s.roll x=false∧twice s x=false∧ ¬(x.kind=2∧heldBy (heldOf s.roll.lots x.lot) x.fr<x.parts)∧unlike s.roll x=false:=by
 unfold possible
 by_cases h1:missing s.roll x=true
 ·rw[if_pos h1]
  simp[h1]
 ·rw[if_neg h1]
  by_cases h2:twice s x=true
  ·rw[if_pos h2]
   simp[h2]
  ·rw[if_neg h2]
   by_cases h3:x.kind=2∧heldBy (heldOf s.roll.lots x.lot) x.fr<x.parts
   ·rw[if_pos h3]
    simp[h3]
   ·rw[if_neg h3]
    by_cases h4:unlike s.roll x=true
    ·rw[if_pos h4]
     simp[h4]
    ·rw[if_neg h4]
     simp[h1,h2,h4,h3]
theorem lotsOk_iff {l:List Int}:lotsOk l=true↔(2≤l.length∧l.length≤10)∧(∀n∈l,1≤n∧n≤1000000)∧l.Nodup:=by
 unfold lotsOk isId
 simp only[Bool.and_eq_true,decide_eq_true_eq,List.all_eq_true,inR_iff]
 constructor
 ·rintro⟨⟨⟨a,b⟩,c⟩,d⟩
  exact⟨⟨a,b⟩,c,d⟩
 ·rintro⟨⟨a,b⟩,c,d⟩
  exact⟨⟨⟨a,b⟩,c⟩,d⟩
theorem does_inv {s:St}(h:Inv s){x:Deal}(hf:formed x=true)(hp:possible s x=0):Inv (does s x):=by
 obtain⟨p1,p2,p3,p4⟩:=possible_iff.1 hp
 unfold formed at hf
 simp only[Bool.and_eq_true]at hf
 obtain⟨_,d⟩:=hf
 obtain⟨k,hk⟩: ∃k,x.kind=k:=⟨_,rfl⟩
 unfold missing at p1
 unfold twice at p2
 unfold unlike at p4
 unfold does
 rw[hk]at d p1 p2 p3 p4 ⊢
 match k,hk with
 |0,_=>cases d
 |1,_=>
  simp only[Bool.and_eq_true,inR_iff]at d
  exact h.enter (by simpa using p2) d.2.1 d.2.2
 |2,_=>
  simp only[Bool.and_eq_true,inR_iff,bne_iff_ne,ne_eq]at d
  obtain⟨o,ho⟩:=Option.isSome_iff_exists.1 (show(lotOf s.roll.lots x.lot).isSome by simpa using p1)
  have hh:heldOf s.roll.lots x.lot=o.held:=by unfold heldOf;rw[ho];rfl
  have hs:sizeOf s.roll.lots x.lot=o.size:=by unfold sizeOf;rw[ho];rfl
  have hod:=(h.held o (lotOf_some ho).1).1
  show Inv ⟨{s.roll with lots:=put (gone s.roll.lots x.lot) ⟨x.lot,sizeOf s.roll.lots x.lot,grant (grant (heldOf s.roll.lots x.lot) x.fr (-x.parts)) x.to x.parts⟩},s.used⟩
  rw[hs,hh]
  refine h.reheld ho (hod.grant (by omega) ?_)
  rw[hh]at p3
  have: ¬heldBy o.held x.fr<x.parts:=fun e=>p3 ⟨rfl,e⟩
  omega
 |3,_=>
  simp only[Bool.and_eq_true,inR_iff,lotsOk_iff,List.all_eq_true,beq_iff_eq]at d
  obtain⟨o,ho⟩:=Option.isSome_iff_exists.1 (show(lotOf s.roll.lots x.lot).isSome by simpa using p1)
  exact h.divide ho d.1.1.2.2.2 (fun n hn=>by simpa using List.any_eq_false.1 p2 n hn) d.1.2 d.2
 |4,_=>
  simp only[Bool.and_eq_true,lotsOk_iff]at d
  simp only[Bool.or_eq_false_iff,decide_eq_false_iff_not]at p4
  have hne:x.into≠ []:=fun e=>by have:=d.2.1.1;rw[e]at this;exact absurd this (by decide)
  refine h.merge hne (fun n hn=> ?_) (by simpa using p2) (by have:=p4.2;omega)
  have:=(Bool.not_eq_false' _▸p1:(x.into.all fun n=>(lotOf s.roll.lots n).isSome)=true)
  exact List.all_eq_true.1 this n hn
 |5,_=>
  simp only[Bool.and_eq_true,bne_iff_ne,ne_eq]at d
  simp only[Bool.or_eq_false_iff]at p1
  exact h.way (x:=⟨x.lot,x.other,x.id⟩) (fun e=>d.2 e.symm) (by simpa using p1.1) (by simpa using p1.2)
 |6,_=>exact h.lessEases _
 |7,_=>
  simp only[Bool.and_eq_true,inR_iff]at d
  exact h.stint (x:=⟨x.lot,x.to,x.size,x.id⟩) (by simpa using p2) (by simpa using p1) d.2.1 d.2.2
 |8,_=>exact h.lessStints _
 |n+9,_=>cases d
def rightFrom (s:St)(done:List Deal):List Deal→Prop
 | []=>True
 |x::l=>refused s done x=0∧rightFrom (does s x) (done++[x]) l
theorem checkGo_iff (s:St)(done l:List Deal):(checkGo s done l).2=0↔rightFrom s done l:=by
 induction l generalizing s done with
 |nil=>simp[checkGo,rightFrom]
 |cons x l ih=>
  unfold checkGo rightFrom
  by_cases e:refused s done x=0
  ·rw[if_pos e,ih]
   simp[e]
  ·rw[if_neg e]
   simp[e]
theorem refused_zero {s:St}{done:List Deal}{x:Deal}(h:refused s done x=0):done.length<400∧formed x=true∧(∀y∈done,y.id≠x.id)∧(∀y,done.getLast?=some y→y.day≤x.day)∧possible s x=0:=by
 unfold refused at h
 split at h
 ·exact absurd h (by decide)
 ·rename_i h1
  split at h
  ·exact absurd h (by decide)
  ·rename_i h2
   split at h
   ·exact absurd h (by decide)
   ·rename_i h3
    split at h
    ·exact absurd h (by decide)
    ·rename_i h4
     refine⟨by omega,by simpa using h2,fun y hy e=>h3 (List.any_eq_true.2 ⟨y,hy,by simpa using e⟩),fun y hy=> ?_,h⟩
     rw[hy]at h4
     simpa using h4
theorem right_inv {s:St}{done l:List Deal}(h:Inv s)(hr:rightFrom s done l):Inv (l.foldl does s):=by
 induction l generalizing s done with
 |nil=>exact h
 |cons x l ih=>
  obtain⟨a,b⟩:=hr
  obtain⟨_,f,_,_,p⟩:=refused_zero a
  exact ih (does_inv h f p) b
theorem check_inv {l:List Deal}(h:(check l).2=0):Inv (stOf l):=right_inv Inv.begun ((checkGo_iff _ _ _).1 h)
end Go.Proofs.Rt
namespace Go.Proofs.Rt
theorem right_app (s:St)(done l m:List Deal):rightFrom s done (l++m)↔rightFrom s done l∧rightFrom (l.foldl does s) (done++l) m:=by
 induction l generalizing s done with
 |nil=>simp[rightFrom]
 |cons x l ih=>
  have hc: ∀(s:St) (d:List Deal) (l:List Deal),rightFrom s d (x::l)↔refused s d x=0∧rightFrom (does s x) (d++[x]) l:=fun _ _ _=>Iff.rfl
  rw[List.cons_append,hc,hc,ih,List.foldl_cons,List.append_assoc,List.singleton_append,and_assoc]
theorem right_days {s:St}{done l:List Deal}(h:rightFrom s done l):l.Pairwise (fun a b=>a.day≤b.day)∧ ∀y,done.getLast?=some y→ ∀x∈l,y.day≤x.day:=by
 induction l generalizing s done with
 |nil=>exact⟨.nil,fun y _ x hx=>by cases hx⟩
 |cons x l ih=>
  obtain⟨a,b⟩:=h
  obtain⟨_,_,_,d,_⟩:=refused_zero a
  obtain⟨p,q⟩:=ih b
  have q:=q x (by simp)
  refine⟨.cons q p,fun y hy z hz=> ?_⟩
  have:=d y hy
  rcases List.mem_cons.1 hz with rfl|hz
  ·exact this
  ·exact Int.le_trans this (q z hz)
theorem filter_prefix {α:Type}(p:α→Bool)(l:List α)(h:l.Pairwise fun a b=>p b=true→p a=true): ∃m,l=l.filter p++m:=by
 induction l with
 |nil=>exact⟨[],rfl⟩
 |cons x l ih=>
  obtain⟨h1,h2⟩:=List.pairwise_cons.1 h
  rw[List.filter_cons]
  split
  ·obtain⟨m,hm⟩:=ih h2
   exact⟨m,by rw[List.cons_append,←hm]⟩
  ·rename_i hx
   refine⟨x::l,?_⟩
   rw[List.filter_eq_nil_iff.2 (fun y hy hp=>hx (h1 y hy hp))]
   rfl
theorem on_prefix {l:List Deal}(h:(check l).2=0)(day:Int): ∃m,l=onDay l day++m:=by
 refine filter_prefix _ l ((right_days ((checkGo_iff _ _ _).1 h)).1.imp fun {a b} hab hb=> ?_)
 have:b.day≤day:=by simpa using hb
 simpa using Int.le_trans hab this
theorem on_right {l:List Deal}(h:(check l).2=0)(day:Int):(check (onDay l day)).2=0:=by
 obtain⟨m,hm⟩:=on_prefix h day
 have:=(checkGo_iff _ _ _).1 h
 rw[hm]at this
 exact(checkGo_iff _ _ _).2 ((right_app _ _ _ _).1 this).1
end Go.Proofs.Rt
namespace Go.Proofs.Rt
def total (l : List Lot) : Int := sumI (l.map (·.size))
def entered (x:Deal):Int:=if x.kind=1 then x.size else 0
end Go.Proofs.Rt
namespace Go.Proofs.Rt
end Go.Proofs.Rt
