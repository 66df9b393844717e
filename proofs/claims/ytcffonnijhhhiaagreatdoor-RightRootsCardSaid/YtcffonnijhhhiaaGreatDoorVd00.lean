/- Part Vd00 of the proof: Yi Yj Yk Yo Ra Cm. -/
import Derived.Test.YtcffonnijhhhiaaGreatDoorProg
import Derived.WalkKit
import Derived.WalkLawsBesides
import Derived.WalkSpells
import Derived.Handy
import Derived.Lib.Hide
import Derived.Great.BuildSlice
import Derived.Deep.QuietTactic
import Derived.BigQuiet
import Derived.Deep.RegionHeld3
import Derived.Deep.DeepCutAuto
import Derived.Test.YtcffonnijhhhiaaGreatDoorU32
import Derived.Test.YtcffonnijhhhiaaGreatDoorU30
import Derived.Test.YtcffonnijhhhiaaGreatDoorU31
import Derived.Test.YtcffonnijhhhiaaGreatDoorU26
import Derived.Test.YtcffonnijhhhiaaGreatDoorU24
import Derived.Test.YtcffonnijhhhiaaGreatDoorU25
set_option linter.all false
set_option linter.unusedSimpArgs false
set_option linter.unusedVariables false
set_option linter.unusedSectionVars false
set_option linter.all false
set_option linter.unusedSimpArgs false
set_option linter.unusedVariables false
set_option linter.unusedSectionVars false
namespace Go.Proofs.Rt
theorem total_cons (x:Lot)(l:List Lot):total (x::l)=x.size+total l:=rfl
theorem gone_none {l:List Lot}{n:Int}(h: ∀y∈l,y.number≠n):gone l n=l:=
 List.filter_eq_self.2 (fun y hy=>by simpa using h y hy)
theorem sizeOf_cons (y:Lot)(l:List Lot)(n:Int):sizeOf (y::l) n=if y.number=n then y.size else sizeOf l n:=by
 unfold sizeOf lotOf
 rw[List.find?_cons]
 by_cases e:y.number=n
 ·simp[e]
 ·simp only[beq_eq_false_iff_ne.2 e,if_neg e]
theorem total_gone {l : List Lot} {n : Int} (h : asc (l.map (·.number))) : total (gone l n) = total l - sizeOf l n := by
 induction l with
 |nil=>rfl
 |cons y l ih=>
  obtain⟨h1,h2⟩:=h
  have h1': ∀z∈l,y.number<z.number:=fun z hz=>h1 _ (List.mem_map_of_mem hz)
  rw[sizeOf_cons,total_cons]
  by_cases e:y.number=n
  ·have hn: ∀z∈l,z.number≠n:=fun z hz=>by have:=h1' z hz;omega
   have hg:gone (y::l) n=gone l n:=by
    unfold gone
    rw[List.filter_cons,if_neg (by simp[e])]
   rw[hg,gone_none hn,if_pos e]
   omega
  ·have hg:gone (y::l) n=y::gone l n:=by
    unfold gone
    rw[List.filter_cons,if_pos (by simp[e])]
   rw[hg,total_cons,ih h2,if_neg e]
   omega
theorem sizeOf_gone {l:List Lot}{m n:Int}(h:m≠n):sizeOf (gone l m) n=sizeOf l n:=by
 unfold sizeOf
 rw[lotOf_gone,if_neg h]
theorem total_goneAll {L : List Int} {l : List Lot} (h : asc (l.map (·.number))) (hn : L.Nodup) : total (L.foldl gone l) = total l - sumI (L.map (sizeOf l)) := by
 induction L generalizing l with
 |nil=>
  show total l=total l-0
  omega
 |cons m L ih=>
  obtain⟨h1,h2⟩:=List.nodup_cons.1 hn
  rw[List.foldl_cons,ih (asc_gone h) h2,total_gone h]
  have:L.map (sizeOf (gone l m))=L.map (sizeOf l):=List.map_congr_left (fun n hn'=>sizeOf_gone (fun e=>h1 (e▸hn')))
  rw[this]
  show _=total l-(sizeOf l m+_)
  omega
def tot (S:Int→Bool)(l:List Lot):Int:=total (l.filter fun y=>S y.number)
theorem tot_cons (S:Int→Bool)(y:Lot)(l:List Lot):tot S (y::l)=(if S y.number=true then y.size else 0)+tot S l:=by
 unfold tot
 rw[List.filter_cons]
 split
 ·rw[total_cons]
 ·rw[Int.zero_add]
theorem tot_put (S:Int→Bool)(x:Lot)(l:List Lot):tot S (put l x)=(if S x.number=true then x.size else 0)+tot S l:=by
 induction l with
 |nil=>unfold put;rw[tot_cons]
 |cons y l ih=>
  unfold put
  split
  ·rw[tot_cons]
  ·rw[tot_cons,tot_cons,ih]
   omega
theorem asc_filter {p : Lot → Bool} {l : List Lot} (h : asc (l.map (·.number))) : asc ((l.filter p).map (·.number)) := by
 induction l with
 |nil=>exact h
 |cons y l ih=>
  rw[List.filter_cons]
  split
  ·refine⟨fun b hb=>h.1 b ?_,ih h.2⟩
   obtain⟨z,hz,e⟩:=List.mem_map.1 hb
   exact List.mem_map.2 ⟨z,(List.mem_filter.1 hz).1,e⟩
  ·exact ih h.2
theorem sizeOf_filter (S:Int→Bool)(l:List Lot)(n:Int):sizeOf (l.filter fun y=>S y.number) n=if S n=true then sizeOf l n else 0:=by
 induction l with
 |nil=>unfold sizeOf lotOf;simp
 |cons y l ih=>
  rw[List.filter_cons]
  by_cases h:S y.number=true
  ·rw[if_pos h,sizeOf_cons,sizeOf_cons,ih]
   by_cases e:y.number=n
   ·rw[if_pos e,if_pos e,←e,if_pos h]
   ·rw[if_neg e,if_neg e]
  ·rw[if_neg h,sizeOf_cons,ih]
   by_cases e:y.number=n
   ·rw[if_pos e,←e,if_neg h,if_neg h]
   ·rw[if_neg e]
theorem gone_filter (S:Int→Bool)(l:List Lot)(n:Int):(gone l n).filter (fun y=>S y.number)=gone (l.filter fun y=>S y.number) n:=by
 unfold gone
 rw[List.filter_filter,List.filter_filter]
 congr 1
 funext y
 exact Bool.and_comm _ _
theorem goneAll_filter (S:Int→Bool): ∀(L:List Int) (l:List Lot),(L.foldl gone l).filter (fun y=>S y.number)=L.foldl gone (l.filter fun y=>S y.number)
 | [],_=>rfl
 |n::L,l=>by rw[List.foldl_cons,List.foldl_cons,goneAll_filter S L,gone_filter]
theorem tot_gone (S : Int → Bool) {l : List Lot} {n : Int} (h : asc (l.map (·.number))) : tot S (gone l n) = tot S l - (if S n = true then sizeOf l n else 0) := by
 unfold tot
 rw[gone_filter,total_gone (asc_filter h),sizeOf_filter]
theorem tot_goneAll (S : Int → Bool) {L : List Int} {l : List Lot} (h : asc (l.map (·.number))) (hn : L.Nodup) : tot S (L.foldl gone l) = tot S l - sumI (L.map fun n => if S n = true then sizeOf l n else 0) := by
 unfold tot
 rw[goneAll_filter,total_goneAll (asc_filter h) hn]
 congr 2
 exact List.map_congr_left fun n _=>sizeOf_filter S l n
theorem tot_putAll (S:Int→Bool)(hd:List (Int×Int)): ∀(L:List (Int×Int)) (l:List Lot),tot S (L.foldl (fun l p=>put l ⟨p.1,p.2,hd⟩) l)=tot S l+sumI (L.map fun p=>if S p.1=true then p.2 else 0)
 | [],l=>by simp[sumI]
 |p::L,l=>by
  rw[List.foldl_cons,tot_putAll S hd L,tot_put,List.map_cons]
  show((if S p.1=true then p.2 else 0)+tot S l)+sumI (L.map fun p=>if S p.1=true then p.2 else 0)=tot S l+((if S p.1=true then p.2 else 0)+sumI (L.map fun p=>if S p.1=true then p.2 else 0))
  omega
theorem tot_congr {S S':Int→Bool}{l:List Lot}(h: ∀y∈l,S y.number=S' y.number):tot S l=tot S' l:=by
 unfold tot
 rw[List.filter_congr h]
theorem tot_one {l : List Lot} (h : asc (l.map (·.number))) (n : Int) : tot (fun m => m == n) l = sizeOf l n := by
 have h1:=tot_gone (fun m=>m==n) (n:=n) h
 have h2:tot (fun m=>m==n) (gone l n)=0:=by
  unfold tot gone
  rw[List.filter_filter,List.filter_eq_nil_iff.2 (fun y _=>by cases e:y.number==n<;>simp[e,bne])]
  rfl
 rw[h2]at h1
 simp at h1
 omega
def maker (l:List Deal)(n:Int):Option Nat:=idx (fun x=>makes x n) l
def st (l:List Deal)(j:Nat):St:=stOf (l.take j)
theorem st_next {l:List Deal}{j:Nat}(h:j<l.length):st l (j+1)=does (st l j) l[j]:=by
 unfold st stOf
 rw[List.take_succ_eq_append_getElem h,List.foldl_append]
 rfl
theorem right_at {l:List Deal}(hc:(check l).2=0){j:Nat}(h:j<l.length):refused (st l j) (l.take j) l[j]=0:=by
 have hr:rightFrom St.begun [] (l.take j++l.drop j):=by
  rw[List.take_append_drop]
  exact(checkGo_iff _ _ _).1 hc
 have hr2:=((right_app _ _ _ _).1 hr).2
 rw[List.nil_append,List.drop_eq_getElem_cons h]at hr2
 exact hr2.1
theorem inv_at {l:List Deal}(hc:(check l).2=0)(j:Nat):Inv (st l j):=by
 have hr:rightFrom St.begun [] (l.take j++l.drop j):=by
  rw[List.take_append_drop]
  exact(checkGo_iff _ _ _).1 hc
 exact right_inv Inv.begun ((right_app _ _ _ _).1 hr).1
theorem used_mono {s:St}{x:Deal}{n:Int}(h:n∈s.used):n∈(does s x).used:=by
 unfold does
 match x.kind with
 |0=>exact h
 |1=>exact List.mem_append_left _ h
 |2=>exact h
 |3=>exact List.mem_append_left _ h
 |4=>exact List.mem_append_left _ h
 |5=>exact h
 |6=>exact h
 |7=>exact h
 |8=>exact h
 |_+9=>exact h
theorem makes_kinds {x:Deal}{n:Int}(h:makes x n=true):(x.kind=1∧x.lot=n)∨(x.kind=4∧x.lot=n)∨(x.kind=3∧n∈x.into):=by
 unfold makes at h
 split at h
 ·rename_i e
  rcases e with e|e
  ·exact .inl ⟨e,by simpa using h⟩
  ·exact .inr (.inl ⟨e,by simpa using h⟩)
 ·split at h
  ·rename_i e
   exact .inr (.inr ⟨e,by simpa using h⟩)
  ·cases h
theorem made_used {s:St}{x:Deal}{n:Int}(h:makes x n=true):n∈(does s x).used:=by
 unfold does
 rcases makes_kinds h with ⟨e,e2⟩|⟨e,e2⟩|⟨e,e2⟩
 ·rw[e];subst e2;exact List.mem_append_right _ (by simp)
 ·rw[e];subst e2;exact List.mem_append_right _ (by simp)
 ·rw[e];exact List.mem_append_right _ e2
theorem made_fresh {s:St}{x:Deal}{n:Int}(hp:possible s x=0)(h:makes x n=true):n∉s.used:=by
 have p2:=(possible_iff.1 hp).2.1
 unfold twice at p2
 rcases makes_kinds h with ⟨e,e2⟩|⟨e,e2⟩|⟨e,e2⟩
 ·rw[e]at p2;subst e2;simpa using p2
 ·rw[e]at p2;subst e2;simpa using p2
 ·rw[e]at p2
  have:=List.any_eq_false.1 p2 n e2
  simpa using this
theorem used_at {l:List Deal}{n:Int}: ∀ {j i:Nat} (hi:i<j) (hj:j≤l.length),makes (l[i]'(by omega)) n=true→n∈(st l j).used
 |0,_,hi,_,_=>absurd hi (by omega)
 |j+1,i,hi,hj,h=>by
  rw[st_next (show j<l.length by omega)]
  by_cases e:i=j
  ·subst e
   exact made_used h
  ·exact used_mono (used_at (show i<j by omega) (by omega) h)
theorem maker_at {l:List Deal}(hc:(check l).2=0){n:Int}{j:Nat}(hj:j<l.length)(h:makes l[j] n=true):maker l n=some j:=by
 unfold maker
 refine idx_hit hj (fun i hi=> ?_) h
 cases e:makes (l[i]'(by omega)) n with
 |false=>rfl
 |true=>exact absurd (used_at hi (by omega) e) (made_fresh (refused_zero (right_at hc hj)).2.2.2.2 h)
theorem goneAll_mem : ∀(L:List Int) {l:List Lot} {y:Lot},y∈L.foldl gone l→y∈l∧y.number∉L
 | [],_,_,h=>⟨h,by simp⟩
 |n::L,l,y,h=>by
  obtain⟨a,b⟩:=goneAll_mem L h
  obtain⟨c,d⟩:=List.mem_filter.1 a
  refine⟨c,fun e=> ?_⟩
  rcases List.mem_cons.1 e with e|e
  ·simp[e]at d
  ·exact b e
theorem putAll_mem (hd:List (Int×Int)): ∀(L:List (Int×Int)) {l:List Lot} {y:Lot},y∈L.foldl (fun l p=>put l ⟨p.1,p.2,hd⟩) l→(∃p∈L,y.number=p.1)∨y∈l
 | [],_,_,h=> .inr h
 |p::L,_,_,h=>by
  rcases putAll_mem hd L h with ⟨q,hq,e⟩|h
  ·exact .inl ⟨q,List.mem_cons_of_mem _ hq,e⟩
  ·rcases mem_put.1 h with e|e
   ·exact .inl ⟨p,by simp,by rw[e]⟩
   ·exact .inr e
theorem makes_into {x:Deal}{n:Int}(e:x.kind=3)(h:n∈x.into):makes x n=true:=by
 unfold makes
 rw[if_neg (by rw[e];decide),if_pos e]
 simpa using h
theorem does_made {s:St}{x:Deal}{y:Lot}(hp:possible s x=0)(hy:y∈(does s x).roll.lots):makes x y.number=true∨ ∃z∈s.roll.lots,z.number=y.number:=by
 have p1:=(possible_iff.1 hp).1
 unfold missing at p1
 unfold does at hy
 match e:x.kind with
 |1=>
  rw[e]at hy
  rcases mem_put.1 hy with g|g
  ·left;unfold makes;rw[if_pos (.inl e),g];simp
  ·exact .inr ⟨y,g,rfl⟩
 |2=>
  rw[e]at hy p1
  rcases mem_put.1 hy with g|g
  ·right
   obtain⟨z,hz⟩:=Option.isSome_iff_exists.1 (show(lotOf s.roll.lots x.lot).isSome by simpa using p1)
   exact⟨z,(lotOf_some hz).1,by rw[(lotOf_some hz).2,g]⟩
  ·exact .inr ⟨y,(List.mem_filter.1 g).1,rfl⟩
 |3=>
  rw[e]at hy
  rcases putAll_mem _ _ hy with ⟨p,hp,g⟩|g
  ·left
   rw[g]
   exact makes_into e (List.of_mem_zip (show(p.1,p.2)∈_ from hp)).1
  ·exact .inr ⟨y,(List.mem_filter.1 g).1,rfl⟩
 |4=>
  rw[e]at hy
  rcases mem_put.1 hy with g|g
  ·left;unfold makes;rw[if_pos (.inr e),g];simp
  ·exact .inr ⟨y,(goneAll_mem _ g).1,rfl⟩
 |0=>rw[e]at hy;exact .inr ⟨y,hy,rfl⟩
 |5=>rw[e]at hy;exact .inr ⟨y,hy,rfl⟩
 |6=>rw[e]at hy;exact .inr ⟨y,hy,rfl⟩
 |7=>rw[e]at hy;exact .inr ⟨y,hy,rfl⟩
 |8=>rw[e]at hy;exact .inr ⟨y,hy,rfl⟩
 |_+9=>rw[e]at hy;exact .inr ⟨y,hy,rfl⟩
theorem lots_made {l:List Deal}(hc:(check l).2=0): ∀ {j:Nat},j≤l.length→ ∀y∈(st l j).roll.lots,∃i,i<j∧maker l y.number=some i
 |0,_,y,hy=>by cases hy
 |j+1,hj,y,hy=>by
  have hlt:j<l.length:=hj
  rw[st_next hlt]at hy
  have hp:=(refused_zero (right_at hc hlt)).2.2.2.2
  rcases does_made hp hy with g|⟨z,hz,e⟩
  ·exact⟨j,by omega,maker_at hc hlt g⟩
  ·obtain⟨i,hi,e2⟩:=lots_made hc (show j≤l.length by omega) z hz
   exact⟨i,by omega,by rw[←e];exact e2⟩
def Cl (l:List Deal)(T:Nat→Bool):Prop:= ∀p (h:p<l.length),T p=true→(l[p].kind=3→ ∃i,maker l l[p].lot=some i∧T i=true)∧(l[p].kind=4→ ∀m∈l[p].into,∃i,maker l m=some i∧T i=true)
def ent (T:Nat→Bool)(l:List Deal):Nat→Int
 |0=>0
 |j+1=>if T j=true∧(l.getD j default).kind=1 then ent T l j+(l.getD j default).size else ent T l j
theorem sum_if {L : List (Int × Int)} (S : Int → Bool) (b : Bool) (h : ∀ p ∈ L, 0 ≤ p.2 ∧ (S p.1 = true → b = true)) : sumI (L.map fun p => if S p.1 = true then p.2 else 0) ≤ if b = true then sumI (L.map (·.2)) else 0 := by
 induction L with
 |nil=>show(0:Int)≤if b=true then (0:Int)else 0;split<;>omega
 |cons p L ih=>
  have ih:=ih fun q hq=>h q (List.mem_cons_of_mem _ hq)
  obtain⟨h1,h2⟩:=h p (by simp)
  rw[List.map_cons,List.map_cons]
  show (if S p.1 = true then p.2 else 0) + sumI (L.map fun p => if S p.1 = true then p.2 else 0) ≤ if b = true then p.2 + sumI (L.map (·.2)) else 0
  by_cases e:S p.1=true
  ·rw[if_pos e,if_pos (h2 e)]
   rw[if_pos (h2 e)]at ih
   omega
  ·rw[if_neg e]
   split
   ·rename_i hb;rw[if_pos hb]at ih;omega
   ·rename_i hb;rw[if_neg hb]at ih;omega
theorem zip_snd {a b : List Int} (h : b.length = a.length) : (a.zip b).map (·.2) = b := by rw [List.map_snd_zip]; omega
theorem ent_mono {T:Nat→Bool}{l:List Deal}(hf: ∀x∈l,formed x=true){j:Nat}(h:j<l.length):ent T l j≤ent T l (j+1):=by
 have hg:l.getD j default=l[j]:=by simp[List.getD,h]
 have he:ent T l (j+1)=if T j=true∧l[j].kind=1 then ent T l j+l[j].size else ent T l j:=by rw[←hg];rfl
 rw[he]
 by_cases e:T j=true∧l[j].kind=1
 ·rw[if_pos e]
  have:=hf l[j] (List.getElem_mem h)
  unfold formed at this
  rw[e.2]at this
  simp only[Bool.and_eq_true,inR_iff]at this
  have h3:=this.2.2.1
  omega
 ·rw[if_neg e]
  exact Int.le_refl _
theorem sizes_ok {l:List Deal}(hc:(check l).2=0){T:Nat→Bool}(hT:Cl l T)(hf: ∀x∈l,formed x=true): ∀(j:Nat),j≤l.length→ ∀S:Int→Bool,(∀y∈(st l j).roll.lots,S y.number=true→ ∃i,maker l y.number=some i∧T i=true)→tot S (st l j).roll.lots≤ent T l j
 |0,_,S,_=>Int.le_refl _
 |j+1,hj,S,hS=>by
  have hlt:j<l.length:=hj
  have hin:=inv_at hc j
  have hp:=(refused_zero (right_at hc hlt)).2.2.2.2
  have hfx:=hf l[j] (List.getElem_mem hlt)
  have hmk:=fun n (h:makes l[j] n=true)=>maker_at hc hlt h
  have hTj: ∀y∈(st l (j+1)).roll.lots,S y.number=true→makes l[j] y.number=true→T j=true:=fun y hy h1 h2=>by
   obtain⟨i,e1,e2⟩:=hS y hy h1
   rw[hmk _ h2]at e1
   cases e1
   exact e2
  have hmono:=ent_mono (T:=T) hf hlt
  have ih:=sizes_ok hc hT hf j (by omega)
  have hg:l.getD j default=l[j]:=by simp[List.getD,hlt]
  rw[st_next hlt]at hS hTj ⊢
  have hent:ent T l (j+1)=if T j=true∧l[j].kind=1 then ent T l j+l[j].size else ent T l j:=by rw[←hg];rfl
  have hcl:=hT j hlt
  obtain⟨x,hx⟩: ∃x,l[j]=x:=⟨_,rfl⟩
  rw[hx]at hp hfx hS hTj hent hcl ⊢
  obtain⟨s,hs⟩: ∃s,st l j=s:=⟨_,rfl⟩
  rw[hs]at hin hp hS hTj ih ⊢
  have hp1:=(possible_iff.1 hp).1
  unfold missing at hp1
  unfold formed at hfx
  simp only[Bool.and_eq_true]at hfx
  have hfk:=hfx.2
  unfold does at hS hTj ⊢
  match e:x.kind with
  |1=>
   rw[e]at hS hTj
   show tot S (put s.roll.lots _)≤_
   rw[tot_put]
   have h1:=ih S fun y hy h=>hS y (mem_put.2 (.inr hy)) h
   by_cases eS:S x.lot=true
   ·have:T j=true:=hTj ⟨x.lot,x.size,[(x.to,5040)]⟩ (mem_put.2 (.inl rfl)) eS (by unfold makes;rw[if_pos (.inl e)];simp)
    have h2:ent T l (j+1)=ent T l j+x.size:=by rw[hent];exact if_pos ⟨this,e⟩
    rw[h2]
    have h3:(if S (⟨x.lot,x.size,[(x.to,5040)]⟩:Lot).number=true then (⟨x.lot,x.size,[(x.to,5040)]⟩:Lot).size else 0)=x.size:=if_pos eS
    rw[h3]
    omega
   ·have h3:(if S (⟨x.lot,x.size,[(x.to,5040)]⟩:Lot).number=true then (⟨x.lot,x.size,[(x.to,5040)]⟩:Lot).size else 0)=0:=if_neg eS
    rw[h3]
    omega
  |2=>
   rw[e]at hS hTj hp1
   show tot S (put (gone s.roll.lots x.lot) _)≤_
   rw[tot_put,tot_gone S hin.lots]
   obtain⟨z,hz⟩:=Option.isSome_iff_exists.1 (show(lotOf s.roll.lots x.lot).isSome by simpa using hp1)
   have h1:=ih S fun y hy h=>by
    by_cases e2:y.number=x.lot
    ·have:=hS ⟨x.lot,sizeOf s.roll.lots x.lot,_⟩ (mem_put.2 (.inl rfl)) (by rw[←e2];exact h)
     rw[e2]
     exact this
    ·exact hS y (mem_put.2 (.inr (List.mem_filter.2 ⟨hy,by simpa using e2⟩))) h
   show(if S x.lot=true then sizeOf s.roll.lots x.lot else 0)+_≤_
   omega
  |3=>
   rw[e]at hS hTj hp1 hfk
   simp only[Bool.and_eq_true,lotsOk_iff,List.all_eq_true,beq_iff_eq,inR_iff]at hfk
   have hp4:=(possible_iff.1 hp).2.2.2
   unfold unlike at hp4
   rw[e]at hp4
   have hsum:sumI x.sizes=sizeOf s.roll.lots x.lot:=by simpa using hp4
   show tot S ((x.into.zip x.sizes).foldl _ (gone s.roll.lots x.lot))≤_
   rw[tot_putAll,tot_gone S hin.lots]
   obtain⟨b,hb⟩: ∃b:Bool,x.into.any S=b:=⟨_,rfl⟩
   have hmem: ∀y∈gone s.roll.lots x.lot,y∈(x.into.zip x.sizes).foldl (fun l p=>put l ⟨p.1,p.2,heldOf s.roll.lots x.lot⟩) (gone s.roll.lots x.lot):=by
    have key: ∀(L:List (Int×Int)) (l:List Lot),∀y∈l,y∈L.foldl (fun l p=>put l ⟨p.1,p.2,heldOf s.roll.lots x.lot⟩) l:=by
     intro L
     induction L with
     |nil=>intro l y hy;exact hy
     |cons p L ih=>intro l y hy;exact ih _ y (mem_put.2 (.inr hy))
    exact key _ _
   have hmem2: ∀n∈x.into,∃y∈(x.into.zip x.sizes).foldl (fun l p=>put l ⟨p.1,p.2,heldOf s.roll.lots x.lot⟩) (gone s.roll.lots x.lot),y.number=n:=by
    have key : ∀ (L : List (Int × Int)) (l : List Lot), ∀ n, (∃ y ∈ l, y.number = n) ∨ n ∈ L.map (·.1) → ∃ y ∈ L.foldl (fun l p => put l ⟨p.1, p.2, heldOf s.roll.lots x.lot⟩) l, y.number = n := by
     intro L
     induction L with
     |nil=>intro l n h;exact h.resolve_right (by simp)
     |cons p L ih=>
      intro l n h
      refine ih _ n ?_
      rcases h with ⟨y,hy,e⟩|h
      ·exact .inl ⟨y,mem_put.2 (.inr hy),e⟩
      ·rcases List.mem_cons.1 h with e|h
       ·exact .inl ⟨_,mem_put.2 (.inl rfl),e.symm⟩
       ·exact .inr h
    intro n hn
    refine key _ _ n (.inr ?_)
    rw[List.map_fst_zip (by omega)]
    exact hn
   have h1:=ih (fun n=>if n=x.lot then b else S n) fun y hy h=>by
    by_cases e2:y.number=x.lot
    ·simp only[e2,if_true]at h
     rw[h,List.any_eq_true]at hb
     obtain⟨n,hn,hSn⟩:=hb
     obtain⟨z,hz,ez⟩:=hmem2 n hn
     have hTjj:=hTj z hz (by rw[ez];exact hSn) (by rw[ez];exact makes_into e hn)
     rw[e2]
     exact(hcl hTjj).1 e
    ·simp only[e2,if_false]at h
     exact hS y (hmem y (List.mem_filter.2 ⟨hy,by simpa using e2⟩)) h
   have h2:=tot_gone (fun n=>if n=x.lot then b else S n) (n:=x.lot) hin.lots
   have h3:tot (fun n=>if n=x.lot then b else S n) (gone s.roll.lots x.lot)=tot S (gone s.roll.lots x.lot):=tot_congr fun y hy=>by
    have:y.number≠x.lot:=by simpa using (List.mem_filter.1 hy).2
    simp[this]
   rw[h3,tot_gone S hin.lots]at h2
   have h4:=sum_if (L:=x.into.zip x.sizes) S b fun p hp=>by
    obtain⟨g1,g2⟩:=List.of_mem_zip (show(p.1,p.2)∈_ from hp)
    refine⟨by have:=hfk.2 p.2 g2;omega,fun h=> ?_⟩
    rw[←hb,List.any_eq_true]
    exact⟨p.1,g1,h⟩
   rw[zip_snd (by omega),hsum]at h4
   simp only[if_true]at h2
   omega
  |4=>
   rw[e]at hS hTj hp1 hfk
   simp only[Bool.and_eq_true,lotsOk_iff]at hfk
   show tot S (put (x.into.foldl gone s.roll.lots) _)≤_
   rw[tot_put,tot_goneAll S hin.lots hfk.2.2.2]
   have h1:=ih (fun n=>if x.into.contains n=true then S x.lot else S n) fun y hy h=>by
    by_cases e2:x.into.contains y.number=true
    ·rw[if_pos e2]at h
     have hTjj:=hTj ⟨x.lot,_,_⟩ (mem_put.2 (.inl rfl)) h (by unfold makes;rw[if_pos (.inr e)];simp)
     exact(hcl hTjj).2 e _ (by simpa using e2)
    ·rw[if_neg e2]at h
     refine hS y (mem_put.2 (.inr ?_)) h
     have key: ∀(L:List Int) (l:List Lot),y∈l→y.number∉L→y∈L.foldl gone l:=by
      intro L
      induction L with
      |nil=>intro l h _;exact h
      |cons n L ih=>
       intro l h h2
       refine ih _ (List.mem_filter.2 ⟨h,?_⟩) (fun h3=>h2 (List.mem_cons_of_mem _ h3))
       have:y.number≠n:=fun h3=>h2 (by simp[h3])
       simpa using this
     exact key _ _ hy (by simpa using e2)
   have h2:=tot_goneAll (fun n=>if x.into.contains n=true then S x.lot else S n) (L:=x.into) hin.lots hfk.2.2.2
   have h3:tot (fun n=>if x.into.contains n=true then S x.lot else S n) (x.into.foldl gone s.roll.lots)=tot S (x.into.foldl gone s.roll.lots):=tot_congr fun y hy=>by
    have:=(goneAll_mem _ hy).2
    have h5:x.into.contains y.number=false:=by simpa using this
    rw[h5]
    simp
   rw[h3,tot_goneAll S hin.lots hfk.2.2.2]at h2
   have h6:sumI (x.into.map fun n=>if (if x.into.contains n=true then S x.lot else S n)=true then sizeOf s.roll.lots n else 0)=if S x.lot=true then sumI (x.into.map (sizeOf s.roll.lots))else 0:=by
    have h7:(x.into.map fun n=>if (if x.into.contains n=true then S x.lot else S n)=true then sizeOf s.roll.lots n else 0)=x.into.map fun n=>if S x.lot=true then sizeOf s.roll.lots n else 0:=List.map_congr_left fun n hn=>by
     have:x.into.contains n=true:=by simpa using hn
     rw[if_pos this]
    rw[h7]
    split
    ·rfl
    ·have: ∀L:List Int,sumI (L.map fun _=>(0:Int))=0:=by
      intro L
      induction L with
      |nil=>rfl
      |cons a L ih=>show(0:Int)+sumI (L.map fun _=>(0:Int))=0;omega
     exact this _
   rw[h6]at h2
   show(if S x.lot=true then sumI (x.into.map (sizeOf s.roll.lots))else 0)+_≤_
   omega
  |0=>rw[e]at hS;have:=ih S hS;show tot S s.roll.lots≤_;omega
  |5=>rw[e]at hS;have:=ih S hS;show tot S s.roll.lots≤_;omega
  |6=>rw[e]at hS;have:=ih S hS;show tot S s.roll.lots≤_;omega
  |7=>rw[e]at hS;have:=ih S hS;show tot S s.roll.lots≤_;omega
  |8=>rw[e]at hS;have:=ih S hS;show tot S s.roll.lots≤_;omega
  |_+9=>rw[e]at hS;have:=ih S hS;show tot S s.roll.lots≤_;omega
end Go.Proofs.Rt
set_option linter.all false
set_option linter.unusedSimpArgs false
set_option linter.unusedVariables false
set_option linter.unusedSectionVars false
namespace Go.Proofs.Rt
theorem idx_at {α:Type}{p:α→Bool}: ∀ {l:List α} {k:Nat},idx p l=some k→ ∃h:k<l.length,p l[k]=true
 | [],_,h=>by cases h
 |a::l,k,h=>by
  unfold idx at h
  by_cases e:p a=true
  ·rw[if_pos e]at h
   cases h
   exact⟨by simp,e⟩
  ·rw[if_neg e]at h
   cases hi:idx p l with
   |none=>rw[hi]at h;cases h
   |some i=>
    rw[hi]at h
    cases h
    obtain⟨h1,h2⟩:=idx_at hi
    exact⟨by simp;omega,by simpa using h2⟩
def took (x:Deal):List Int:=if x.kind=3 then [x.lot]else if x.kind=4 then x.into else []
theorem took_made {l:List Deal}(hc:(check l).2=0){a:Nat}(h:a<l.length): ∀m∈took l[a],∃i,i<a∧maker l m=some i:=by
 intro m hm
 have hp:=(possible_iff.1 (refused_zero (right_at hc h)).2.2.2.2).1
 have key: ∀m,(lotOf (st l a).roll.lots m).isSome→ ∃i,i<a∧maker l m=some i:=fun m hs=>by
  obtain⟨z,hz⟩:=Option.isSome_iff_exists.1 hs
  obtain⟨g1,g2⟩:=lotOf_some hz
  obtain⟨i,e1,e2⟩:=lots_made hc (Nat.le_of_lt h) z g1
  exact⟨i,e1,by rw[←g2];exact e2⟩
 refine key m ?_
 unfold missing at hp
 unfold took at hm
 by_cases e:l[a].kind=3
 ·rw[if_pos e]at hm
  rw[e]at hp
  rw[List.mem_singleton.1 hm]
  simpa using hp
 ·rw[if_neg e]at hm
  by_cases e2:l[a].kind=4
  ·rw[if_pos e2]at hm
   rw[e2]at hp
   have:(l[a].into.all fun n=>(lotOf (st l a).roll.lots n).isSome)=true:=by simpa using hp
   exact List.all_eq_true.1 this m hm
  ·rw[if_neg e2]at hm
   cases hm
def Cb (l:List Deal)(P:List Nat)(b:Nat):Prop:= ∀p∈P,p<b→ ∀h:p<l.length,∀m∈took l[p],∃i,maker l m=some i∧i∈P
theorem follow_fold {l:List Deal}{f a:Nat}(ih: ∀n q i,maker l n=some i→i<f→Cb l q.1 (i+1)→(∀p∈q.1,p∈(follow l f n q).1)∧i∈(follow l f n q).1∧Cb l (follow l f n q).1 (i+1)∧ ∀p∈(follow l f n q).1,p∈q.1∨p≤i)(haf:a≤f):
  ∀(m:List Int) (q:List Nat×List Int),(∀n∈m,∃i,i<a∧maker l n=some i)→Cb l q.1 a→(∀p∈q.1,p∈(m.foldl (fun q n=>follow l f n q) q).1)∧(∀n∈m,∃i,maker l n=some i∧i∈(m.foldl (fun q n=>follow l f n q) q).1)∧Cb l (m.foldl (fun q n=>follow l f n q) q).1 a∧ ∀p∈(m.foldl (fun q n=>follow l f n q) q).1,p∈q.1∨p<a
 | [],q,_,hq=>⟨fun p hp=>hp,fun n hn=>(by cases hn),hq,fun p hp=> .inl hp⟩
 |n::m,q,hm,hq=>by
  obtain⟨i,hi,hmk⟩:=hm n (by simp)
  obtain⟨g1,g2,g3,g4⟩:=ih n q i hmk (by omega) (fun p hp hb=>hq p hp (by omega))
  have hq2:Cb l (follow l f n q).1 a:=fun p hp hb h k hk=>by
   rcases g4 p hp with e|e
   ·obtain⟨j,e1,e2⟩:=hq p e hb h k hk
    exact⟨j,e1,g1 j e2⟩
   ·exact g3 p hp (by omega) h k hk
  obtain⟨k1,k2,k3,k4⟩:=follow_fold ih haf m (follow l f n q) (fun x hx=>hm x (List.mem_cons_of_mem _ hx)) hq2
  rw[List.foldl_cons]
  refine⟨fun p hp=>k1 p (g1 p hp),fun x hx=> ?_,k3,fun p hp=> ?_⟩
  ·rcases List.mem_cons.1 hx with rfl|hx
   ·exact⟨i,hmk,k1 i g2⟩
   ·exact k2 x hx
  ·rcases k4 p hp with e|e
   ·rcases g4 p e with e|e
    ·exact .inl e
    ·exact .inr (by omega)
   ·exact .inr e
theorem follow_ok {l:List Deal}(hc:(check l).2=0): ∀(f:Nat) (n:Int) (q:List Nat×List Int) (a:Nat),maker l n=some a→a<f→Cb l q.1 (a+1)→(∀p∈q.1,p∈(follow l f n q).1)∧a∈(follow l f n q).1∧Cb l (follow l f n q).1 (a+1)∧ ∀p∈(follow l f n q).1,p∈q.1∨p≤a
 |0,_,_,_,_,h,_=>absurd h (by omega)
 |f+1,n,q,a,hm,haf,hq=>by
  obtain⟨hal,hmk⟩:=idx_at hm
  have hg:l.getD a default=l[a]:=by simp[List.getD,hal]
  unfold follow
  rw[show idx (fun x=>makes x n) l=some a from hm]
  dsimp only
  rw[hg]
  obtain⟨r,hr⟩: ∃r,(if l[a].kind=1∧(!q.2.contains n)=true then q.2++[n]else q.2)=r:=⟨_,rfl⟩
  rw[hr]
  by_cases e:q.1.contains a=true
  ·rw[if_pos e]
   exact⟨fun p hp=>hp,by simpa using e,hq,fun p hp=> .inl hp⟩
  rw[if_neg e]
  have htm:=took_made hc hal
  have hq2:Cb l (q.1++[a]) a:=fun p hp hb h k hk=>by
   rcases List.mem_append.1 hp with g|g
   ·obtain⟨j,e1,e2⟩:=hq p g (by omega) h k hk
    exact⟨j,e1,List.mem_append_left _ e2⟩
   ·rw[List.mem_singleton.1 g]at hb
    omega
  obtain⟨k1,k2,k3,k4⟩:=follow_fold (fun n q i h1 h2 h3=>follow_ok hc f n q i h1 h2 h3) (show a≤f by omega) (took l[a]) (q.1++[a],r) htm hq2
  have hfin: ∀Q:List Nat×List Int,(∀p∈q.1++[a],p∈Q.1)→(∀m∈took l[a],∃i,maker l m=some i∧i∈Q.1)→Cb l Q.1 a→(∀p∈Q.1,p∈q.1++[a]∨p<a)→(∀p∈q.1,p∈Q.1)∧a∈Q.1∧Cb l Q.1 (a+1)∧ ∀p∈Q.1,p∈q.1∨p≤a:=fun Q c1 c2 c3 c4=>by
   refine⟨fun p hp=>c1 p (List.mem_append_left _ hp),c1 a (List.mem_append_right _ (by simp)),fun p hp hb h m hmm=> ?_,fun p hp=> ?_⟩
   ·by_cases e2:p=a
    ·subst e2
     exact c2 m hmm
    ·exact c3 p hp (by omega) h m hmm
   ·rcases c4 p hp with g|g
    ·rcases List.mem_append.1 g with g|g
     ·exact .inl g
     ·exact .inr (by rw[List.mem_singleton.1 g];exact Nat.le_refl _)
    ·exact .inr (by omega)
  have hfin2:=hfin _ k1 k2 k3 k4
  unfold took at hfin2
  by_cases e3:l[a].kind=3
  ·rw[if_pos e3]at hfin2 ⊢
   exact hfin2
  ·rw[if_neg e3]at hfin2 ⊢
   by_cases e4:l[a].kind=4
   ·rw[if_pos e4]at hfin2 ⊢
    exact hfin2
   ·rw[if_neg e4]at hfin2 ⊢
    exact hfin2
def Rk (l:List Deal)(q:List Nat×List Int):Prop:=q.1.Nodup∧ ∀p∈q.1,∀h:p<l.length,l[p].kind=1→l[p].lot∈q.2
theorem follow_rk {l:List Deal}: ∀(f:Nat) (n:Int) (q:List Nat×List Int),Rk l q→Rk l (follow l f n q)
 |0,_,_,h=>h
 |f+1,n,q,h=>by
  have key: ∀(m:List Int) (q:List Nat×List Int),Rk l q→Rk l (m.foldl (fun q m=>follow l f m q) q):=by
   intro m
   induction m with
   |nil=>intro q h;exact h
   |cons x m ih2=>intro q h;rw[List.foldl_cons];exact ih2 _ (follow_rk f x q h)
  unfold follow
  cases hi:idx (fun x=>makes x n) l with
  |none=>exact h
  |some a=>
   obtain⟨hal,hmk⟩:=idx_at hi
   have hg:l.getD a default=l[a]:=by simp[List.getD,hal]
   dsimp only
   rw[hg]
   obtain⟨r,hr⟩: ∃r,(if l[a].kind=1∧(!q.2.contains n)=true then q.2++[n]else q.2)=r:=⟨_,rfl⟩
   rw[hr]
   have hsub: ∀y∈q.2,y∈r:=fun y hy=>by
    rw[←hr]
    split
    ·exact List.mem_append_left _ hy
    ·exact hy
   have hn:l[a].kind=1→l[a].lot∈r:=fun e=>by
    have e2:l[a].lot=n:=by
     rcases makes_kinds hmk with g|g|g
     ·exact g.2
     ·rw[g.1]at e;cases e
     ·rw[g.1]at e;cases e
    rw[e2,←hr]
    by_cases c:q.2.contains n=true
    ·rw[if_neg (fun g=>by have:=g.2;rw[c]at this;cases this)]
     simpa using c
    ·rw[if_pos ⟨e,by simpa using c⟩]
     simp
   by_cases e:q.1.contains a=true
   ·rw[if_pos e]
    exact⟨h.1,fun p hp hl hk=>hsub _ (h.2 p hp hl hk)⟩
   rw[if_neg e]
   have h2:Rk l (q.1++[a],r):=by
    refine⟨?_,fun p hp hl hk=> ?_⟩
    ·rw[List.nodup_append]
     refine⟨h.1,by simp,fun x hx y hy=> ?_⟩
     rw[List.mem_singleton.1 hy]
     rintro rfl
     exact e (by simpa using hx)
    ·rcases List.mem_append.1 hp with g|g
     ·exact hsub _ (h.2 p g hl hk)
     ·obtain rfl:=List.mem_singleton.1 g
      exact hn hk
   split
   ·exact follow_rk f _ _ h2
   split
   ·exact key _ _ h2
   ·exact h2
end Go.Proofs.Rt
set_option linter.all false
set_option linter.unusedSimpArgs false
set_option linter.unusedVariables false
set_option linter.unusedSectionVars false
namespace Go.Proofs.Rt
def lineP (l:List Deal)(n:Int):List Nat:=(lineQ l n).1
def lineT (l:List Deal)(n:Int)(p:Nat):Bool:=(lineP l n).contains p
theorem lineT_iff {l:List Deal}{n:Int}{p:Nat}:lineT l n p=true↔p∈lineP l n:=by unfold lineT;exact List.contains_iff_mem
theorem lineP_ok (l:List Deal)(n:Int):Rk l (lineQ l n):=follow_rk _ n _ ⟨by simp,fun p hp=>by cases hp⟩
theorem lineP_lt (l:List Deal)(n:Int): ∀p∈lineP l n,p<l.length:=follow_lt l _ n ([],[]) fun p hp=>by cases hp
theorem lineP_none {l:List Deal}{n:Int}(h:maker l n=none):lineP l n=[]:=by
 unfold lineP lineQ follow
 rw[show idx (fun x=>makes x n) l=none from h]
theorem lineP_cl {l:List Deal}(hc:(check l).2=0){n:Int}{a:Nat}(ha:maker l n=some a):a∈lineP l n∧Cl l (lineT l n):=by
 obtain⟨hal,_⟩:=idx_at ha
 obtain⟨_,k2,k3,k4⟩:=follow_ok hc (l.length+1) n ([],[]) a ha (by omega) (fun p hp=>by cases hp)
 have k5: ∀p∈lineP l n,p≤a:=fun p hp=>(k4 p hp).resolve_left (by simp)
 refine⟨k2,fun p hp ht=> ?_⟩
 have hm:p∈lineP l n:=lineT_iff.1 ht
 have h:=k3 p hm (by have:=k5 p hm;omega) hp
 refine⟨fun e=> ?_,fun e m hmm=> ?_⟩
 ·obtain⟨i,e1,e2⟩:=h l[p].lot (by unfold took;rw[if_pos e];simp)
  exact⟨i,e1,lineT_iff.2 e2⟩
 ·obtain⟨i,e1,e2⟩:=h m (by unfold took;rw[if_neg (by rw[e];decide),if_pos e];exact hmm)
  exact⟨i,e1,lineT_iff.2 e2⟩
theorem line_entry {l:List Deal}(hc:(check l).2=0){n:Int}(hT:Cl l (lineT l n)): ∀(f a:Nat) (m:Int),a<f→maker l m=some a→a∈lineP l n→ ∃p,∃h:p<l.length,p∈lineP l n∧l[p].kind=1
 |0,_,_,h,_,_=>absurd h (by omega)
 |f+1,a,m,haf,hm,hin=>by
  obtain⟨hal,hmk⟩:=idx_at hm
  have ht:lineT l n a=true:=lineT_iff.2 hin
  have htm:=took_made hc hal
  have hcl:=hT a hal ht
  rcases makes_kinds hmk with g|g|g
  ·exact⟨a,hal,hin,g.1⟩
  ·have hf:=(refused_zero (right_at hc hal)).2.1
   unfold formed at hf
   rw[g.1]at hf
   simp only[Bool.and_eq_true,lotsOk_iff]at hf
   have hl:=hf.2.2.1.1
   obtain⟨k,hk⟩:=List.exists_mem_of_length_pos (show 0<l[a].into.length by omega)
   obtain⟨i,e1,e2⟩:=hcl.2 g.1 k hk
   obtain⟨j,e3,e4⟩:=htm k (by unfold took;rw[if_neg (by rw[g.1];decide),if_pos g.1];exact hk)
   rw[e1]at e4
   cases e4
   exact line_entry hc hT f i k (by omega) e1 (lineT_iff.1 e2)
  ·obtain⟨i,e1,e2⟩:=hcl.1 g.1
   obtain⟨j,e3,e4⟩:=htm l[a].lot (by unfold took;rw[if_pos g.1];simp)
   rw[e1]at e4
   cases e4
   exact line_entry hc hT f i _ (by omega) e1 (lineT_iff.1 e2)
theorem linePs_eq (l:List Deal)(n:Int):linePs l n=((List.range l.length).filter (lineT l n)).map fun p:Nat=>(p:Int):=by
 have hp:((lineP l n).map fun p:Nat=>(p:Int)).Perm (((List.range l.length).filter (lineT l n)).map fun p:Nat=>(p:Int)):=by
  refine List.Perm.map _ ?_
  refine(List.perm_ext_iff_of_nodup (show(lineP l n).Nodup from(lineP_ok l n).1) (List.nodup_range.filter _)).2 fun p=> ?_
  rw[List.mem_filter,List.mem_range]
  constructor
  ·intro h;exact⟨lineP_lt l n p h,lineT_iff.2 h⟩
  ·intro h;exact lineT_iff.1 h.2
 unfold linePs
 refine Go.Proofs.YtcffonnijhhhiaaGreatDoor.rise_of hp.symm ?_
 rw[List.pairwise_map]
 exact(List.pairwise_lt_range.filter _).imp fun h=>by omega
def cnt (T:Nat→Bool)(j:Nat):Nat:=((List.range j).filter T).length
theorem cnt_next (T:Nat→Bool)(j:Nat):cnt T (j+1)=if T j=true then cnt T j+1 else cnt T j:=by
 unfold cnt
 rw[List.range_succ,List.filter_append,List.length_append,List.filter_cons]
 split<;>simp_all
theorem cnt_at {T:Nat→Bool}{j N:Nat}(h:j<N):(T j=true→((List.range N).filter T)[cnt T j]?=some j)∧(T j=false→ ∀p,((List.range N).filter T)[cnt T j]?=some p→j<p):=by
 have e:List.range N=List.range j++(j::(List.range (N-(j+1))).map fun q=>j+(q+1)):=by
  have h1:= @List.range_add j (N-(j+1)+1)
  rw[show j+(N-(j+1)+1)=N by omega,List.range_succ_eq_map,List.map_cons,List.map_map]at h1
  exact h1
 rw[e,List.filter_append]
 unfold cnt
 rw[List.getElem?_append_right (Nat.le_refl _),Nat.sub_self,List.filter_cons]
 refine⟨fun h=>by rw[if_pos h];rfl,fun h p hp=> ?_⟩
 rw[if_neg (by rw[h];decide)]at hp
 obtain⟨q,_,rfl⟩:=List.mem_map.1 (List.mem_filter.1 (List.mem_of_getElem? hp)).1
 omega
theorem ids_ne {l:List Deal}(hc:(check l).2=0){i j:Nat}(hij:i<j)(hj:j<l.length):(l[i]'(by omega)).id≠l[j].id:=
 (refused_zero (right_at hc hj)).2.2.1 _ (List.mem_take_iff_getElem.2 ⟨i,by omega,rfl⟩)
def madeOf (x:Deal)(n:Int):Bool:=(x.kind !=3&&x.lot==n)||(x.kind==3&&x.into.contains n)
def madeTo (T:Nat→Bool)(l:List Deal)(n:Int):Nat→Bool
 |0=>false
 |j+1=>if T j=true then madeTo T l n j||madeOf (l.getD j default) n else madeTo T l n j
theorem madeTo_up {T:Nat→Bool}{l:List Deal}{n:Int}{a:Nat}(ha:T a=true)(hm:madeOf (l.getD a default) n=true): ∀j,a<j→madeTo T l n j=true
 |0,h=>absurd h (by omega)
 |j+1,h=>by
  unfold madeTo
  by_cases e:a=j
  ·subst e
   rw[if_pos ha,hm,Bool.or_true]
  ·rw[madeTo_up ha hm j (by omega)]
   split<;>simp
theorem ent_in {l:List Deal}(hf: ∀x∈l,formed x=true)(T:Nat→Bool): ∀j,j≤l.length→0≤ent T l j∧ent T l j≤10000000000*(j:Int)
 |0,_=>⟨Int.le_refl _,Int.le_refl _⟩
 |j+1,h=>by
  obtain⟨h1,h2⟩:=ent_in hf T j (by omega)
  have hg:l.getD j default=l[j]:=by simp[List.getD,show j<l.length by omega]
  have he:ent T l (j+1)=if T j=true∧l[j].kind=1 then ent T l j+l[j].size else ent T l j:=by rw[←hg];rfl
  rw[he]
  by_cases e:T j=true∧l[j].kind=1
  ·rw[if_pos e]
   have:=hf l[j] (List.getElem_mem (by omega))
   unfold formed at this
   rw[e.2]at this
   simp only[Bool.and_eq_true,inR_iff]at this
   have:=this.2.2
   omega
  ·rw[if_neg e]
   omega
theorem right_formed2 : ∀ {s:St} {done l:List Deal},rightFrom s done l→ ∀x∈l,formed x=true
 |_,_,[],_,x,hx=>by cases hx
 |_,_,y::l,h,x,hx=>by
  rcases List.mem_cons.1 hx with rfl|hx
  ·exact(refused_zero h.1).2.1
  ·exact right_formed2 h.2 x hx
def Rq (l : List Deal) (q : List Nat × List Int) : Prop := q.2.Nodup ∧ ∀ y ∈ q.2, y ∈ l.map (·.lot)
theorem follow_rq {l:List Deal}: ∀(f:Nat) (n:Int) (q:List Nat×List Int),Rq l q→Rq l (follow l f n q)
 |0,_,_,h=>h
 |f+1,n,q,h=>by
  have key: ∀(m:List Int) (q:List Nat×List Int),Rq l q→Rq l (m.foldl (fun q m=>follow l f m q) q):=by
   intro m
   induction m with
   |nil=>intro q h;exact h
   |cons x m ih2=>intro q h;rw[List.foldl_cons];exact ih2 _ (follow_rq f x q h)
  unfold follow
  cases hi:idx (fun x=>makes x n) l with
  |none=>exact h
  |some a=>
   obtain⟨hal,hmk⟩:=idx_at hi
   have hg:l.getD a default=l[a]:=by simp[List.getD,hal]
   dsimp only
   rw[hg]
   obtain⟨r,hr⟩: ∃r,(if l[a].kind=1∧(!q.2.contains n)=true then q.2++[n]else q.2)=r:=⟨_,rfl⟩
   rw[hr]
   have hq: ∀P:List Nat,Rq l (P,r):=fun P=>by
    rw[←hr]
    by_cases c:l[a].kind=1∧(!q.2.contains n)=true
    ·rw[if_pos c]
     refine⟨?_,fun y hy=> ?_⟩
     ·show(q.2++[n]).Nodup
      rw[List.nodup_append]
      refine⟨h.1,by simp,fun x hx y hy=> ?_⟩
      rw[List.mem_singleton.1 hy]
      rintro rfl
      have:=c.2
      rw[List.contains_iff_mem.2 hx]at this
      cases this
     ·rcases List.mem_append.1 (show y∈q.2++[n] from hy)with g|g
      ·exact h.2 y g
      ·rw[List.mem_singleton.1 g]
       have e2:l[a].lot=n:=by
        rcases makes_kinds hmk with g|g|g
        ·exact g.2
        ·exact g.2
        ·rw[g.1]at c;exact absurd c.1 (by decide)
       exact List.mem_map.2 ⟨l[a],List.getElem_mem hal,e2⟩
    ·rw[if_neg c]
     exact h
   split
   ·exact hq _
   split
   ·exact follow_rq f _ _ (hq _)
   split
   ·exact key _ _ (hq _)
   ·exact hq _
theorem linedR_len (l:List Deal)(n:Int):(linedR l n).length≤l.length:=by
 unfold linedR
 split
 ·unfold lineRs rise
  rw[List.length_mergeSort]
  have h:=follow_rq (l:=l) (l.length+1) n ([],[]) ⟨by simp,fun y hy=>by cases hy⟩
  have := h.1.length_le_of_subset (l₂ := l.map (·.lot)) fun y hy => h.2 y hy
  rwa[List.length_map]at this
 ·simp
theorem roots_plain {l:List Deal}{n:Int}(h:lineE l n=0):(check l).2=0∧(∀x∈l,formed x=true)∧
  (lineI l n=((List.range l.length).filter (lineT l n)).map fun p=>(l.getD p default).id)∧0<(lineI l n).length∧0<(linedR l n).length∧
  (∀j (hj:j<l.length),lineT l n j=true→l[j].kind=1→l[j].lot∈linedR l n)∧madeTo (lineT l n) l n l.length=true∧
  (∀day,sizeOf (stOf (onDay l day)).roll.lots n≤ent (lineT l n) l l.length):=by
 unfold lineE at h
 by_cases hc:(check l).2=0
 case neg=>rw[if_pos hc]at h;exact absurd h hc
 have h':=h
 rw[if_neg (by rw[hc];decide)]at h'
 have hne: ¬(linePs l n).length=0:=fun e=>by rw[if_pos e]at h';exact absurd h' (by decide)
 have hE:lineE l n=0:=h
 have hpl:(linePs l n).length=(lineP l n).length:=by
  unfold linePs rise
  rw[List.length_mergeSort,List.length_map]
  rfl
 cases hm:maker l n with
 |none=>rw[hpl,lineP_none hm]at hne;exact absurd rfl hne
 |some a=>
  obtain⟨hain,hcl⟩:=lineP_cl hc hm
  obtain⟨hal,hmk⟩:=idx_at hm
  have hfm:=right_formed2 ((checkGo_iff _ _ _).1 hc)
  have hI:lineI l n=((List.range l.length).filter (lineT l n)).map fun p=>(l.getD p default).id:=by
   unfold lineI linedP
   rw[if_pos hE,linePs_eq,List.map_map]
   exact List.map_congr_left fun p _=>by simp
  have hR:linedR l n=lineRs l n:=by unfold linedR;rw[if_pos hE]
  have hroot: ∀j (hj:j<l.length),lineT l n j=true→l[j].kind=1→l[j].lot∈linedR l n:=fun j hj ht hk=>by
   rw[hR]
   unfold lineRs rise
   rw[List.mem_mergeSort]
   exact(lineP_ok l n).2 j (lineT_iff.1 ht) hj hk
  have hta:lineT l n a=true:=lineT_iff.2 hain
  refine⟨hc,hfm,hI,?_,?_,hroot,?_,fun day=> ?_⟩
  ·unfold lineI linedP
   rw[if_pos hE,List.length_map]
   omega
  ·obtain⟨p,hp,hpin,hk⟩:=line_entry hc hcl (a+1) a n (by omega) hm hain
   exact List.length_pos_of_mem (hroot p hp (lineT_iff.2 hpin) hk)
  ·refine madeTo_up hta ?_ _ hal
   have hg:l.getD a default=l[a]:=by simp[List.getD,hal]
   rw[hg]
   unfold madeOf
   rcases makes_kinds hmk with g|g|g
   ·rw[g.1,g.2];simp
   ·rw[g.1,g.2];simp
   ·have h5:l[a].into.contains n=true:=List.contains_iff_mem.2 g.2
    rw[g.1,h5];simp
  ·obtain⟨m,hmm⟩:=on_prefix hc day
   obtain⟨j,hj⟩: ∃j,(onDay l day).length=j:=⟨_,rfl⟩
   have hjl:j≤l.length:=by
    have:=congrArg List.length hmm
    rw[List.length_append]at this
    omega
   have htk:onDay l day=l.take j:=by
    have:l.take j=(onDay l day++m).take j:=by rw[←hmm]
    rw[this,←hj,List.take_left]
   rw[htk]
   have h1:=sizes_ok hc hcl hfm j hjl (fun m=>m==n) fun y hy e=>by
    have e2:y.number=n:=by simpa using e
    rw[e2]
    exact⟨a,hm,hta⟩
   rw[tot_one (inv_at hc j).lots]at h1
   refine Int.le_trans h1 ?_
   have mono: ∀d,j+d≤l.length→ent (lineT l n) l j≤ent (lineT l n) l (j+d):=by
    intro d
    induction d with
    |zero=>intro _;exact Int.le_refl _
    |succ d ih=>intro hd;exact Int.le_trans (ih (by omega)) (ent_mono hfm (show j+d<l.length by omega))
   have:=mono (l.length-j) (by omega)
   rwa[show j+(l.length-j)=l.length by omega]at this
theorem roots_none {l:List Deal}{n:Int}(hc:(check l).2=0)(h:lineE l n≠0)(day:Int):lotOf (stOf (onDay l day)).roll.lots n=none:=by
 have hpl:(linePs l n).length=(lineP l n).length:=by
  unfold linePs rise
  rw[List.length_mergeSort,List.length_map]
  rfl
 have h0:lineP l n=[]:=by
  unfold lineE at h
  rw[if_neg (by rw[hc];decide)]at h
  refine List.length_eq_zero_iff.1 ?_
  rw[←hpl]
  exact Classical.byContradiction fun e=>h (if_neg e)
 obtain⟨m,hmm⟩:=on_prefix hc day
 have hjl:(onDay l day).length≤l.length:=by
  have:=congrArg List.length hmm
  rw[List.length_append]at this
  omega
 have htk:onDay l day=l.take (onDay l day).length:=by
  have:l.take (onDay l day).length=(onDay l day++m).take (onDay l day).length:=by rw[←hmm]
  rw[this,List.take_left]
 cases hs:lotOf (stOf (onDay l day)).roll.lots n with
 |none=>rfl
 |some z=>
  rw[htk]at hs
  obtain⟨g1,g2⟩:=lotOf_some hs
  obtain⟨i,_,e⟩:=lots_made hc hjl z g1
  rw[g2]at e
  have:=(lineP_cl hc e).1
  rw[h0]at this
  cases this
end Go.Proofs.Rt
set_option linter.all false
set_option linter.unusedSimpArgs false
set_option linter.unusedVariables false
set_option linter.unusedSectionVars false
namespace Go.Proofs.YtcffonnijhhhiaaGreatDoor
open Go Go.RowKit Go.Maps Mp
attribute [-simp] Prod.forall Prod.exists
attribute [-go_sem] loadVar storeVar Builtin.append_
attribute [local go_sem] lk_int lk_lots lk_parts lk_holds lk_mE lk_mS lk_sL lk_sE lk_sS fld0 fld1
set_option maxRecDepth 100000 in
set_option maxHeartbeats 2000000 in
theorem lotOf_a (A:Option Addr)(c:Nat)(L:List Dp)(day n:Int)(w:World)(h:Dls w w.heap.size A L)(hm:L.length≤1000000)(hn:i64 n):Calls Tryz.prog 64 #[.slice A L.length c,.int .i64 day,.int .i64 n] w (EndL w (lotX (dls L) day n) (lotE (dls L) day n)):=by
 have b0:Below w.heap.size w (w.alloc (.cells zcL 54)):=by go_grown
 have k0:=heap_alloc_new w (.cells zcL 54)
 have ho:=onSt_a A c L day _ (h.up b0) hm
 unfold EndOd at ho
 by_cases h0:(Rt.check (dls L)).2=0
 case neg=>
  simp only[h0,if_false]at ho
  have e1:lotE (dls L) day n=(Rt.check (dls L)).2:=if_pos h0
  have e2:lotX (dls L) day n=⟨0,0,[]⟩:=by unfold lotX onR;rw[if_neg h0];rfl
  rw[e1,e2]
  have hq2:((Rt.check (dls L)).2 !=0)=true:=by simpa using h0
  generalize (Rt.check (dls L)).2=E2 at ho hq2
  clear h0 e1 e2 h
  go_enter Tryz.func64,Tryz.ntmps64
  go_wp2_with fail
  refine ho.mono ?_
  clear ho
  rintro e w1 ⟨hb,rfl⟩
  have k1:=(hb.block _ (by simp)).trans k0
  obtain⟨W7,st7,k7,g7⟩:=st_row w1 w.heap.size 54 54 zcL zcL k1 info_lot rfl (by simp[Value.oneCell'])
  have l7:=ld_row k7 Tryz.underlying54 rfl info_lot
  have b7:Below w.heap.size w W7:=(b0.trans (hb.mono b0.size)).grown g7 (by have:=(hb.mono b0.size).size;have:=b0.size;omega) (fun k e=>by cases e;exact Nat.le_refl _)
  go_wp2
  refine bodyPost_ret (v:=.tuple #[.agg #[.int .i64 0,.int .i64 0,.slice none 0 0],.int .i64 E2]) (by simp[results,Tryz.results64,go_sem,l7]) rfl ?_
  exact⟨none,0,rfl,.inl rfl,Nat.le_refl _,fun a ha=>(by cases ha),b7⟩
 simp only[h0,if_true]at ho
 have hr:onR (dls L) day=(stDay (dls L) day).roll:=if_pos h0
 have e1:lotE (dls L) day n=if (Rt.lotOf (stDay (dls L) day).roll.lots n).isSome then 0 else 5:=by unfold lotE;rw[if_neg (by simpa using h0),hr]
 have e2:lotX (dls L) day n=(Rt.lotOf (stDay (dls L) day).roll.lots n).getD ⟨0,0,[]⟩:=by unfold lotX;rw[hr]
 rw[e1,e2]
 generalize stDay (dls L) day=s at ho ⊢
 obtain⟨E,hE⟩: ∃E:Int,(if (Rt.lotOf s.roll.lots n).isSome then 0 else 5)=E:=⟨_,rfl⟩
 obtain⟨X,hX⟩: ∃X:Rt.Lot,(Rt.lotOf s.roll.lots n).getD ⟨0,0,[]⟩=X:=⟨_,rfl⟩
 rw[hE,hX]
 have HE:=Lib.hid hE
 have HX:=Lib.hid hX
 clear h h0 hr e1 e2 hE hX
 go_enter Tryz.func64,Tryz.ntmps64
 go_wp2_with fail
 refine ho.mono ?_
 clear ho
 rintro e w1 ⟨b1',sb,bu,bl,be,bs,ad,rfl,hS,hin⟩
 have b1:Below w.heap.size w w1:=b0.trans (b1'.mono b0.size)
 have hz:=hS.lt
 have hz2:=hS.ord
 have z1:w.heap.size<w1.heap.size:=by have:=b1'.size;simp at this;omega
 obtain⟨hc,hf⟩:=blk_cells hS.blk
 have k1:=(b1'.block _ (by simp)).trans k0
 have hl:=hS.lLot hn
 cases hx:Rt.lotOf s.roll.lots n with
 |none=>
  have hp:ad n=none:=by
   cases hp:ad n with
   |none=>rfl
   |some p=>have:=(ad_iff hS n).1 (by rw[hp];rfl);obtain⟨x,hxm,e⟩:=List.mem_map.1 this;exact absurd e (Rt.lotOf_none.1 hx x hxm)
  rw[hp]at hl
  obtain⟨W7,st7,k7,g7⟩:=st_row w1 w.heap.size 54 54 zcL zcL k1 info_lot rfl (by simp[Value.oneCell'])
  have l7:=ld_row k7 Tryz.underlying54 rfl info_lot
  have b7:Below w.heap.size w W7:=b1.grown g7 (by omega) (fun k e=>by cases e;exact Nat.le_refl _)
  obtain rfl:E=5:=by rw[←HE.out,hx];rfl
  obtain rfl:X=⟨0,0,[]⟩:=by rw[←HX.out,hx];rfl
  clear hx hp k0 HE HX
  go_wp2
  refine bodyPost_ret (v:=.tuple #[.agg #[.int .i64 0,.int .i64 0,.slice none 0 0],.int .i64 5]) (by simp[results,Tryz.results64,go_sem,l7]) rfl ?_
  exact⟨none,0,rfl,.inl rfl,Nat.le_refl _,fun a ha=>(by cases ha),b7⟩
 |some x=>
  obtain⟨hok,p,hp,_⟩:=hS.plot hx
  rw[hp]at hl
  simp only[Option.map_some]at hl
  obtain rfl:E=0:=by rw[←HE.out,hx];rfl
  obtain rfl:x=X:=by rw[←HX.out,hx];rfl
  have hlot:=lot_a hS hx (hin.held x (Rt.lotOf_some hx).1).1
  have hnx:=(Rt.lotOf_some hx).2
  go_wp2_with fail
  refine hlot.mono ?_
  clear hlot hl hc hf
  rintro e w2 ⟨A',c',rfl,hs2,hc2,hf2,b2,_⟩
  have k2:=(b2.block _ z1).trans k1
  obtain⟨W7,st7,k7,g7⟩:=st_row w2 w.heap.size 54 54 zcL #[.int .i64 n,.int .i64 x.size,.slice A' x.held.length c'] k2 info_lot rfl (by simp[Value.oneCell'])
  have l7:=ld_row k7 Tryz.underlying54 rfl info_lot
  have b7:Below w.heap.size w W7:=(b1.trans (b2.mono b1.size)).grown g7 (by have:=b2.size;omega) (fun k e=>by cases e;exact Nat.le_refl _)
  have HS:=Lib.hid (show Seg encH 2 W7 W7.heap.size A' x.held from by
   rcases hs2 with hs2|⟨b,off,hA,hbb,hcell⟩
   ·exact .inl hs2
   ·have:=hf2 _ hA
    simp only at this
    exact .inr ⟨b,off,hA,Nat.lt_of_lt_of_le hbb g7.size,fun i y hy j u hu=>(World.cell?_of_block (g7.block b hbb (by simp;omega))).trans (hcell i y hy j u hu)⟩)
  clear hs2 k0 hp
  go_wp2
  refine bodyPost_ret (v:=.tuple #[.agg #[.int .i64 n,.int .i64 x.size,.slice A' x.held.length c'],.int .i64 0]) (by simp[results,Tryz.results64,go_sem,l7]) rfl ?_
  exact⟨A',c',by rw[hnx],HS.out,hc2,fun a ha=>by have:=hf2 a ha;omega,b7⟩
end Go.Proofs.YtcffonnijhhhiaaGreatDoor
set_option linter.all false
set_option linter.unusedSimpArgs false
set_option linter.unusedVariables false
set_option linter.unusedSectionVars false
namespace Go.Proofs.YtcffonnijhhhiaaGreatDoor
open Go Go.RowKit Go.Maps Mp
attribute [-simp] Prod.forall Prod.exists
attribute [-go_sem] loadVar storeVar run_equalIn_agg Builtin.append_
attribute [local go_sem] lk_int lk_u8 lk_ints lk_sL lk_sE lk_sS lk_holds
theorem below_drewQ {B:Nat}{a w:World}(h:Below B a w)(n:Nat):Below B a (w.drewN n):=⟨h.os,h.tape,h.output,h.size,h.block⟩
end Go.Proofs.YtcffonnijhhhiaaGreatDoor
set_option linter.all false
set_option linter.unusedSimpArgs false
set_option linter.unusedVariables false
set_option linter.unusedSectionVars false
namespace Go.Proofs.YtcffonnijhhhiaaGreatDoor
open Go Go.RowKit Go.Maps Mp
attribute [-simp] Prod.forall Prod.exists
attribute [-go_sem] loadVar storeVar Builtin.append_
attribute [local go_sem] lk_int lk_u8 lk_ints lk_sL lk_sE lk_sS
theorem few30_h (A:Option Addr)(c:Nat)(L:List Dp)(w:World)(h:Seg encD 11 w w.heap.size A L)(hm:L.length≤maxLen):Calls Tryz.prog 36 #[.slice A L.length c] w fun e w'=>e=.returned (.bool (Rt.few (dls L) 30))∧w'=w:=by
 have hfe:=few_a A c L 30 w h hm (by decide)
 obtain⟨b,hb⟩: ∃b,Rt.few (dls L) 30=b:=⟨_,rfl⟩
 rw[hb]at hfe ⊢
 clear h hm hb
 go_enter Tryz.func36,Tryz.ntmps36
 go_wp2_with fail
 refine hfe.mono ?_
 rintro e w' ⟨rfl,rfl⟩
 go_wp2
 go_ret
 exact⟨rfl,rfl⟩
structure Dpo (w:World)(B:Nat)(p:Dp):Prop where
 into:Ints w B p.A1 p.x.into
 sizes:Ints w B p.A2 p.x.sizes
 h1:p.x.into.length≤p.c1
 h2:p.x.sizes.length≤p.c2
theorem Dpo.up {w w':World}{p:Dp}(h:Dpo w w.heap.size p)(hb:Below w.heap.size w w'):Dpo w' w'.heap.size p:=
 ⟨(h.into.below hb).more hb.size,(h.sizes.below hb).more hb.size,h.h1,h.h2⟩
theorem Dpo.ds {w:World}{B:Nat}{p:Dp}(h:Dpo w B p)(h1:p.x.into.length≤1000)(h2:p.x.sizes.length≤1000):DS w B p.A1 p.A2 p.x:=⟨h.into,h.sizes,h1,h2⟩
theorem Dlo.up {w w':World}{A:Option Addr}{L:List Dp}(h:Dlo w w.heap.size A L)(hb:Below w.heap.size w w'):Dlo w' w'.heap.size A L:=
 ⟨(h.seg.below hb).more hb.size,fun p hp=>by
  obtain⟨h1,h2,h3,h4⟩:=h.each p hp
  exact⟨(h1.below hb).more hb.size,(h2.below hb).more hb.size,h3,h4⟩⟩
theorem new_row (w : World) (t : TypeId) (old cells : Array Value) (hi : (Tryz.prog.info? t).map (·.size) = some cells.size) (ho : old.size = cells.size) (h1 : cells.all (·.oneCell') = true) :
  ∃w',(storeVar t ⟨w.heap.size,0,none⟩ (.agg cells)).run Tryz.prog (w.alloc (.cells old t (0,0)))=.ok () w'∧w'.heap[w.heap.size]?=some (.cells cells t (0,0))∧Below w.heap.size w w'∧w.heap.size<w'.heap.size:=by
 obtain⟨w2,st2,k2,g2⟩:=st_row (w.alloc (.cells old t (0,0))) w.heap.size t t old cells (heap_alloc_new w _) hi ho h1
 exact⟨w2,st2,k2,((Below.refl _ w).alloc (Nat.le_refl _) _).grown g2 (by simp) (by intro k e;cases e;exact Nat.le_refl _),(Array.getElem?_eq_some_iff.1 k2).1⟩
end Go.Proofs.YtcffonnijhhhiaaGreatDoor
