/- Part U07 of the proof: Ob Vl Eq Gz. -/
import Derived.Test.YtcffonnijhhhiaaGreatDoorProg
import Derived.WalkKit
import Derived.WalkLawsBesides
import Derived.WalkSpells
import Derived.Handy
import Derived.Lib.Hide
import Derived.Great.BuildSlice
import Derived.Deep.QuietTactic
import Derived.BigQuiet
import Derived.Deep.RegionHeld3
import Derived.Deep.DeepCutAuto
import Derived.Test.YtcffonnijhhhiaaGreatDoorU02
import Derived.Test.YtcffonnijhhhiaaGreatDoorU05
import Derived.Test.YtcffonnijhhhiaaGreatDoorU06
import Derived.Test.YtcffonnijhhhiaaGreatDoorU04
set_option linter.all false
set_option linter.unusedSimpArgs false
set_option linter.unusedVariables false
set_option linter.unusedSectionVars false
namespace Go.Proofs.YtcffonnijhhhiaaGreatDoor
open Go Go.RowKit Mp
theorem stS_eq (lot:Int)(into:List Int):stS lot into=fun E e q=>if (decide (e.1.1=lot)&&into.any fun n=>decide (q=(n,e.1.2)))then some e.2 else E q:=by
 funext E e q
 unfold stS
 by_cases h:e.1.1=lot
 ·rw[if_pos h]
  have:=Rt.fold_same (fun n q=>decide (q=(n,e.1.2))) into e.2 E q
  simp only[decide_eq_true_eq]at this
  rw[this]
  simp[h]
 ·simp[h]
theorem stE_eq (lot:Int)(into:List Int):stE lot into=fun E e q=>if (into.any fun n=>(decide (e.1.1=lot)&&decide (q=(n,e.1.2)))||(decide (e.1.2=lot)&&decide (q=(e.1.1,n))))then some e.2 else E q:=by
 funext E e q
 unfold stE
 have:stE1 lot e=fun E n q=>if ((decide (e.1.1=lot)&&decide (q=(n,e.1.2)))||(decide (e.1.2=lot)&&decide (q=(e.1.1,n))))then some e.2 else E q:=by
  funext E n q
  obtain⟨⟨a,b⟩,d⟩:=e
  unfold stE1
  by_cases h1:a=lot
  ·by_cases h2:b=lot
   ·subst h1
    subst h2
    simp only[if_true,decide_true,Bool.true_and,Bool.or_eq_true,decide_eq_true_eq]
    by_cases h4:q=(b,n)
    ·rw[if_pos h4,if_pos (Or.inr h4)]
    ·rw[if_neg h4]
     by_cases h3:q=(n,b)
     ·rw[if_pos h3,if_pos (Or.inl h3)]
     ·rw[if_neg h3,if_neg (fun h=>h.elim h3 h4)]
   ·simp[h1,h2]
  ·by_cases h2:b=lot
   ·simp[h1,h2]
   ·simp[h1,h2]
 rw[this]
 exact Rt.fold_same (fun n q=>(decide (e.1.1=lot)&&decide (q=(n,e.1.2)))||(decide (e.1.2=lot)&&decide (q=(e.1.1,n)))) into e.2 E q
theorem puts_lots (F : FS) (L : List (Int × Int)) (p : Int → Option Int) (n : Int) (hn : (L.map (·.1)).Nodup) : (F.puts L p).lots n = ((L.find? (fun q => q.1 == n)).map fun q => (⟨q.2, p⟩ : LotF)).or (F.lots n) := by
 unfold FS.puts
 induction L generalizing F with
 |nil=>rfl
 |cons q L ih=>
  obtain⟨h1,h2⟩:=List.nodup_cons.1 hn
  rw[List.foldl_cons,ih _ h2,List.find?_cons]
  by_cases e:q.1=n
  ·subst e
   have:L.find? (fun r=>r.1==q.1)=none:=by
    refine List.find?_eq_none.2 fun r hr hb=>h1 ?_
    show q.1∈_
    rw[←beq_iff_eq.1 hb]
    exact List.mem_map_of_mem (f:=fun x:Int×Int=>x.1) hr
   rw[this]
   simp[FS.put]
  ·have e2:(q.1==n)=false:=by simpa using e
   rw[e2]
   simp only[FS.put]
   rw[if_neg (fun h=>e h.symm)]
theorem puts_used (F : FS) (L : List (Int × Int)) (p : Int → Option Int) (n : Int) : (F.puts L p).used n = ((L.map (·.1)).contains n || F.used n) := by
 unfold FS.puts
 induction L generalizing F with
 |nil=>rfl
 |cons q L ih=>
  rw[List.foldl_cons,ih]
  simp only[FS.put,List.map_cons,List.contains_cons]
  by_cases e:n=q.1
  ·subst e;simp
  ·have e2:(n==q.1)=false:=by simpa using e
   rw[e2]
   simp[e]
section
variable {s : Rt.St} {x : Rt.Deal}
theorem pos_3 (hk:x.kind=3):Rt.possible s x=if ((view s).lots x.lot).isNone then 5 else if (x.into.any fun n=>(view s).used n)then 6 else if Rt.sumI x.sizes !=Rt.sizeOf s.roll.lots x.lot then 71 else 0:=by
 unfold Rt.possible Rt.missing Rt.twice Rt.unlike view
 rw[hk]
 simp
theorem view_ease (h:Rt.Inv s)(k:Int×Int)(v:Int):(view s).eases k=some v↔ ∃e∈s.roll.eases,e.key=k∧e.deal=v:=h.ease_iff k v
theorem view_stint (h:Rt.Inv s)(k:Int×Int)(v:Int×Int):(view s).stints k=some v↔ ∃e∈s.roll.stints,e.key=k∧(e.beasts,e.deal)=v:=h.stint_iff k v
theorem view_3 (h:Rt.Inv s)(hk:x.kind=3){o:Rt.Lot}(ho:Rt.lotOf s.roll.lots x.lot=some o)(hn:x.into.Nodup)(hu: ∀n∈x.into,n∉s.used)(hl:x.sizes.length=x.into.length)
  {D:List ((Int×Int)×(Int×Int))} {D2:List ((Int×Int)×Int)} (hD:Visit (view s).stints D) (hD2:Visit (view s).eases D2):
  view (Rt.does s x)=FS.gone {(view s).puts (x.into.zip x.sizes) (lotV o).parts with stints:=D.foldl (stS x.lot x.into) (view s).stints,eases:=D2.foldl (stE x.lot x.into) (view s).eases} x.lot:=by
 have hfst : (x.into.zip x.sizes).map (·.1) = x.into := List.map_fst_zip (by omega)
 have hin: ∀p∈x.into.zip x.sizes,p.1∈x.into:=fun p hp=>(List.of_mem_zip (a:=p.1) (b:=p.2) hp).1
 have hlu:x.lot∈s.used:=h.number (by rw[ho];rfl)
 have hli:x.lot∉x.into:=fun hm=>hu _ hm hlu
 have hh:Rt.heldOf s.roll.lots x.lot=o.held:=by unfold Rt.heldOf;rw[ho];rfl
 have hd:Rt.does s x=⟨Rt.divide s.roll x,s.used++x.into⟩:=by unfold Rt.does;rw[hk];rfl
 rw[hd]
 refine FS.ext' (fun n=> ?_) (fun n=> ?_) (fun k=> ?_) (fun k=> ?_)
 ·show(s.used++x.into).contains n=((view s).puts (x.into.zip x.sizes) (lotV o).parts).used n
  rw[puts_used,hfst,Bool.eq_iff_iff]
  simp[view,or_comm]
 ·show(Rt.lotOf (Rt.divide s.roll x).lots n).map lotV=if n=x.lot then none else ((view s).puts (x.into.zip x.sizes) (lotV o).parts).lots n
  obtain⟨_,gb,_⟩:=Rt.fold_put (x.into.zip x.sizes) (Rt.heldOf s.roll.lots x.lot) (Rt.gone s.roll.lots x.lot) (Rt.asc_gone h.lots) (by rw[hfst];exact hn) (fun p hp y hy e=>by
   have:=(h.held y (List.mem_filter.1 hy).1).2.2.2
   rw[e]at this
   exact hu _ (hin p hp) this)
  have hlots:(Rt.divide s.roll x).lots=(x.into.zip x.sizes).foldl (fun l p=>Rt.put l ⟨p.1,p.2,Rt.heldOf s.roll.lots x.lot⟩) (Rt.gone s.roll.lots x.lot):=rfl
  rw[hlots,gb,Rt.lotOf_gone,puts_lots _ _ _ _ (by rw[hfst];exact hn),hh]
  by_cases e:n=x.lot
  ·subst e
   have:(x.into.zip x.sizes).find? (fun p=>p.1==x.lot)=none:=by
    refine List.find?_eq_none.2 fun r hr hb=>hli ?_
    rw[←beq_iff_eq.1 hb]
    exact hin r hr
   rw[this]
   simp
  ·rw[if_neg e,if_neg (fun h=>e h.symm)]
   cases (x.into.zip x.sizes).find? (fun p=>p.1==n)<;>rfl
 ·show (Rt.findK Rt.Ease.key (Rt.divide s.roll x).eases k).map (·.deal) = (D2.foldl (stE x.lot x.into) (view s).eases k).filter fun _ => !(k.1 == x.lot || k.2 == x.lot)
  have hold: ∀e∈s.roll.eases,e.over∈s.used∧e.of∈s.used∧e.over≠e.of:=fun e he=>⟨h.number (h.eok e he).2.1,h.number (h.eok e he).2.2,(h.eok e he).1⟩
  have hmem: ∀e∈D2,∃t∈s.roll.eases,t.key=e.1∧t.deal=e.2:=fun e he=>(view_ease h _ _).1 ((hD2.iff e.1 e.2).2 he)
  have hhit: ∀e:(Int×Int)×Int,(x.into.any fun n=>(decide (e.1.1=x.lot)&&decide (k=(n,e.1.2)))||(decide (e.1.2=x.lot)&&decide (k=(e.1.1,n))))=true↔(e.1.1=x.lot∧k.1∈x.into∧k.2=e.1.2)∨(e.1.2=x.lot∧k.2∈x.into∧k.1=e.1.1):=by
   intro e
   obtain⟨k1,k2⟩:=k
   simp only[List.any_eq_true,Bool.or_eq_true,Bool.and_eq_true,decide_eq_true_eq,Prod.mk.injEq]
   constructor
   ·rintro⟨n,hn,⟨a,rfl,b⟩|⟨a,b,rfl⟩⟩
    ·exact .inl ⟨a,hn,b⟩
    ·exact .inr ⟨a,hn,b⟩
   ·rintro(⟨a,b,c⟩|⟨a,b,c⟩)
    ·exact⟨k1,b,.inl ⟨a,rfl,c⟩⟩
    ·exact⟨k2,b,.inr ⟨a,c,rfl⟩⟩
  rw[stE_eq]
  refine Option.ext fun v=> ?_
  rw[Rt.divide_eases,Rt.eases_iff,Option.filter_eq_some_iff,Rt.fold_hit _ _ _ _ _ (fun e he e' he' h1 h2=> ?_)]
  ·have hL: ∀t:Rt.Ease,t∈s.roll.eases.flatMap (Rt.divE x.lot x.into)→t.key=k→ ¬(k.1=x.lot∨k.2=x.lot)∧((t∈s.roll.eases)∨ ∃e∈s.roll.eases,e.deal=t.deal∧((e.over=x.lot∧k.1∈x.into∧k.2=e.of)∨(e.of=x.lot∧k.2∈x.into∧k.1=e.over))):=by
    rintro t ht rfl
    obtain⟨e,he,hte⟩:=List.mem_flatMap.1 ht
    obtain⟨o1,o2,o3⟩:=hold e he
    unfold Rt.divE at hte
    split at hte
    ·rename_i hc
     rw[List.mem_singleton.1 hte]
     exact⟨fun a=>a.elim hc.1 hc.2,.inl he⟩
    ·rename_i hc
     obtain⟨m,hm,rfl⟩:=List.mem_map.1 hte
     by_cases ho:e.over=x.lot
     ·rw[if_pos ho]
      have:e.of≠x.lot:=fun e2=>o3 (ho.trans e2.symm)
      exact⟨fun a=>a.elim (fun a=>hli (a▸hm)) this,.inr ⟨e,he,rfl,.inl ⟨ho,hm,rfl⟩⟩⟩
     ·rw[if_neg ho]
      have ho2:e.of=x.lot:=Classical.byContradiction fun e2=>hc ⟨ho,e2⟩
      exact⟨fun a=>a.elim ho (fun a=>hli (a▸hm)),.inr ⟨e,he,rfl,.inr ⟨ho2,hm,rfl⟩⟩⟩
   constructor
   ·rintro⟨⟨t,ht,htk,htv⟩,hmin⟩
    obtain⟨hno,hcase⟩:=hL t ht htk
    refine⟨?_,by simpa using hno⟩
    rcases hcase with hold'|⟨e,he,hed,hec⟩
    ·refine .inr ⟨fun e he=> ?_,(view_ease h _ _).2 ⟨t,hold',htk,htv⟩⟩
     rw[Bool.eq_false_iff]
     intro hb
     obtain⟨o1,o2,o3⟩:=hold t hold'
     rcases(hhit e).1 hb with ⟨_,b,_⟩|⟨_,b,_⟩
     ·exact hu _ b (by rw[←htk];exact o1)
     ·exact hu _ b (by rw[←htk];exact o2)
    ·exact .inl ⟨(e.key,e.deal),(hD2.iff _ _).1 ((view_ease h _ _).2 ⟨e,he,rfl,rfl⟩),(hhit _).2 hec,by rw[←htv,←hed]⟩
   ·rintro⟨hc,hno⟩
    have hno: ¬(k.1=x.lot∨k.2=x.lot):=by simpa using hno
    have hpre: ∃t∈s.roll.eases.flatMap (Rt.divE x.lot x.into),t.key=k∧t.deal=v:=by
     rcases hc with ⟨e,he,hb,hv⟩|⟨_,hv⟩
     ·obtain⟨t,ht,htk,htv⟩:=hmem e he
      obtain⟨o1,o2,o3⟩:=hold t ht
      rcases(hhit e).1 hb with ⟨a,b,c⟩|⟨a,b,c⟩
      ·have ho:t.over=x.lot:=by rw[←a,←htk];rfl
       refine⟨{t with over:=k.1},List.mem_flatMap.2 ⟨t,ht,?_⟩,?_,htv.trans hv⟩
       ·unfold Rt.divE
        rw[if_neg (fun h=>h.1 ho)]
        exact List.mem_map.2 ⟨k.1,b,if_pos ho⟩
       ·show(k.1,t.of)=k
        rw[show t.of=k.2 from by rw[c,←htk];rfl]
      ·have ho:t.of=x.lot:=by rw[←a,←htk];rfl
       have ho2:t.over≠x.lot:=fun e2=>o3 (e2.trans ho.symm)
       refine⟨{t with of:=k.2},List.mem_flatMap.2 ⟨t,ht,?_⟩,?_,htv.trans hv⟩
       ·unfold Rt.divE
        rw[if_neg (fun h=>h.2 ho)]
        exact List.mem_map.2 ⟨k.2,b,if_neg ho2⟩
       ·show(t.over,k.2)=k
        rw[show t.over=k.1 from by rw[c,←htk];rfl]
     ·obtain⟨t,ht,htk,htv⟩:=(view_ease h _ _).1 hv
      refine⟨t,List.mem_flatMap.2 ⟨t,ht,?_⟩,htk,htv⟩
      unfold Rt.divE
      rw[if_pos ⟨fun e=>hno (.inl (by rw[←htk];exact e)),fun e=>hno (.inr (by rw[←htk];exact e))⟩]
      exact List.mem_singleton.2 rfl
    refine⟨hpre,fun t ht htk=> ?_⟩
    obtain⟨t0,ht0,ht0k,rfl⟩:=hpre
    obtain⟨_,c1⟩:=hL t ht htk
    obtain⟨_,c0⟩:=hL t0 ht0 ht0k
    suffices hs:t0.deal=t.deal by omega
    have key: ∀e∈s.roll.eases,∀e'∈s.roll.eases,e.key=e'.key→e.deal=e'.deal:=fun e he e' he' hee=>by
     have h1:=Rt.findK_mem Rt.Ease.key h.eases he
     have h2:=Rt.findK_mem Rt.Ease.key h.eases he'
     rw[hee,h2]at h1
     cases h1
     rfl
    have kx: ∀t:Rt.Ease,t∈s.roll.eases→t.key=k→k.1∉x.into∧k.2∉x.into:=fun t ht htk=>⟨fun hm=>hu _ hm (by rw[←htk];exact(hold t ht).1),fun hm=>hu _ hm (by rw[←htk];exact(hold t ht).2.1)⟩
    rcases c0 with c0|⟨e0,he0,hd0,c0⟩
    ·rcases c1 with c1|⟨e1,he1,hd1,c1⟩
     ·exact key _ c0 _ c1 (ht0k.trans htk.symm)
     ·obtain⟨n1,n2⟩:=kx t0 c0 ht0k
      rcases c1 with ⟨_,b,_⟩|⟨_,b,_⟩
      ·exact absurd b n1
      ·exact absurd b n2
    ·rcases c1 with c1|⟨e1,he1,hd1,c1⟩
     ·obtain⟨n1,n2⟩:=kx t c1 htk
      rcases c0 with ⟨_,b,_⟩|⟨_,b,_⟩
      ·exact absurd b n1
      ·exact absurd b n2
     ·rw[←hd0,←hd1]
      obtain⟨p1,p2,_⟩:=hold e0 he0
      obtain⟨q1,q2,_⟩:=hold e1 he1
      rcases c0 with ⟨a0,b0,d0⟩|⟨a0,b0,d0⟩<;>rcases c1 with ⟨a1,b1,d1⟩|⟨a1,b1,d1⟩
      ·exact key _ he0 _ he1 (Prod.ext (a0.trans a1.symm) (d0.symm.trans d1))
      ·exact absurd (d1▸q1) (hu _ b0)
      ·exact absurd (d1▸q2) (hu _ b0)
      ·exact key _ he0 _ he1 (Prod.ext (d0.symm.trans d1) (a0.trans a1.symm))
  ·obtain⟨t,ht,htk,htv⟩:=hmem e he
   obtain⟨t',ht',htk',htv'⟩:=hmem e' he'
   obtain⟨p1,p2,_⟩:=hold t ht
   obtain⟨q1,q2,_⟩:=hold t' ht'
   have e1 : t.over = e.1.1 := congrArg (·.1) htk
   have e2 : t.of = e.1.2 := congrArg (·.2) htk
   have e3 : t'.over = e'.1.1 := congrArg (·.1) htk'
   have e4 : t'.of = e'.1.2 := congrArg (·.2) htk'
   have key:e.1=e'.1→e.2=e'.2:=fun hee=>by
    have h1:=(hD2.iff e.1 e.2).2 he
    have h2:=(hD2.iff e'.1 e'.2).2 he'
    rw[hee,h2]at h1
    exact(Option.some.inj h1).symm
   rcases(hhit e).1 h1 with ⟨a0,b0,d0⟩|⟨a0,b0,d0⟩<;>rcases(hhit e').1 h2 with ⟨a1,b1,d1⟩|⟨a1,b1,d1⟩
   ·exact key (Prod.ext (a0.trans a1.symm) (d0.symm.trans d1))
   ·exact absurd (by rw[d1,←e3];exact q1) (hu _ b0)
   ·exact absurd (by rw[d1,←e4];exact q2) (hu _ b0)
   ·exact key (Prod.ext (d0.symm.trans d1) (a0.trans a1.symm))
 ·show(Rt.findK Rt.Stint.key (Rt.divide s.roll x).stints k).map (fun t=>(t.beasts,t.deal))=(D.foldl (stS x.lot x.into) (view s).stints k).filter fun _=> !(k.1==x.lot)
  have hold: ∀e∈s.roll.stints,e.lot∈s.used:=fun e he=>h.number (h.sok e he).1
  have hmem: ∀e∈D,∃t∈s.roll.stints,t.key=e.1∧(t.beasts,t.deal)=e.2:=fun e he=>(view_stint h _ _).1 ((hD.iff e.1 e.2).2 he)
  have hhit: ∀e:(Int×Int)×(Int×Int),(decide (e.1.1=x.lot)&&x.into.any fun n=>decide (k=(n,e.1.2)))=true↔e.1.1=x.lot∧k.1∈x.into∧k.2=e.1.2:=by
   intro e
   obtain⟨k1,k2⟩:=k
   simp only[List.any_eq_true,Bool.and_eq_true,decide_eq_true_eq,Prod.mk.injEq]
   constructor
   ·rintro⟨a,n,hn,rfl,b⟩
    exact⟨a,hn,b⟩
   ·rintro⟨a,b,c⟩
    exact⟨a,k1,b,rfl,c⟩
  rw[stS_eq]
  refine Option.ext fun v=> ?_
  rw[Rt.divide_stints,Rt.stints_iff _ (h.div_pw hn hu),Option.filter_eq_some_iff,Rt.fold_hit _ _ _ _ _ (fun e he e' he' h1 h2=> ?_)]
  ·constructor
   ·rintro⟨t,ht,rfl,rfl⟩
    obtain⟨e,he,hte⟩:=List.mem_flatMap.1 ht
    unfold Rt.divS at hte
    split at hte
    ·rename_i hc
     have hte:=List.mem_singleton.1 hte
     subst hte
     refine⟨.inr ⟨fun e' he'=> ?_,(view_stint h _ _).2 ⟨t,he,rfl,rfl⟩⟩,by simpa [Rt.Stint.key]using hc⟩
     rw[Bool.eq_false_iff]
     intro hb
     exact hu _ ((hhit e').1 hb).2.1 (hold t he)
    ·rename_i hc
     have hc:e.lot=x.lot:=Classical.not_not.1 hc
     obtain⟨m,hm,rfl⟩:=List.mem_map.1 hte
     exact⟨.inl ⟨(e.key,(e.beasts,e.deal)),(hD.iff _ _).1 ((view_stint h _ _).2 ⟨e,he,rfl,rfl⟩),(hhit _).2 ⟨hc,hm,rfl⟩,rfl⟩,by
      have:m≠x.lot:=fun e=>hli (e▸hm)
      simpa [Rt.Stint.key]using this⟩
   ·rintro⟨hc,hno⟩
    have hno: ¬k.1=x.lot:=by simpa using hno
    rcases hc with ⟨e,he,hb,rfl⟩|⟨_,hv⟩
    ·obtain⟨t,ht,htk,htv⟩:=hmem e he
     obtain⟨a,b,c⟩:=(hhit e).1 hb
     have ho:t.lot=x.lot:=by rw[←a,←htk];rfl
     refine⟨{t with lot:=k.1},List.mem_flatMap.2 ⟨t,ht,?_⟩,?_,htv⟩
     ·unfold Rt.divS
      rw[if_neg (fun h=>h ho)]
      exact List.mem_map.2 ⟨k.1,b,rfl⟩
     ·show(k.1,t.owner)=k
      rw[show t.owner=k.2 from by rw[c,←htk];rfl]
    ·obtain⟨t,ht,htk,htv⟩:=(view_stint h _ _).1 hv
     refine⟨t,List.mem_flatMap.2 ⟨t,ht,?_⟩,htk,htv⟩
     unfold Rt.divS
     rw[if_pos fun e=>hno (by rw[←htk];exact e)]
     exact List.mem_singleton.2 rfl
  ·obtain⟨a0,b0,d0⟩:=(hhit e).1 h1
   obtain⟨a1,b1,d1⟩:=(hhit e').1 h2
   have hee:e.1=e'.1:=Prod.ext (a0.trans a1.symm) (d0.symm.trans d1)
   have g1:=(hD.iff e.1 e.2).2 he
   have g2:=(hD.iff e'.1 e'.2).2 he'
   rw[hee,g2]at g1
   exact(Option.some.inj g1).symm
end
end Go.Proofs.YtcffonnijhhhiaaGreatDoor
namespace Go.Proofs.Mp
open Go Go.Maps Go.MapKept
section
variable {P : Program} {K V : Type} {kt t e : TypeId} {ek : K → Value} {ev : V → Value} {ok : K → Prop} {w : World} {b : Nat} {g : K → Option V}
theorem ent_list {l:List MapEntry}(h: ∀x∈l,∃k v,x.key=ek k∧x.val=ev v∧g k=some v): ∃D:List (K×V),D.map (fun p=>(ek p.1,ev p.2))=l.map (fun x=>(x.key,x.val))∧ ∀p∈D,g p.1=some p.2:=by
 induction l with
 |nil=>exact⟨[],rfl,by simp⟩
 |cons x l ih=>
  obtain⟨D,h1,h2⟩:=ih fun y hy=>h y (by simp[hy])
  obtain⟨k,v,h3,h4,h5⟩:=h x (by simp)
  exact⟨(k,v)::D,by simp[h1,h3,h4],fun p hp=>by
   rcases List.mem_cons.1 hp with rfl|hp
   ·exact h5
   ·exact h2 p hp⟩
theorem FM.visit (h:FM ek ok w b fun k=>(g k).map ev)(hi: ∀ {a b},ek a=ek b→a=b)(hv: ∀ {a b},ev a=ev b→a=b)(ht:P.underlying t=some (.map kt e)):
  ∃D,Visit g D∧ ∀ty,(Builtin.len_ #[t] ty #[.map (some b)]).run P w=.ok (.int .i64 (D.length:Nat)) w:=by
 obtain⟨es,c,hb,E⟩:=h
 have hst:=(stamped_iff es c).1 E.st
 obtain⟨D,h1,h2⟩:=ent_list (ek:=ek) (ev:=ev) (g:=g) (l:=es.toList) fun x hx=>by
  obtain⟨k,_,h3,h4⟩:=E.mem x hx
  obtain⟨v,h5,h6⟩:=Option.map_eq_some_iff.1 h4
  exact⟨k,v,h3,h6.symm,h5⟩
 have hlen:D.length=es.size:=by have:=congrArg List.length h1;simpa using this
 have hkeys : (D.map (·.1)).map ek = es.toList.map (·.key) := by
  have:=congrArg (List.map Prod.fst) h1
  simpa [Function.comp_def]using this
 refine⟨D,⟨?_,fun k v=>⟨fun hg=> ?_,fun hp=>h2 _ hp⟩⟩,fun ty=> ?_⟩
 ·have h3 : ((D.map (·.1)).map ek).Nodup := by
   rw[hkeys]
   exact(List.pairwise_map.2 hst.2.2)
  exact(List.pairwise_map.1 h3).imp fun hne e=>hne (by rw[e])
 ·obtain⟨x,hx,h3,h4⟩:=E.get k (ev v) (by simp[hg])
  have:(x.key,x.val)∈es.toList.map (fun x=>(x.key,x.val)):=List.mem_map_of_mem hx
  rw[←h1]at this
  obtain⟨p,hp,h5⟩:=List.mem_map.1 this
  simp only[Prod.mk.injEq]at h5
  obtain⟨q1,q2⟩:=p
  have e1:q1=k:=hi (h5.1.trans h3)
  have e2:q2=v:=hv (h5.2.trans h4)
  rw[←e1,←e2]
  exact hp
 ·rw[hlen]
  simp[Builtin.len_,run_underlying ht,MapKept.run_getObj_map hb,goInt,Result.andThen]
theorem Visit.nodup {D:List (K×V)}(h:Visit g D):D.Nodup:=(List.pairwise_map.1 h.nd).imp fun hne e=>hne (by rw[e])
theorem Visit.ext {f:K→Option V}{D D':List (K×V)}(h:Visit f D)(h':Visit g D')(hs: ∀k v,f k=some v→g k=some v):D.length≤D'.length∧(D.length=D'.length→f=g):=by
 have hsub: ∀p∈D,p∈D':=fun p hp=>(h'.iff p.1 p.2).1 (hs _ _ ((h.iff p.1 p.2).2 hp))
 refine⟨h.nodup.length_le_of_subset (fun p hp=>hsub p hp),fun hl=> ?_⟩
 funext k
 cases hf:f k with
 |some v=>exact(hs k v hf).symm
 |none=>
  cases hg:g k with
  |none=>rfl
  |some v=>
   have hm:=(h'.iff k v).1 hg
   have hn:(k,v)∉D:=fun hp=>by rw[(h.iff k v).2 hp]at hf;cases hf
   have:((k,v)::D).length≤D'.length:=(List.nodup_cons.2 ⟨hn,h.nodup⟩).length_le_of_subset (fun p hp=>by
    rcases List.mem_cons.1 hp with rfl|hp
    ·exact hm
    ·exact hsub p hp)
   simp at this
   omega
end
end Go.Proofs.Mp
namespace Go.Proofs.YtcffonnijhhhiaaGreatDoor
open Go Go.RowKit Mp
attribute [-simp] Prod.forall Prod.exists
theorem indexI_a (A:Option Addr)(c:Nat)(l:List Int)(n:Int)(w:World)(hl:Ints w w.heap.size A l)(hm:l.length≤1000000):
  Calls Tryz.prog 122 #[.slice A l.length c, .int .i64 n] w fun e w' => e = .returned (.int .i64 (Rt.pos (Rt.idx (· == n) l))) ∧ w = w' := by
 go_enter Tryz.func122,Tryz.ntmps122
 go_wp2
 go_loop [8] (fun i=> ∃k:Nat,k≤l.length∧i=.int .i64 k∧Hid (∀j (h:j<l.length),j<k→(l[j]==n)=false)) (fun i=>l.length-(intOf i).toNat)
 case atStart=>exact⟨0,by omega,rfl,Lib.hid fun j _ h=>by omega⟩
 case round=>
  obtain⟨k,hk,rfl,hg⟩:=hrel
  by_cases hlt:k<l.length
  ·obtain⟨b,off,rfl,hbB,q0⟩:=Ints.at1 hl hlt
   obtain⟨y,hy⟩: ∃y,l[k]=y:=⟨_,rfl⟩
   rw[hy]at q0
   have HY:=Lib.hid hy
   clear hy
   by_cases hc:n=y
   ·have hv := Lib.hid (Rt.idx_hit (p := (· == n)) hlt (fun j hj => hg.out j (by omega) hj) (by rw [HY.out, hc]; simp))
    subst hc
    go_wp2
    go_ret
    exact⟨by rw[hv.out];rfl,rfl⟩
   ·have hq:(n==y)=false:=by simpa using hc
    have HC:=Lib.hid (show(l[k]==n)=false by rw[HY.out];simpa using fun e:y=n=>hc e.symm)
    clear hc
    go_wp2
    go_round
    case rel=>exact⟨k+1,by omega,by go_num,Lib.hid fun j h hj=>by
     by_cases e:j=k
     ·subst e;exact HC.out
     ·exact hg.out j h (by omega)⟩
    case measure=>first|(simp[intOf];done)|(simp[intOf];omega)
  ·have hv := Lib.hid (Rt.idx_none (p := (· == n)) (l := l) fun j hj => hg.out j hj (by omega))
   go_wp2
   go_ret
   exact⟨by rw[hv.out];rfl,rfl⟩
theorem hasI_a (A:Option Addr)(c:Nat)(l:List Int)(n:Int)(w:World)(hl:Ints w w.heap.size A l)(hm:l.length≤1000000):
  Calls Tryz.prog 53 #[.slice A l.length c,.int .i64 n] w fun e w'=>e=.returned (.bool (l.contains n))∧w=w':=by
 have HV : Hid (decide (0 ≤ Rt.pos (Rt.idx (· == n) l)) = l.contains n) := by
  unfold Hid
  rw[Rt.pos_ge,Rt.idx_any,List.contains_eq_any_beq]
  congr 1
  funext x
  rw[Bool.eq_iff_iff]
  simp only[beq_iff_eq]
  exact eq_comm
 go_enter Tryz.func53,Tryz.ntmps53
 go_wp2_with (go_at_call 122;refine(indexI_a A c l n w hl hm).mono ?_;rintro e w' ⟨rfl,rfl⟩)
 go_ret
 exact⟨ret_bool (by rw[←HV.out]),rfl⟩
def EndEq (f g:Int→Option Int)(w:World)(e:Ending)(w':World):Prop:= ∃r:Bool,e=.returned (.bool r)∧(r=true↔f=g)∧Below w.heap.size w w'
theorem evI_inj {a b:Int}(h:evI a=evI b):a=b:=by cases h;rfl
set_option maxRecDepth 100000 in
theorem equal_a {w:World}{b1 b2:Nat}{f g:Int→Option Int}(h1:FM ekI okI w b1 (fI f))(h2:FM ekI okI w b2 (fI g)):
  Calls Tryz.prog 296 #[.map (some b1),.map (some b2)] w (EndEq f g w):=by
 obtain⟨D1,v1,e1⟩:=h1.visit (P:=Tryz.prog) kI.inj evI_inj Tryz.underlying134
 obtain⟨D2,v2,e2⟩:=h2.visit (P:=Tryz.prog) kI.inj evI_inj Tryz.underlying134
 have hb1:=h1.lt
 have hb2:=h2.lt
 have HF:=Lib.hid (show f=g→D1.length=D2.length from fun e=>by
  subst e
  have a:=(v1.ext v2 fun k v h=>h).1
  have b:=(v2.ext v1 fun k v h=>h).1
  omega)
 by_cases hl:D1.length=D2.length
 ·have HG:=Lib.hid (show(∀k v,f k=some v→g k=some v)→f=g from fun hs=>(v1.ext v2 hs).2 hl)
  have HV1:=Lib.hid v1
  rw[hl]at e1
  clear v1 v2 hl
  go_enter Tryz.func296,Tryz.ntmps296
  go_wp2_with (first
   |(at_range;refine wpList_range_fm _ rfl _ _ rfl kI Tryz.underlying134 rfl h1 ?_;intro w0 n0 hrg0 hg0 hs0)
   |go_in)
  go_frame
  have b0:Below w.heap.size w w0:=⟨hg0.os,hg0.tape,hg0.output,hg0.size,fun i hi=>hg0.block i hi (by simp)⟩
  go_loopw [16] (fun _ wr=> ∃(left:Int→Bool) (n:Nat),RG ekI okI wr b1 w.heap.size (fI f) left n∧FM ekI okI wr b2 (fI g)∧Hid (∀k v,f k=some v→left k=false→g k=some v)∧Below w.heap.size w wr) (fun _ wr=>wr.rangeLeft b1 w.heap.size)
  case atStart=>exact⟨fun k=>(f k).isSome,n0,by simpa [fI]using hrg0,h2.same (b0.block _ hb2),Lib.hid fun k v h hl=>(by simp[h]at hl),b0⟩
  case round=>
   obtain⟨left,n,hrg,hm2,hdone,hb⟩:=hrel
   go_wp2_with (first
    |(at_next;refine wpList_next_rg _ rfl _ rfl kI evI f (fun _=>rfl) _ _ rfl hrg ?_ ?_)
    |go_in)
   ·intro hl0
    go_wp2
    go_ret
    exact⟨true,rfl,⟨fun _=>HG.out fun k v h=>hdone.out k v h (hl0 k),fun _=>rfl⟩,hb⟩
   ·intro k v w1 n1 hk hlx hv hrg1 hlt hg1 hs1 hen
    have hb1':Below w.heap.size w w1:=hb.trans ⟨hg1.os,hg1.tape,hg1.output,hg1.size,fun i hi=>hg1.block i (by have:=hb.size;omega) (by simp;omega)⟩
    have hm3:=hm2.kept hg1 (by simp;omega)
    have hlk:=(FM.lookI hm3 kI Tryz.underlying134 (keyI hk.i64.1 hk.i64.2)).2
    have HVV:=Lib.hid hv
    have HRG:=Lib.hid hrg
    clear hv hlx hrg
    cases hgk:g k with
    |none=>
     rw[hgk]at hlk
     have HGK:=Lib.hid hgk
     clear hgk
     go_wp2
     go_ret
     exact⟨false,rfl,⟨fun h=>(by cases h),fun e=>by have:=HVV.out;rw[e,HGK.out]at this;cases this⟩,hb1'⟩
    |some u=>
     rw[hgk]at hlk
     have HGK:=Lib.hid hgk
     clear hgk
     simp only[Option.getD_some,Option.isSome_some]at hlk
     by_cases huv:v=u
     ·subst huv
      go_wp2
      go_roundw
      case rel=>exact⟨_,n1,hrg1,hm3,Lib.hid fun j z hj hlj=>by
       by_cases e:j=k
       ·subst e
        rw[HVV.out]at hj
        cases hj
        exact HGK.out
       ·exact hdone.out j z hj (by simpa [e]using hlj),hb1'⟩
      case measure=>rw[hrg1.left_eq,HRG.out.left_eq];exact hlt
     ·have hq:(v !=u)=true:=by simpa using huv
      have HUV:=Lib.hid huv
      clear huv
      go_wp2
      go_ret
      exact⟨false,rfl,⟨fun h=>(by cases h),fun e=>by have:=HVV.out;rw[e,HGK.out]at this;exact absurd (Option.some.inj this).symm HUV.out⟩,hb1'⟩
 ·have hq:((D1.length:Int) !=(D2.length:Int))=true:=bne_iff_ne.2 (by omega)
  have HL:=Lib.hid hl
  clear hl v1 v2
  go_enter Tryz.func296,Tryz.ntmps296
  go_wp2
  go_ret
  exact⟨false,rfl,⟨fun h=>(by cases h),fun e=>absurd (HF.out e) HL.out⟩,Below.refl _ _⟩
end Go.Proofs.YtcffonnijhhhiaaGreatDoor
namespace Go.Proofs.YtcffonnijhhhiaaGreatDoor
open Go Go.RowKit Mp
attribute [-simp] Prod.forall Prod.exists
def grz (st : Int × Int → Option (Int × Int)) (n : Int) (left : Int × Int → Bool) (o : Int) : Option Int := if left (n, o) then none else (st (n, o)).map (·.1)
abbrev FS.grazed (F : FS) (n : Int) (o : Int) : Option Int := (F.stints (n, o)).map (·.1)
theorem grz_start (st:Int×Int→Option (Int×Int))(n:Int):grz st n (fun k=>(st k).isSome)=fun _=>none:=by
 funext o
 unfold grz
 cases h:st (n,o)<;>simp[h]
theorem grz_end {st : Int × Int → Option (Int × Int)} {left : Int × Int → Bool} (n : Int) (h : ∀ k, left k = false) : grz st n left = fun o => (st (n, o)).map (·.1) := by
 funext o
 unfold grz
 rw[h]
 rfl
theorem grz_hit {st:Int×Int→Option (Int×Int)}{left:Int×Int→Bool}{n:Int}{k v:Int×Int}(hv:st k=some v)(hk:k.1=n):
  upd (fI (grz st n left)) k.2 (some (.int .i64 v.1))=fI (grz st n fun j=>left j&& !decide (j=k)):=by
 funext o
 obtain⟨a,b⟩:=k
 simp only at hk
 subst hk
 unfold upd fI grz
 by_cases e:o=b
 ·subst e
  simp[hv]
 ·simp[e]
theorem grz_miss {st:Int×Int→Option (Int×Int)}{left:Int×Int→Bool}{n:Int}{k:Int×Int}(hk:k.1≠n):grz st n (fun j=>left j&& !decide (j=k))=grz st n left:=by
 funext o
 have:(n,o)≠k:=fun e=>hk (by rw[←e])
 unfold grz
 simp[this]
set_option maxRecDepth 100000 in
set_option maxHeartbeats 1000000 in
theorem grazed_a {w:World}{B sb bu bl be bs:Nat}{ad:Int→Option (Nat×Nat)}{F:FS}(h:SM w B sb bu bl be bs ad F)(n:Int):
  Calls Tryz.prog 142 #[.pointer (some ⟨sb,0,none⟩),.int .i64 n] w fun e w'=>e=.returned (.map (some w.heap.size))∧FM ekI okI w' w.heap.size (fI (F.grazed n))∧Below w.heap.size w w':=by
 have hz:=h.lt
 have ho:=h.ord
 have hmm:= @run_makeMap Tryz.prog
 have kb:=(Below.heap_alloc w (.map #[] 0) _ hz).trans h.blk
 obtain⟨hc,hf⟩:=blk_cells kb
 have hst:FM ekP okP (w.alloc (.map #[] 0)) bs (fG F.stints):=h.stints.alloc _
 go_enter Tryz.func142,Tryz.ntmps142
 go_wp2_with (first
  |(at_range;refine wpList_range_fm _ rfl _ _ rfl kP Tryz.underlying130 rfl hst ?_;intro w0 n0 hrg0 hg0 hs0)
  |go_in)
 go_frame
 simp only[World.size_alloc]
 simp only[World.size_alloc]at hrg0 hs0
 have b0:Below w.heap.size w w0:=((Below.refl _ w).alloc (Nat.le_refl _) (.map #[] 0)).grown (row:=none) hg0 (by simp) (by simp)
 have fm0:FM ekI okI w0 w.heap.size (fI (grz F.stints n fun k=>(F.stints k).isSome)):=by
  rw[grz_start]
  exact(FM.made w).same (hg0.block _ (by simp) (by simp))
 go_loopw [14] (fun _ wr=> ∃(left:Int×Int→Bool) (m:Nat),RG ekP okP wr bs (w.heap.size+1) (fG F.stints) left m∧FM ekI okI wr w.heap.size (fI (grz F.stints n left))∧Below w.heap.size w wr) (fun _ wr=>wr.rangeLeft bs (w.heap.size+1))
 case atStart=>exact⟨fun k=>(F.stints k).isSome,n0,by simpa [fG]using hrg0,fm0,b0⟩
 case round=>
  obtain⟨left,m,hrg,hfm,hb⟩:=hrel
  have hlt0:=hfm.lt
  have hlt1:=hrg.lt
  go_wp2_with (first
   |(at_next;refine wpList_next_rg _ rfl _ rfl kP evG F.stints (fun _=>rfl) _ _ rfl hrg ?_ ?_)
   |go_in)
  ·intro hl0
   rw[grz_end n hl0]at hfm
   go_wp2
   go_ret
   exact⟨rfl,hfm,hb⟩
  ·intro k v w1 n1 hk hlx hv hrg1 hlt hg1 hs1 hen
   have fm1:=hfm.kept hg1 (by simp)
   have b1:Below w.heap.size w w1:=hb.trans ⟨hg1.os,hg1.tape,hg1.output,hg1.size,fun i hi=>hg1.block i (by omega) (by simp;omega)⟩
   obtain⟨W,hW⟩: ∃W:World,W=(w1.alloc (.cells #[.int .i64 k.1,.int .i64 k.2] 163)).alloc (.cells #[.int .i64 v.1,.int .i64 v.2] 171):=⟨_,rfl⟩
   have bA:Below w1.heap.size w1 W:=by rw[hW];exact((Below.refl _ _).alloc (Nat.le_refl _) _).alloc (by simp) _
   have fmA:=fm1.same (w':=W) (bA.block _ fm1.lt)
   have hrgA:=hrg1.same (w':=W) (bA.block _ hrg1.fm.lt) (bA.block _ hrg1.lt)
   have bB:Below w.heap.size w W:=b1.trans (bA.mono (by omega))
   have HV:=Lib.hid hv
   have HRG:=Lib.hid hrg
   have HW:=Lib.hid hW.symm
   clear hv hlx hrg
   by_cases hkn:k.1=n
   ·have hq:(k.1==n)=true:=by simpa using hkn
    have HK:=Lib.hid hkn
    obtain⟨w2,hrun,fm2,g2,s2⟩:=fmA.update kI Tryz.underlying134 hk.2 (.int .i64 v.1)
    rw[hW]at hrun
    rw[grz_hit HV.out HK.out]at fm2
    clear hkn hW
    go_wp2
    go_roundw
    case rel=>exact⟨_,n1,hrgA.kept g2 (by simp;omega) (by simp),fm2,bB.grown g2 bB.size (by intro j e;cases e;exact Nat.le_refl _)⟩
    case measure=>rw[(hrgA.kept g2 (by simp;omega) (by simp)).left_eq,HRG.out.left_eq];exact hlt
   ·have hq:(k.1==n)=false:=by simpa using hkn
    have HK:=Lib.hid hkn
    clear hkn hW
    go_wp2
    rw[HW.out]
    go_roundw
    case rel=>exact⟨_,n1,hrgA,by rw[grz_miss HK.out];exact fmA,bB⟩
    case measure=>rw[hrgA.left_eq,HRG.out.left_eq];exact hlt
end Go.Proofs.YtcffonnijhhhiaaGreatDoor
