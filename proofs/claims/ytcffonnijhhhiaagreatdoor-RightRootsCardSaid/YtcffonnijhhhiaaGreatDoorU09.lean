/- Part U09 of the proof: Oc Mn Do Dp Od. -/
import Derived.Test.YtcffonnijhhhiaaGreatDoorProg
import Derived.WalkKit
import Derived.WalkLawsBesides
import Derived.WalkSpells
import Derived.Handy
import Derived.Lib.Hide
import Derived.Great.BuildSlice
import Derived.Deep.QuietTactic
import Derived.BigQuiet
import Derived.Deep.RegionHeld3
import Derived.Deep.DeepCutAuto
import Derived.Defers
import Derived.Recover
import Derived.Test.YtcffonnijhhhiaaGreatDoorU07
import Derived.Test.YtcffonnijhhhiaaGreatDoorU08
import Derived.Test.YtcffonnijhhhiaaGreatDoorU06
import Derived.Test.YtcffonnijhhhiaaGreatDoorU05
set_option linter.all false
set_option linter.unusedSimpArgs false
set_option linter.unusedVariables false
set_option linter.unusedSectionVars false
namespace Go.Proofs.YtcffonnijhhhiaaGreatDoor
open Go Go.RowKit Mp
theorem mgS_eq (f lot:Int):mgS f lot=fun E e q=>if (decide (e.1.1=f)&&decide (q=(lot,e.1.2)))then some e.2 else E q:=by
 funext E e q
 unfold mgS
 by_cases h:e.1.1=f<;>simp[h]
theorem mgE_eq (into:List Int)(lot:Int):mgE into lot=fun E e q=>if (into.contains e.1.1 !=into.contains e.1.2&&decide (q=mgK into lot e.1))then some (Rt.lesser (E q) e.2)else E q:=by
 funext E e q
 obtain⟨k,d⟩:=e
 by_cases h:into.contains k.1=into.contains k.2
 ·have hb:(into.contains k.1 !=into.contains k.2)=false:=by rw[h];simp
  rw[mgE_same h,hb,Bool.false_and]
  rfl
 ·have hb:(into.contains k.1 !=into.contains k.2)=true:=by simpa using h
  rw[hb,Bool.true_and]
  cases hp:(match E (mgK into lot k)with|none=>true|some d0=>decide (d<d0))with
  |true=>
   rw[mgE_put h rfl hp]
   by_cases hq:q=mgK into lot k
   ·subst hq
    simp only[if_true,decide_true]
    cases hE:E (mgK into lot k)with
    |none=>rfl
    |some d0=>
     rw[hE]at hp
     have:d<d0:=by simpa using hp
     exact congrArg some (by show d=min d0 d;omega)
   ·simp[hq]
  |false=>
   rw[mgE_keep h rfl hp]
   by_cases hq:q=mgK into lot k
   ·subst hq
    simp only[if_true,decide_true]
    cases hE:E (mgK into lot k)with
    |none=>rw[hE]at hp;cases hp
    |some d0=>
     rw[hE]at hp
     have: ¬d<d0:=by simpa using hp
     exact congrArg some (by show d0=min d0 d;omega)
   ·simp[hq]
theorem goneL (l:List Int)(F:FS):(∀n,(l.foldl FS.gone F).used n=F.used n)∧(∀n,(l.foldl FS.gone F).lots n=if n∈l then none else F.lots n)∧
  (∀k,(l.foldl FS.gone F).eases k=(F.eases k).filter fun _=> !(l.contains k.1||l.contains k.2))∧ ∀k,(l.foldl FS.gone F).stints k=(F.stints k).filter fun _=> !(l.contains k.1):=by
 induction l generalizing F with
 |nil=>
  refine⟨fun _=>rfl,fun n=>by simp,fun k=> ?_,fun k=> ?_⟩
  ·show F.eases k=_
   cases F.eases k<;>rfl
  ·show F.stints k=_
   cases F.stints k<;>rfl
 |cons m l ih=>
  obtain⟨a,b,c,d⟩:=ih (F.gone m)
  refine⟨fun n=>a n,fun n=> ?_,fun k=> ?_,fun k=> ?_⟩
  ·rw[List.foldl_cons,b]
   show(if n∈l then none else if n=m then none else F.lots n)=_
   by_cases e1:n∈l<;>by_cases e2:n=m<;>simp[e1,e2]
  ·rw[List.foldl_cons,c]
   show((F.eases k).filter fun _=> !(k.1==m||k.2==m)).filter _=_
   cases F.eases k with
   |none=>rfl
   |some v=>
    simp only[List.contains_cons,Option.filter]
    cases k.1==m<;>cases k.2==m<;>cases l.contains k.1<;>cases l.contains k.2<;>rfl
  ·rw[List.foldl_cons,d]
   show((F.stints k).filter fun _=> !(k.1==m)).filter _=_
   cases F.stints k with
   |none=>rfl
   |some v=>
    simp only[List.contains_cons,Option.filter]
    cases k.1==m<;>cases l.contains k.1<;>rfl
section
variable {s : Rt.St} {x : Rt.Deal}
theorem view_size (s:Rt.St)(n:Int):(view s).size n=Rt.sizeOf s.roll.lots n:=by
 unfold FS.size Rt.sizeOf
 rw[show(view s).lots n=(Rt.lotOf s.roll.lots n).map lotV from rfl]
 cases Rt.lotOf s.roll.lots n<;>rfl
theorem view_parts (s:Rt.St)(n:Int):(view s).parts n=partOf (Rt.heldOf s.roll.lots n):=by
 unfold FS.parts Rt.heldOf
 rw[show(view s).lots n=(Rt.lotOf s.roll.lots n).map lotV from rfl]
 cases Rt.lotOf s.roll.lots n<;>rfl
theorem view_grazed (s : Rt.St) (n o : Int) : (view s).grazed n o = (Rt.findK Rt.Stint.key s.roll.stints (n, o)).map (·.beasts) := by
 unfold FS.grazed
 rw[show(view s).stints (n,o)=(Rt.findK Rt.Stint.key s.roll.stints (n,o)).map (fun t=>(t.beasts,t.deal)) from rfl]
 cases Rt.findK Rt.Stint.key s.roll.stints (n,o)<;>rfl
theorem view_4 (h:Rt.Inv s)(hk:x.kind=4)(hne:x.into≠ [])(hi: ∀n∈x.into,(Rt.lotOf s.roll.lots n).isSome)(hu:x.lot∉s.used)
  {D:List ((Int×Int)×(Int×Int))} {D2:List ((Int×Int)×Int)} (hD:Visit (view s).stints D) (hD2:Visit (view s).eases D2):
  view (Rt.does s x)=x.into.foldl FS.gone {(view s).put x.lot (Rt.sumI (x.into.map (view s).size)) ((view s).parts (x.into.headD 0))with stints:=D.foldl (mgS (x.into.headD 0) x.lot) (view s).stints,eases:=D2.foldl (mgE x.into x.lot) (view s).eases}:=by
 obtain⟨f,hf⟩: ∃f,x.into.headD 0=f:=⟨_,rfl⟩
 have hfm:f∈x.into:=by
  cases hx:x.into with
  |nil=>exact absurd hx hne
  |cons a l=>rw[←hf,hx];simp
 have hli:x.lot∉x.into:=fun hm=>hu (h.number (hi _ hm))
 have hd:Rt.does s x=⟨Rt.merge s.roll x,s.used++[x.lot]⟩:=by unfold Rt.does;rw[hk];rfl
 have hms:=Rt.merge_stints s.roll x
 rw[hd,hf]
 rw[hf]at hms
 obtain⟨ga,gb,gc,gd⟩:=goneL x.into {(view s).put x.lot (Rt.sumI (x.into.map (view s).size)) ((view s).parts f)with stints:=D.foldl (mgS f x.lot) (view s).stints,eases:=D2.foldl (mgE x.into x.lot) (view s).eases}
 refine FS.ext' (fun n=> ?_) (fun n=> ?_) (fun k=> ?_) (fun k=> ?_)
 ·rw[ga]
  show(s.used++[x.lot]).contains n=(decide (n=x.lot)||s.used.contains n)
  rw[Bool.eq_iff_iff]
  simp[or_comm]
 ·rw[gb]
  show(Rt.lotOf (Rt.merge s.roll x).lots n).map lotV=if n∈x.into then none else if n=x.lot then some ⟨Rt.sumI (x.into.map (view s).size),(view s).parts f⟩else (Rt.lotOf s.roll.lots n).map lotV
  obtain⟨_,fb,fc⟩:=Rt.fold_gone x.into s.roll.lots h.lots
  have hlots:(Rt.merge s.roll x).lots=Rt.put (x.into.foldl Rt.gone s.roll.lots) ⟨x.lot,Rt.sumI (x.into.map (Rt.sizeOf s.roll.lots)),Rt.heldOf s.roll.lots f⟩:=by rw[←hf];rfl
  have hun: ∀y∈x.into.foldl Rt.gone s.roll.lots,y.number≠x.lot:=fun y hy=>h.unused hu y ((fc y).1 hy).1
  rw[hlots,Rt.lotOf_put (x:=⟨x.lot,_,_⟩) hun,fb]
  have hz:x.into.map (view s).size=x.into.map (Rt.sizeOf s.roll.lots):=List.map_congr_left fun n _=>view_size s n
  rw[hz,view_parts]
  by_cases e:n=x.lot
  ·subst e
   rw[if_pos rfl,if_neg hli,if_pos rfl]
   rfl
  ·rw[if_neg (fun h=>e h.symm),if_neg e]
   by_cases e2:n∈x.into
   ·rw[if_pos e2,if_pos e2];rfl
   ·rw[if_neg e2,if_neg e2]
 ·rw[gc]
  show (Rt.findK Rt.Ease.key (Rt.merge s.roll x).eases k).map (·.deal) = (D2.foldl (mgE x.into x.lot) (view s).eases k).filter fun _ => !(x.into.contains k.1 || x.into.contains k.2)
  rw[mgE_eq]
  refine Option.ext fun v=> ?_
  rw[Rt.merge_eases,Rt.eases_iff,Option.filter_eq_some_iff,Rt.fold_mini,Rt.minF]
  have hmem: ∀e∈D2,∃t∈s.roll.eases,t.key=e.1∧t.deal=e.2:=fun e he=>(view_ease h _ _).1 ((hD2.iff e.1 e.2).2 he)
  have claim: ∀d,(∃t∈s.roll.eases.flatMap (Rt.mrgE x.lot x.into),t.key=k∧t.deal=d)↔(k.1∉x.into∧k.2∉x.into)∧
    (d ∈ ((D2.filter fun e => x.into.contains e.1.1 != x.into.contains e.1.2 && decide (k = mgK x.into x.lot e.1)).map (·.2)) ∨ (view s).eases k = some d) := by
   intro d
   constructor
   ·rintro⟨t,ht,rfl,rfl⟩
    obtain⟨e,he,hte⟩:=List.mem_flatMap.1 ht
    have heD:(e.key,e.deal)∈D2:=(hD2.iff _ _).1 ((view_ease h _ _).2 ⟨e,he,rfl,rfl⟩)
    unfold Rt.mrgE at hte
    cases h1:x.into.contains e.over<;>cases h2:x.into.contains e.of<;>rw[h1,h2]at hte<;>simp only[Bool.and_self,Bool.and_false,Bool.false_and,Bool.false_eq_true,if_true,if_false,List.mem_singleton,List.not_mem_nil]at hte
    ·subst hte
     have n1:e.over∉x.into:=by simpa using h1
     have n2:e.of∉x.into:=by simpa using h2
     exact⟨⟨n1,n2⟩,.inr ((view_ease h _ _).2 ⟨e,he,rfl,rfl⟩)⟩
    ·subst hte
     have n1:e.over∉x.into:=by simpa using h1
     refine⟨⟨n1,hli⟩,.inl (List.mem_map.2 ⟨_,List.mem_filter.2 ⟨heD,?_⟩,rfl⟩)⟩
     show(x.into.contains e.over !=x.into.contains e.of&&decide ((e.over,x.lot)=mgK x.into x.lot e.key))=true
     unfold mgK
     rw[show e.key.1=e.over from rfl,h1,h2]
     simp
    ·subst hte
     have n2:e.of∉x.into:=by simpa using h2
     refine⟨⟨hli,n2⟩,.inl (List.mem_map.2 ⟨_,List.mem_filter.2 ⟨heD,?_⟩,rfl⟩)⟩
     show(x.into.contains e.over !=x.into.contains e.of&&decide ((x.lot,e.of)=mgK x.into x.lot e.key))=true
     unfold mgK
     rw[show e.key.1=e.over from rfl,h1,h2,show e.key.2=e.of from rfl]
     simp
   ·rintro⟨⟨n1,n2⟩,hc|hc⟩
    ·obtain⟨e,he,rfl⟩:=List.mem_map.1 hc
     obtain⟨heD,hb⟩:=List.mem_filter.1 he
     obtain⟨t,ht,htk,htv⟩:=hmem e heD
     rw[Bool.and_eq_true,decide_eq_true_eq,←htk]at hb
     obtain⟨hb1,hb2⟩:=hb
     unfold mgK at hb2
     rw[show t.key.1=t.over from rfl,show t.key.2=t.of from rfl]at hb1 hb2
     refine⟨⟨if x.into.contains t.over then x.lot else t.over,if x.into.contains t.of then x.lot else t.of,t.deal⟩,List.mem_flatMap.2 ⟨t,ht,?_⟩,?_,htv⟩
     ·unfold Rt.mrgE
      cases h1:x.into.contains t.over<;>cases h2:x.into.contains t.of<;>rw[h1,h2]at hb1<;>simp at hb1 ⊢
     ·rw[hb2]
      cases h1:x.into.contains t.over<;>cases h2:x.into.contains t.of<;>rw[h1,h2]at hb1<;>simp[Rt.Ease.key]at hb1 ⊢
    ·obtain⟨t,ht,rfl,rfl⟩:=(view_ease h _ _).1 hc
     have h1:x.into.contains t.over=false:=by simpa [Rt.Ease.key]using n1
     have h2:x.into.contains t.of=false:=by simpa [Rt.Ease.key]using n2
     refine⟨t,List.mem_flatMap.2 ⟨t,ht,?_⟩,rfl,rfl⟩
     unfold Rt.mrgE
     rw[h1,h2]
     exact List.mem_singleton.2 rfl
  constructor
  ·rintro⟨hp,hmin⟩
   obtain⟨⟨n1,n2⟩,hq⟩:=(claim v).1 hp
   refine⟨⟨hq,fun u hu'=> ?_,fun u hu'=> ?_⟩,?_⟩
   ·obtain⟨t,ht,htk,rfl⟩:=(claim u).2 ⟨⟨n1,n2⟩,.inl hu'⟩
    exact hmin t ht htk
   ·obtain⟨t,ht,htk,rfl⟩:=(claim u).2 ⟨⟨n1,n2⟩,.inr hu'⟩
    exact hmin t ht htk
   ·simp[n1,n2]
  ·rintro⟨⟨hq,h1,h2⟩,hn⟩
   have hn:k.1∉x.into∧k.2∉x.into:=by simpa using hn
   refine⟨(claim v).2 ⟨hn,hq⟩,fun t ht htk=> ?_⟩
   rcases((claim t.deal).1 ⟨t,ht,htk,rfl⟩).2 with hc|hc
   ·exact h1 _ hc
   ·exact h2 _ hc
 ·rw[gd]
  show(Rt.findK Rt.Stint.key (Rt.merge s.roll x).stints k).map (fun t=>(t.beasts,t.deal))=(D.foldl (mgS f x.lot) (view s).stints k).filter fun _=> !(x.into.contains k.1)
  have hold: ∀e∈s.roll.stints,e.lot∈s.used:=fun e he=>h.number (h.sok e he).1
  have hmem: ∀e∈D,∃t∈s.roll.stints,t.key=e.1∧(t.beasts,t.deal)=e.2:=fun e he=>(view_stint h _ _).1 ((hD.iff e.1 e.2).2 he)
  have hhit: ∀e:(Int×Int)×(Int×Int),(decide (e.1.1=f)&&decide (k=(x.lot,e.1.2)))=true↔e.1.1=f∧k=(x.lot,e.1.2):=by
   intro e
   simp only[Bool.and_eq_true,decide_eq_true_eq]
  rw[mgS_eq]
  refine Option.ext fun v=> ?_
  rw[hms,Rt.stints_iff _ (h.mrg_pw hu),Option.filter_eq_some_iff,Rt.fold_hit _ _ _ _ _ (fun e he e' he' h1 h2=> ?_)]
  ·constructor
   ·rintro⟨t,ht,rfl,rfl⟩
    obtain⟨e,he,hte⟩:=List.mem_flatMap.1 ht
    unfold Rt.mrgS at hte
    split at hte
    ·rename_i hc
     have hte:=List.mem_singleton.1 hte
     subst hte
     exact⟨.inl ⟨(e.key,(e.beasts,e.deal)),(hD.iff _ _).1 ((view_stint h _ _).2 ⟨e,he,rfl,rfl⟩),(hhit _).2 ⟨hc,rfl⟩,rfl⟩,by simpa [Rt.Stint.key]using hli⟩
    ·rename_i hc
     split at hte
     ·cases hte
     ·rename_i hc2
      have hte:=List.mem_singleton.1 hte
      subst hte
      refine⟨.inr ⟨fun e' he'=> ?_,(view_stint h _ _).2 ⟨t,he,rfl,rfl⟩⟩,by simpa [Rt.Stint.key]using hc2⟩
      rw[Bool.eq_false_iff]
      intro hb
      have e1 : t.lot = x.lot := congrArg (·.1) ((hhit e').1 hb).2
      exact hu (e1▸hold t he)
   ·rintro⟨hc,hno⟩
    have hno:k.1∉x.into:=by simpa using hno
    rcases hc with ⟨e,he,hb,rfl⟩|⟨_,hv⟩
    ·obtain⟨t,ht,htk,htv⟩:=hmem e he
     obtain⟨a,b⟩:=(hhit e).1 hb
     have ho:t.lot=f:=by rw[←a,←htk];rfl
     refine⟨{t with lot:=x.lot},List.mem_flatMap.2 ⟨t,ht,?_⟩,?_,htv⟩
     ·unfold Rt.mrgS
      rw[if_pos ho]
      exact List.mem_singleton.2 rfl
     ·rw[b,←htk];rfl
    ·obtain⟨t,ht,htk,htv⟩:=(view_stint h _ _).1 hv
     have hl:t.lot=k.1:=by rw[←htk];rfl
     refine⟨t,List.mem_flatMap.2 ⟨t,ht,?_⟩,htk,htv⟩
     unfold Rt.mrgS
     rw[if_neg (fun e=>hno (by rw[←hl,e];exact hfm)),if_neg (by rw[hl];simpa using hno)]
     exact List.mem_singleton.2 rfl
  ·obtain⟨a0,b0⟩:=(hhit e).1 h1
   obtain⟨a1,b1⟩:=(hhit e').1 h2
   have hee:e.1=e'.1:=Prod.ext (a0.trans a1.symm) (by
    have:=b0.symm.trans b1
    exact(Prod.mk.inj this).2)
   have g1:=(hD.iff e.1 e.2).2 he
   have g2:=(hD.iff e'.1 e'.2).2 he'
   rw[hee,g2]at g1
   exact(Option.some.inj g1).symm
end
end Go.Proofs.YtcffonnijhhhiaaGreatDoor
namespace Go.Proofs.YtcffonnijhhhiaaGreatDoor
open Go Go.RowKit Mp
section
variable {w : World} {B sb bu bl be bs : Nat} {ad : Int → Option (Nat × Nat)} {F : FS}
set_option maxRecDepth 100000 in
set_option maxHeartbeats 4000000 in
theorem merge_none (h:SM w B sb bu bl be bs ad F)(x:Dl)(A1 A2:Option Addr)(c1 c2:Nat)
  (hi: ∀n∈x.into,okI n) (hl:x.into.length≤10) (hA1:Ints w B A1 x.into) (hno:(x.into.any fun n=>(F.lots n).isNone)=true) (F':FS):
  Calls Tryz.prog 260 #[.pointer (some ⟨sb,0,none⟩),.agg (xcs x A1 A2 c1 c2)] w (EndK w B sb bu bl be bs ad F' 5):=by
 have hz0:=h.lt
 have ho:=h.ord
 have Hi:=Lib.hid hi
 have b0:Below w.heap.size w (w.alloc (oDl x A1 A2 c1 c2)):=by go_grown
 have hc:=needs_a (h.below b0) A1 c1 x.into ((hA1.below (b0.mono (by omega))).more (by simp;omega)) (by omega) (fun n hn=>(Hi.out n hn).i64)
 rw[hno]at hc
 clear hi hno
 go_enter Tryz.func260,Tryz.ntmps260
 go_wp2_with fail
 refine hc.mono ?_
 rintro e w1 ⟨rfl,hx⟩
 exact⟨rfl,EndK.no (by decide) rfl (b0.trans (hx.mono b0.size))⟩
set_option maxRecDepth 100000 in
set_option maxHeartbeats 4000000 in
theorem merge_twice (h:SM w B sb bu bl be bs ad F)(x:Dl)(A1 A2:Option Addr)(c1 c2:Nat)(h1:okI x.lot)
  (hi: ∀n∈x.into,okI n) (hl:x.into.length≤10) (hA1:Ints w B A1 x.into) (hall:(x.into.any fun n=>(F.lots n).isNone)=false) (hnew:F.used x.lot=true) (F':FS):
  Calls Tryz.prog 260 #[.pointer (some ⟨sb,0,none⟩),.agg (xcs x A1 A2 c1 c2)] w (EndK w B sb bu bl be bs ad F' 6):=by
 have hz0:=h.lt
 have ho:=h.ord
 have Hi:=Lib.hid hi
 have b0:Below w.heap.size w (w.alloc (oDl x A1 A2 c1 c2)):=by go_grown
 have kx:=heap_alloc_new w (oDl x A1 A2 c1 c2)
 have hc:=needs_a (h.below b0) A1 c1 x.into ((hA1.below (b0.mono (by omega))).more (by simp;omega)) (by omega) (fun n hn=>(Hi.out n hn).i64)
 rw[hall]at hc
 replace hc:=hc.mono fun _ _ h=>EndU.ok h
 clear hi hall
 go_enter Tryz.func260,Tryz.ntmps260
 go_wp2_with fail
 refine hc.mono ?_
 rintro e w1 ⟨rfl,hx⟩
 have hx1:=hx.size
 simp only[World.size_alloc]at hx1
 have b2:Below w.heap.size w w1:=b0.trans (hx.mono b0.size)
 have kx1:w1.heap[w.heap.size]?=some (oDl x A1 A2 c1 c2):=(hx.block w.heap.size (by simp)).trans kx
 have hz1:w.heap.size<w1.heap.size:=(Array.getElem?_eq_some_iff.1 kx1).1
 obtain⟨hcx,hfx⟩:=blk_cells kx1
 have ka:=heap_alloc_new w1 (.cells #[.int .i64 x.lot] 3)
 have b3:Below w.heap.size w (w1.alloc (.cells #[.int .i64 x.lot] 3)):=b2.alloc (by omega) _
 have hnw:=new_1 (h.below b3) ka h1.i64
 rw[hnew]at hnw
 clear hc hnew
 go_wp2_with fail
 refine hnw.mono ?_
 rintro e w2 ⟨rfl,hy⟩
 exact⟨rfl,EndK.no (by decide) rfl (b3.trans (hy.mono b3.size))⟩
end
end Go.Proofs.YtcffonnijhhhiaaGreatDoor
namespace Go.Proofs.YtcffonnijhhhiaaGreatDoor
open Go Go.RowKit Mp
def kindF (n:Int):Option Value:=
 if n=1 then some (.func (.func 257) #[] #[])else if n=2 then some (.func (.func 258) #[] #[])else if n=3 then some (.func (.func 259) #[] #[])
 else if n=4 then some (.func (.func 260) #[] #[])else if n=5 then some (.func (.func 261) #[] #[])else if n=6 then some (.func (.func 262) #[] #[])
 else if n=7 then some (.func (.func 263) #[] #[])else if n=8 then some (.func (.func 264) #[] #[])else none
abbrev okU (n:Int):Prop:=0≤n∧n≤255
set_option maxRecDepth 100000 in
theorem kinds_a (w:World):Calls Tryz.prog 219 #[] w fun e w'=>e=.returned (.map (some w.heap.size))∧FM ekU okU w' w.heap.size kindF∧Below w.heap.size w w':=by
 have hmm:= @run_makeMap Tryz.prog
 have tu:=Tryz.underlying235
 obtain⟨w1,r1,f1,g1,s1⟩:=(FM.made (ek:=ekU) (ok:=okU) w).update kU tu (k:=1) (by decide) (.func (.func 257) #[] #[])
 obtain⟨w2,r2,f2,g2,s2⟩:=f1.update kU tu (k:=2) (by decide) (.func (.func 258) #[] #[])
 obtain⟨w3,r3,f3,g3,s3⟩:=f2.update kU tu (k:=3) (by decide) (.func (.func 259) #[] #[])
 obtain⟨w4,r4,f4,g4,s4⟩:=f3.update kU tu (k:=4) (by decide) (.func (.func 260) #[] #[])
 obtain⟨w5,r5,f5,g5,s5⟩:=f4.update kU tu (k:=5) (by decide) (.func (.func 261) #[] #[])
 obtain⟨w6,r6,f6,g6,s6⟩:=f5.update kU tu (k:=6) (by decide) (.func (.func 262) #[] #[])
 obtain⟨w7,r7,f7,g7,s7⟩:=f6.update kU tu (k:=7) (by decide) (.func (.func 263) #[] #[])
 obtain⟨w8,r8,f8,g8,s8⟩:=f7.update kU tu (k:=8) (by decide) (.func (.func 264) #[] #[])
 have e8:(upd (upd (upd (upd (upd (upd (upd (upd (fun _=>none) 1 (some (.func (.func 257) #[] #[]))) 2 (some (.func (.func 258) #[] #[]))) 3 (some (.func (.func 259) #[] #[])))
   4 (some (.func (.func 260) #[] #[]))) 5 (some (.func (.func 261) #[] #[]))) 6 (some (.func (.func 262) #[] #[]))) 7 (some (.func (.func 263) #[] #[]))) 8 (some (.func (.func 264) #[] #[])))=kindF:=by
  funext n
  unfold upd kindF
  by_cases h1:n=1
  ·subst h1;rfl
  by_cases h2:n=2
  ·subst h2;rfl
  by_cases h3:n=3
  ·subst h3;rfl
  by_cases h4:n=4
  ·subst h4;rfl
  by_cases h5:n=5
  ·subst h5;rfl
  by_cases h6:n=6
  ·subst h6;rfl
  by_cases h7:n=7
  ·subst h7;rfl
  by_cases h8:n=8
  ·subst h8;rfl
  simp only[if_neg h1,if_neg h2,if_neg h3,if_neg h4,if_neg h5,if_neg h6,if_neg h7,if_neg h8]
 rw[e8]at f8
 have gt:=((((((g1.trans g2).trans g3).trans g4).trans g5).trans g6).trans g7).trans g8
 have hb:Below w.heap.size w w8:=((Below.refl _ w).alloc (Nat.le_refl _) (.map #[] 0)).grown gt (by simp) (by intro j e;cases e;exact Nat.le_refl _)
 clear e8
 go_enter Tryz.func219,Tryz.ntmps219
 go_wp2
 go_ret
 exact⟨rfl,f8,hb⟩
set_option maxRecDepth 20000 in
theorem do1_up (be:Nat)(E y:Int)(w:World)(he:w.heap[be]?=some (.cells #[.int .i64 y] 26 (0,0))):
  CallsD Tryz.prog 218 #[.pointer (some ⟨be,0,none⟩)] (.panicking (gave E)) w fun e u' w'=>
   e=.returned (.tuple #[])∧u'=.panicking [{v:=.iface 233 (.agg #[.int .i64 E]),recovered:=true}]∧w'=(w.setCell ⟨be,0,none⟩ (.int .i64 E)).alloc (.cells #[.int .i64 E] 233):=by
 obtain⟨hce,hfe⟩:=blk_cells he
 have hbe:=(Array.getElem?_eq_some_iff.1 he).1
 have hta: ∀w:World,(Instr.typeAssert (.iface 233 (.agg #[.int .i64 E])) 20 233 true).run Tryz.prog w=.ok (.tuple #[.agg #[.int .i64 E],.bool true]) w:=fun _=>by kernel_rfl
 refine callsD_of_wpS Tryz.func218 rfl fun c₀ cs hu=> ?_
 apply wpS_seq
 apply wpS_region
 simp[wpOpsS,go_sem,recoverD,hu,Tryz.ntmps218,Exit.thenS]
 refine wpS_of_wp ?_
 rw[show(#[Value.pointer (some ⟨be,0,none⟩)]++(Array.replicate 11 undef).setIfInBounds 3 (Value.iface 233 (.agg #[.int .i64 E])):Array Value)=
  #[.pointer (some ⟨be,0,none⟩),undef,undef,undef,.iface 233 (.agg #[.int .i64 E]),undef,undef,undef,undef,undef,undef,undef] from rfl]
 go_wp2
 exact⟨rfl,_,rfl,_,results_none rfl _ _ _,rfl,rfl,rfl⟩
set_option maxRecDepth 20000 in
theorem do1_idle (be:Nat)(w:World):
  CallsD Tryz.prog 218 #[.pointer (some ⟨be,0,none⟩)] .returning w fun e u' w'=>e=.returned (.tuple #[])∧u'=.returning∧w'=w:=by
 refine callsD_of_wpS Tryz.func218 rfl fun c₀ cs hu=> ?_
 apply wpS_seq
 apply wpS_region
 simp[wpOpsS,go_sem,recoverD,hu,Tryz.ntmps218,Exit.thenS]
 refine wpS_of_wp ?_
 rw[show(#[Value.pointer (some ⟨be,0,none⟩)]++(Array.replicate 11 undef).setIfInBounds 3 .nilIface:Array Value)=
  #[.pointer (some ⟨be,0,none⟩),undef,undef,undef,.nilIface,undef,undef,undef,undef,undef,undef,undef] from rfl]
 go_wp2
 cases c₀
 simp_all[bodyPostS,results,Tryz.results218]
end Go.Proofs.YtcffonnijhhhiaaGreatDoor
namespace Go.Proofs.YtcffonnijhhhiaaGreatDoor
open Go Go.RowKit Go.Maps Mp
attribute [-simp] Prod.forall Prod.exists
theorem zero_kind (w:World):(zeroValue 234).run Tryz.prog w=.ok .nilFunc w:=by kernel_rfl
theorem do_put (R:Ending→World→Prop)(d:Nat)(v:Value)(h4:d≠4)(c:List PanicEntry)(a:Act)(w:World)(h:bodyPostD Tryz.prog Tryz.f178 R (.panic c) (a.put (some d) v) w):bodyPostD Tryz.prog Tryz.f178 R (.panic c) a w:=by
 have e:results Tryz.f178 (a.put (some d) v).tmps=results Tryz.f178 a.tmps:=by
  simp only[results,Tryz.results178,Act.put,List.mapM_toArray,List.mapM_cons,List.mapM_nil,put_get h4]
 exact leaves_congr (T:=(a.put (some d) v).tmps) (fun w=>by rw[e]) _ _ _ h
def EndO (w:World)(B sb bu bl be bs:Nat)(ad:Int→Option (Nat×Nat))(F F':FS)(E:Int)(e:Ending)(w':World):Prop:=e=.returned (.int .i64 E)∧ ∃ad',SM w' B sb bu bl be bs ad' (if E=0 then F' else F)∧Fr B sb ad w w'∧New w ad ad'
section
variable {w : World} {B sb bu bl be bs : Nat} {ad : Int → Option (Nat × Nat)} {F : FS}
attribute [-go_sem] loadVar
theorem lv_int (a:Addr)(w:World):(loadVar 3 a).run Tryz.prog w=(load a).run Tryz.prog w:=lv_scalar Tryz.underlying3 rfl a w
theorem lv_u8 (a:Addr)(w:World):(loadVar 5 a).run Tryz.prog w=(load a).run Tryz.prog w:=lv_scalar Tryz.underlying5 rfl a w
theorem lv_errno (a:Addr)(w:World):(loadVar 26 a).run Tryz.prog w=(load a).run Tryz.prog w:=lv_scalar Tryz.underlying26 rfl a w
attribute [local go_sem] lv_int lv_u8 lv_errno
set_option maxRecDepth 100000 in
set_option maxHeartbeats 2000000 in
theorem do_a (h:SM w B sb bu bl be bs ad F)(x:Dl)(A1 A2:Option Addr)(c1 c2:Nat){g:FuncId}(hkf:kindF x.kind=some (.func (.func g) #[] #[]))(hwf:(Lit.int .u8 x.kind).wf=true)(eg: ∀args w,(callFunc g args).run Tryz.prog w=.ok (.enter g args) w)(F':FS)(E:Int)
  (hc: ∀W,Below w.heap.size w W→Calls Tryz.prog g #[.pointer (some ⟨sb,0,none⟩),.agg (xcs x A1 A2 c1 c2)] W (EndK W B sb bu bl be bs ad F' E)):
  Calls Tryz.prog 178 #[.pointer (some ⟨sb,0,none⟩),.agg (xcs x A1 A2 c1 c2)] w (EndO w B sb bu bl be bs ad F F' E):=by
 have hz:=h.lt
 have ho:=h.ord
 have tu:=Tryz.underlying235
 obtain⟨w1,hw1⟩: ∃w1:World,w1=(w.alloc (oDl x A1 A2 c1 c2)).alloc (.cells #[.int .i64 0] 26):=⟨_,rfl⟩
 have kx1:w1.heap[w.heap.size]?=some (oDl x A1 A2 c1 c2):=by rw[hw1];exact(Below.heap_alloc _ _ _ (by simp)).trans (heap_alloc_new w _)
 have ke1:w1.heap[w.heap.size+1]?=some (.cells #[.int .i64 0] 26 (0,0)):=by rw[hw1];exact heap_at (by simp)
 have b1:Below w.heap.size w w1:=by rw[hw1];go_grown
 have z1:=(Array.getElem?_eq_some_iff.1 kx1).1
 have z2:=(Array.getElem?_eq_some_iff.1 ke1).1
 have HS:=Lib.hid (show ∀V,Below w1.heap.size w1 V→V.cell? ⟨w.heap.size,2,none⟩=some (.int .u8 x.kind)∧(loadVar 24 ⟨w.heap.size,0,none⟩).run Tryz.prog V=.ok (.agg (xcs x A1 A2 c1 c2)) V from fun V hV=>by
  have kxV:=(hV.block _ z1).trans kx1
  exact⟨(blk_cells kxV).1 2,ld_row kxV Tryz.underlying24 rfl (by kernel_rfl)⟩)
 have ck:=kinds_a w1.drew
 have HW:=Lib.hid hw1.symm
 have bd:Below w1.heap.size w1 w1.drew:=below_drew (Below.refl _ _)
 have hSM:=h
 have HC:=Lib.hid hc
 clear hw1 hc
 go_enter_defers Tryz.func178,Tryz.ntmps178
 go_wp2
 rw[HW.out]
 refine wp_region_held_drew (S:=fun V=>V.cell? ⟨w.heap.size,2,none⟩=some (.int .u8 x.kind)∧(loadVar 24 ⟨w.heap.size,0,none⟩).run Tryz.prog V=.ok (.agg (xcs x A1 A2 c1 c2)) V) (by kernel_rfl) (HS.out _ bd) (fun hHeld=> ?_)
 refine takeH 1 (some 7) (v:= ?v1) rfl rfl (by kernel_rfl) (by kernel_rfl) (by kernel_rfl) (fun c a w h=>do_put _ _ _ (by decide) c a w h) (Or.inl ⟨by rfl,fun W hW=> ?hy1⟩) (by assumption) ?hr1
 case hy1=>(try dsimp only at hW);go_simp;try with_reducible rfl
 try simp only[Act.put,List.setIfInBounds_toArray,List.set_cons_zero,List.set_cons_succ]
 refine takeH 2 (some 8) (v:= ?v2) rfl rfl (by kernel_rfl) (by kernel_rfl) (by kernel_rfl) (fun c a w h=>do_put _ _ _ (by decide) c a w h) (Or.inl ⟨by rfl,fun W hW=> ?hy2⟩) (by assumption) ?hr2
 case hy2=>(try dsimp only at hW);go_simp;try with_reducible rfl
 try simp only[Act.put,List.setIfInBounds_toArray,List.set_cons_zero,List.set_cons_succ]
 refine takeH 4 (some 10) (v:= ?v3) rfl rfl (by kernel_rfl) (by kernel_rfl) (by kernel_rfl) (fun c a w h=>do_put _ _ _ (by decide) c a w h) (Or.inl ⟨by rfl,fun W hW=> ?hy3⟩) (by assumption) ?hr3
 case hy3=>(try dsimp only at hW);go_simp;try with_reducible rfl
 try simp only[Act.put,List.setIfInBounds_toArray,List.set_cons_zero,List.set_cons_succ]
 refine takeH 5 (some 11) (v:= ?v4) rfl rfl (by kernel_rfl) (by kernel_rfl) (by kernel_rfl) (fun c a w h=>do_put _ _ _ (by decide) c a w h) (Or.inl ⟨by rfl,fun W hW=> ?hy4⟩) (by assumption) ?hr4
 case hy4=>(try dsimp only at hW);go_simp;try with_reducible rfl
 try simp only[Act.put,List.setIfInBounds_toArray,List.set_cons_zero,List.set_cons_succ]
 refine wpAnyH_ready (rs:=[0]) (by kernel_rfl) (by simp) ?_
 refine readyH (some 6) rfl rfl (fun K hK=> ?_) AllReadyH.nil
 go_simp
 refine ck.mono ?_
 rintro e wA ⟨rfl,fK,hA⟩
 have bA:Below w1.heap.size w1 wA:=⟨hA.os,hA.tape,hA.output,hA.size,hA.block⟩
 replace fK:FM ekU okU wA w1.heap.size kindF:=fK
 have kxA:=(bA.block _ z1).trans kx1
 have keA:=(bA.block _ z2).trans ke1
 have hlk:=(fK.lookup kU tu (zero_kind wA) (keyOf_int_mk Tryz.underlying5 hwf)).1
 rw[hkf]at hlk
 simp only[Option.getD_some]at hlk
 refine hK _ _ (HS.out _ bA) (fun hS=> ?_)
 clear hK K
 try simp only[Act.put,List.setIfInBounds_toArray,List.set_cons_zero,List.set_cons_succ]
 refine wpAnyH_ready (rs:=[3]) (by kernel_rfl) (by simp) ?_
 refine readyH (some 9) rfl rfl (fun K hK=> ?_) AllReadyH.nil
 go_simp
 refine hK _ _ hS (fun hS=> ?_)
 clear hK K
 try simp only[Act.put,List.setIfInBounds_toArray,List.set_cons_zero,List.set_cons_succ]
 refine wpAnyH_ready (rs:=[6]) (by kernel_rfl) (by simp) ?_
 refine readyH (some 12) rfl rfl (fun K hK=> ?_) AllReadyH.nil
 go_simp
 have bwA:=b1.trans (bA.mono b1.size)
 refine(HC.out wA bwA).mono ?_
 rintro e w2 hend
 have zA:=bA.size
 by_cases hE:E=0
 ·obtain⟨rfl,ad',h2,b2,n2⟩:=hend.1 hE
  subst hE
  have kx2:=(b2.own w.heap.size (by omega) (by omega) (fun m q hq=>by have:=hSM.lotlt hq;omega)).trans kxA
  have ke2:=(b2.own (w.heap.size+1) (by omega) (by omega) (fun m q hq=>by have:=hSM.lotlt hq;omega)).trans keA
  refine hK _ _ ⟨(blk_cells kx2).1 2,ld_row kx2 Tryz.underlying24 rfl (by kernel_rfl)⟩ (fun hS=> ?_)
  clear hK K
  try simp only[Act.put,List.setIfInBounds_toArray,List.set_cons_zero,List.set_cons_succ]
  refine wpAnyH_done (by kernel_rfl) ?_ _
  have hz2:=b2.size
  have ke3:=hsc (j:=0) (.int .i64 0) ke2
  have g3:=gsc w2 ⟨w.heap.size+1,0,none⟩ (.int .i64 0)
  obtain⟨hce2,hfe2⟩:=blk_cells ke2
  obtain⟨hce3,hfe3⟩:=blk_cells ke3
  have fr1:Fr B sb ad w w2:=⟨bwA.mono (by omega)|>.trans b2.bel,fun i hi hs hn=>(b2.own i (by have:=bwA.size;omega) hs hn).trans (bwA.block i hi)⟩
  have fr2:=fr1.grow g3 ⟨by show B≤w.heap.size+1;omega,by omega⟩ (.inr (.inl (by show w.heap.size≤w.heap.size+1;omega)))
  have h3:=h2.kept' g3 (by show sb<w.heap.size+1;omega) (fun m q hq=>by
   show q.1≠w.heap.size+1∧q.2≠w.heap.size+1
   rcases n2 m q hq with ⟨l,hl⟩|h4
   ·have:=hSM.lotlt hl;omega
   ·omega)
  go_wp2
  refine leaves_cons (f:=218) (args:= #[.pointer (some ⟨w.heap.size+1,0,none⟩)]) (by simp) (by simp[go_sem]) ?_
  refine(do1_idle _ _).mono ?_
  rintro e u' w'' ⟨rfl,rfl,rfl⟩
  exact⟨.int .i64 0,by simp[results,Tryz.results178,go_sem,hce3],rfl,ad',h3,fr2,n2.up bwA.size⟩
 ·obtain⟨rfl,b2⟩:=hend.2 hE
  have b02:=bwA.trans (b2.mono bwA.size)
  have ke2:=(b2.block _ (by omega)).trans keA
  have hz2:=b2.size
  have ke3:=hsc (j:=0) (.int .i64 E) ke2
  have g3:=gsc w2 ⟨w.heap.size+1,0,none⟩ (.int .i64 E)
  have h3:=(hSM.below b02).kept' g3 (by show sb<w.heap.size+1;omega) (fun m q hq=>by
   show q.1≠w.heap.size+1∧q.2≠w.heap.size+1
   have:=hSM.lotlt hq
   omega)
  have ke4:=(Below.heap_alloc (w2.setCell ⟨w.heap.size+1,0,none⟩ (.int .i64 E)) (.cells #[.int .i64 E] 233) _ (Array.getElem?_eq_some_iff.1 ke3).1).trans ke3
  obtain⟨hce4,hfe4⟩:=blk_cells ke4
  have h4:=h3.below (w':=(w2.setCell ⟨w.heap.size+1,0,none⟩ (.int .i64 E)).alloc (.cells #[.int .i64 E] 233)) ((Below.refl _ _).alloc (Nat.le_refl _) _)
  have fr2:Fr B sb ad w ((w2.setCell ⟨w.heap.size+1,0,none⟩ (.int .i64 E)).alloc (.cells #[.int .i64 E] 233)):=((Fr.of b02 (Nat.le_refl _) (by omega)).grow g3 ⟨by show B≤w.heap.size+1;omega,by omega⟩ (.inr (.inl (by show w.heap.size≤w.heap.size+1;omega)))).next (n:=w2.heap.size) ((Below.refl _ _).alloc (by simp) _) (by have:=bwA.size;omega) (by omega)
  refine leaves_cons (f:=218) (args:= #[.pointer (some ⟨w.heap.size+1,0,none⟩)]) (by simp) (by simp[go_sem]) ?_
  refine(do1_up _ _ _ _ ke2).mono ?_
  rintro e u' w'' ⟨rfl,rfl,rfl⟩
  exact⟨.int .i64 E,by simp[results,Tryz.results178,go_sem,hce4],rfl,ad,by rw[if_neg hE];exact h4,fr2,New.refl _ _⟩
end
end Go.Proofs.YtcffonnijhhhiaaGreatDoor
namespace Go.Proofs.YtcffonnijhhhiaaGreatDoor
open Go Go.RowKit Mp
attribute [-simp] Prod.forall Prod.exists
theorem isId_ok {n:Int}(h:Rt.isId n=true):okI n:=by
 have:=Rt.inR_iff.1 h
 exact⟨by omega,by omega⟩
section
variable {s : Rt.St} {x : Rt.Deal}
theorem same_iff (h:Rt.Inv s)(a b:Int):Rt.sameStints s.roll.stints a b=true↔(view s).grazed a=(view s).grazed b:=by
 unfold Rt.sameStints
 rw[List.all_eq_true]
 constructor
 ·intro hall
  funext o
  refine Option.ext fun v=> ?_
  rw[view_grazed,view_grazed,Option.map_eq_some_iff,Option.map_eq_some_iff]
  constructor
  ·rintro⟨t,ht,rfl⟩
   obtain⟨m,hk⟩:=Rt.findK_some _ ht
   have h1 : t.lot = a := congrArg (·.1) hk
   have h2 : t.owner = o := congrArg (·.2) hk
   have:=hall t m
   rw[if_pos (by simp[h1]),beq_iff_eq,Rt.stintOf_eq,h1,h2,show a+b-a=b by omega]at this
   exact Option.map_eq_some_iff.1 this
  ·rintro⟨t,ht,rfl⟩
   obtain⟨m,hk⟩:=Rt.findK_some _ ht
   have h1 : t.lot = b := congrArg (·.1) hk
   have h2 : t.owner = o := congrArg (·.2) hk
   have:=hall t m
   rw[if_pos (by simp[h1]),beq_iff_eq,Rt.stintOf_eq,h1,h2,show a+b-b=a by omega]at this
   exact Option.map_eq_some_iff.1 this
 ·intro hs t m
  have hf:=Rt.findK_mem Rt.Stint.key h.stints m
  have hb : ∀ o, (Rt.findK Rt.Stint.key s.roll.stints (a, o)).map (·.beasts) = (Rt.findK Rt.Stint.key s.roll.stints (b, o)).map (·.beasts) := fun o => by
   rw[←view_grazed,←view_grazed,hs]
  by_cases h1:t.lot=a
  ·rw[if_pos (by simp[h1]),beq_iff_eq,Rt.stintOf_eq,h1,show a+b-a=b by omega,←hb,←h1]
   rw[show(t.lot,t.owner)=t.key from rfl,hf]
   rfl
  ·by_cases h2:t.lot=b
   ·rw[if_pos (by simp[h2]),beq_iff_eq,Rt.stintOf_eq,h2,show a+b-b=a by omega,hb,←h2]
    rw[show(t.lot,t.owner)=t.key from rfl,hf]
    rfl
   ·rw[if_neg (by simp[h1,h2])]
theorem pos_4 (hk:x.kind=4):Rt.possible s x=if (x.into.any fun n=>((view s).lots n).isNone)then 5 else if (view s).used x.lot then 6 else if Rt.unlike s.roll x then 71 else 0:=by
 have hm:Rt.missing s.roll x=x.into.any fun n=>((view s).lots n).isNone:=by
  unfold Rt.missing
  rw[hk]
  show(!x.into.all fun n=>(Rt.lotOf s.roll.lots n).isSome)=x.into.any fun n=>((Rt.lotOf s.roll.lots n).map lotV).isNone
  rw[List.not_all_eq_any_not]
  congr 1
  funext n
  cases Rt.lotOf s.roll.lots n<;>rfl
 have ht:Rt.twice s x=(view s).used x.lot:=by
  unfold Rt.twice
  rw[hk]
  rfl
 unfold Rt.possible
 rw[hm,ht,hk]
 simp
theorem alike_iff (h:Rt.Inv s)(hk:x.kind=4)(hne:x.into≠ [])(hi: ∀n∈x.into,(Rt.lotOf s.roll.lots n).isSome):Rt.unlike s.roll x=false↔(view s).alike x.into (x.into.headD 0)∧Rt.sumI (x.into.map (view s).size)≤10000000000:=by
 obtain⟨f,hf⟩: ∃f,x.into.headD 0=f:=⟨_,rfl⟩
 have hfm:f∈x.into:=by
  cases hx:x.into with
  |nil=>exact absurd hx hne
  |cons a l=>rw[←hf,hx];simp
 have hz:x.into.map (view s).size=x.into.map (Rt.sizeOf s.roll.lots):=List.map_congr_left fun n _=>view_size s n
 have hH: ∀n∈x.into,Rt.Held (Rt.heldOf s.roll.lots n):=fun n hn=>by
  obtain⟨o,ho⟩:=Option.isSome_iff_exists.1 (hi n hn)
  have hh:Rt.heldOf s.roll.lots n=o.held:=by unfold Rt.heldOf;rw[ho];rfl
  rw[hh]
  exact(h.held o (Rt.lotOf_some ho).1).1
 have hp: ∀n∈x.into,((view s).parts n=(view s).parts f↔Rt.heldOf s.roll.lots f=Rt.heldOf s.roll.lots n):=fun n hn=>by
  rw[view_parts,view_parts]
  constructor
  ·intro e
   refine Rt.held_ext (hH f hfm).asc (hH n hn).asc (hH f hfm).pos (hH n hn).pos fun o=> ?_
   rw[←part_held,←part_held,e]
  ·intro e
   rw[e]
 rw[hz,hf]
 unfold Rt.unlike
 rw[hk]
 show(x.into.any (fun n=>Rt.heldOf s.roll.lots (x.into.headD 0) !=Rt.heldOf s.roll.lots n)||x.into.tail.any (fun n=> !Rt.sameStints s.roll.stints (x.into.headD 0) n)||decide (10000000000<Rt.sumI (x.into.map (Rt.sizeOf s.roll.lots))))=false↔_
 rw[hf,Bool.or_eq_false_iff,Bool.or_eq_false_iff,List.any_eq_false,List.any_eq_false,decide_eq_false_iff_not]
 constructor
 ·rintro⟨⟨h1,h2⟩,h3⟩
  refine⟨fun n hn=>⟨(hp n hn).2 (by simpa using h1 n hn),?_⟩,by omega⟩
  by_cases e:n=f
  ·rw[e]
  ·have ht:n∈x.into.tail:=by
    cases hx:x.into with
    |nil=>exact absurd hx hne
    |cons a l=>
     rw[hx]at hn hf
     rcases List.mem_cons.1 hn with e2|e2
     ·exact absurd (e2.trans hf) e
     ·exact e2
   have:=h2 n ht
   exact((same_iff h f n).1 (by simpa using this)).symm
 ·rintro⟨h1,h2⟩
  refine⟨⟨fun n hn=>by simpa using (hp n hn).1 (h1 n hn).1,fun n hn=> ?_⟩,by omega⟩
  have:=(same_iff h f n).2 (h1 n (List.mem_of_mem_tail hn)).2.symm
  simp[this]
end
section
variable {w : World} {B sb bu bl be bs : Nat} {ad : Int → Option (Nat × Nat)} {s : Rt.St}
set_option maxHeartbeats 1000000 in
theorem act_a (h:SM w B sb bu bl be bs ad (view s))(hI:Rt.Inv s)(x:Dl)(hf:Rt.formed x=true)(A1 A2:Option Addr)(c1 c2:Nat)(hA1:Ints w B A1 x.into)(hA2:Ints w B A2 x.sizes):
  Calls Tryz.prog 178 #[.pointer (some ⟨sb,0,none⟩),.agg (xcs x A1 A2 c1 c2)] w (EndO w B sb bu bl be bs ad (view s) (view (Rt.does s x)) (Rt.possible s x)):=by
 have hz:=h.lt
 have ho:=h.ord
 unfold Rt.formed at hf
 simp only[Bool.and_eq_true]at hf
 obtain⟨⟨_,hlot⟩,d⟩:=hf
 have hlot:=isId_ok hlot
 obtain⟨k,hk⟩: ∃k,x.kind=k:=⟨_,rfl⟩
 rw[hk]at d
 match k,hk with
 |0,_=>cases d
 |1,hk=>
  simp only[Bool.and_eq_true]at d
  exact do_a h x A1 A2 c1 c2 (g:=257) (by rw[hk];rfl) (by rw[hk];rfl) (fun _ _=>by kernel_rfl) _ _ fun W hb=>
   (enter_a (h.below hb) x A1 A2 c1 c2 hlot (isId_ok d.1.2)).mono fun _ _ he=>he.of (pos_1 hk).symm fun h0=>view_1 hI hk h0
 |2,hk=>
  simp only[Bool.and_eq_true,bne_iff_ne,ne_eq,Rt.inR_iff]at d
  refine do_a h x A1 A2 c1 c2 (g:=258) (by rw[hk];rfl) (by rw[hk];rfl) (fun _ _=>by kernel_rfl) _ _ fun W hb=> ?_
  cases hl:Rt.lotOf s.roll.lots x.lot with
  |none=>
   have hp:Rt.possible s x=5:=by rw[pos_2 hk,hl];rfl
   rw[hp]
   exact grant_none (h.below hb) x A1 A2 c1 c2 hlot (by show(Rt.lotOf s.roll.lots x.lot).map lotV=none;rw[hl];rfl) _
  |some o=>
   have hh:Rt.heldOf s.roll.lots x.lot=o.held:=by unfold Rt.heldOf;rw[hl];rfl
   refine(grant_a (h.below hb) x A1 A2 c1 c2 (L:=lotV o) hlot (isId_ok d.1.1.2) (isId_ok d.1.1.1.2) d.1.2 d.2 (by show(Rt.lotOf s.roll.lots x.lot).map lotV=some (lotV o);rw[hl];rfl) (parts_ok (hI.held o (Rt.lotOf_some hl).1).1)).mono fun _ _ he=>he.of ?_ fun h0=>view_2 hI hk d.1.2 (by omega) h0
   rw[pos_2 hk,hl,hh]
   rfl
 |3,hk=>
  simp only[Bool.and_eq_true,Rt.inR_iff,Rt.lotsOk_iff,List.all_eq_true,beq_iff_eq]at d
  obtain⟨⟨⟨_,⟨d1,d2⟩,d3,d4⟩,d5⟩,d6⟩:=d
  have hin: ∀n∈x.into,okI n:=fun n hn=>by have:=d3 n hn;exact⟨by omega,by omega⟩
  refine do_a h x A1 A2 c1 c2 (g:=259) (by rw[hk];rfl) (by rw[hk];rfl) (fun _ _=>by kernel_rfl) _ _ fun W hb=> ?_
  have hB:Below B w W:=hb.mono (by omega)
  have hW1:=hA1.below hB
  have hW2:=hA2.below hB
  cases hl:Rt.lotOf s.roll.lots x.lot with
  |none=>
   have hv:(view s).lots x.lot=none:=by show(Rt.lotOf s.roll.lots x.lot).map lotV=none;rw[hl];rfl
   have hp:Rt.possible s x=5:=by rw[pos_3 hk,hv];rfl
   rw[hp]
   exact divide_none (h.below hb) x A1 A2 c1 c2 hlot hv _
  |some o=>
   have hv:(view s).lots x.lot=some (lotV o):=by show(Rt.lotOf s.roll.lots x.lot).map lotV=some (lotV o);rw[hl];rfl
   have hs:Rt.sizeOf s.roll.lots x.lot=o.size:=by unfold Rt.sizeOf;rw[hl];rfl
   cases hu:(x.into.any fun n=>(view s).used n)with
   |true=>
    have hp:Rt.possible s x=6:=by rw[pos_3 hk,hv,hu];rfl
    rw[hp]
    exact divide_twice (h.below hb) x A1 A2 c1 c2 (L:=lotV o) hlot hv hin d2 hW1 hu _
   |false=>
    by_cases hsum:Rt.sumI x.sizes=o.size
    ·have hp:Rt.possible s x=0:=by rw[pos_3 hk,hv,hu,hs,hsum];simp
     have hun: ∀n∈x.into,n∉s.used:=fun n hn hm=>by
      have:=List.any_eq_false.1 hu n hn
      simp[view,hm]at this
     rw[hp]
     exact divide_a (h.below hb) x A1 A2 c1 c2 (L:=lotV o) hlot hv hin d2 d5 d6 hW1 hW2 hu hsum (fun n hn e=>hun n hn (e▸hI.number (by rw[hl];rfl))) (fun k v hkv=>by
      obtain⟨e,he,rfl,_⟩:=(view_ease hI k v).1 hkv
      exact(hI.eok e he).1) _ (fun D D2 hD hD2=>view_3 hI hk hl d4 hun d5 hD hD2)
    ·have hp:Rt.possible s x=71:=by
      rw[pos_3 hk,hv,hu,hs]
      simp[hsum]
     rw[hp]
     exact divide_unlike (h.below hb) x A1 A2 c1 c2 (L:=lotV o) hlot hv hin d2 d5 d6 hW1 hW2 hu hsum _
 |4,hk=>
  simp only[Bool.and_eq_true,Rt.lotsOk_iff]at d
  obtain⟨_,⟨d1,d2⟩,d3,d4⟩:=d
  have hne:x.into≠ []:=fun e=>by rw[e]at d1;exact absurd d1 (by decide)
  have hin: ∀n∈x.into,okI n:=fun n hn=>by have:=d3 n hn;exact⟨by omega,by omega⟩
  refine do_a h x A1 A2 c1 c2 (g:=260) (by rw[hk];rfl) (by rw[hk];rfl) (fun _ _=>by kernel_rfl) _ _ fun W hb=> ?_
  have hW1:=hA1.below (hb.mono (show B≤w.heap.size by omega))
  cases ha:(x.into.any fun n=>((view s).lots n).isNone)with
  |true=>
   have hp:Rt.possible s x=5:=by rw[pos_4 hk,ha];rfl
   rw[hp]
   exact merge_none (h.below hb) x A1 A2 c1 c2 hin d2 hW1 ha _
  |false=>
   cases hu:(view s).used x.lot with
   |true=>
    have hp:Rt.possible s x=6:=by rw[pos_4 hk,ha,hu];rfl
    rw[hp]
    exact merge_twice (h.below hb) x A1 A2 c1 c2 hlot hin d2 hW1 ha hu _
   |false=>
    have hi: ∀n∈x.into,(Rt.lotOf s.roll.lots n).isSome:=fun n hn=>by
     have:=List.any_eq_false.1 ha n hn
     have e:(view s).lots n=(Rt.lotOf s.roll.lots n).map lotV:=rfl
     rw[e]at this
     cases hl:Rt.lotOf s.roll.lots n with
     |none=>rw[hl]at this;simp at this
     |some o=>rfl
    have hun:x.lot∉s.used:=fun hm=>by simp[view,hm]at hu
    have hal:=alike_iff hI hk hne hi
    have hp:Rt.possible s x=if Rt.unlike s.roll x then 71 else 0:=by rw[pos_4 hk,ha,hu];rfl
    have hun1:Rt.unlike s.roll x≠false→Rt.possible s x=71:=fun e=>by rw[hp,if_pos (by simpa using e)]
    refine merge_a (h.below hb) x A1 A2 c1 c2 hlot hin d1 d2 hW1 (fun n hn=> ?_) hu _ _ (fun e=>hun1 fun e2=>e (hal.1 e2).1) (fun e=>hun1 fun e2=> ?_) (fun e1 e2=> ?_) d4 (fun n hn e=>hun (e▸hI.number (hi n hn))) (fun D D2 hD hD2=>view_4 hI hk hne hi hun hD hD2)
    ·obtain⟨o,ho⟩:=Option.isSome_iff_exists.1 (hi n hn)
     have:=hI.held o (Rt.lotOf_some ho).1
     exact⟨lotV o,by show(Rt.lotOf s.roll.lots n).map lotV=some (lotV o);rw[ho];rfl,this.2.1,this.2.2.1⟩
    ·have:=(hal.1 e2).2
     omega
    ·rw[hp,hal.2 ⟨e1,e2⟩]
     rfl
 |5,hk=>
  simp only[Bool.and_eq_true]at d
  exact do_a h x A1 A2 c1 c2 (g:=261) (by rw[hk];rfl) (by rw[hk];rfl) (fun _ _=>by kernel_rfl) _ _ fun W hb=>
   (way_a (h.below hb) x A1 A2 c1 c2 hlot (isId_ok d.1.2)).mono fun _ _ he=>he.of (pos_5 hk).symm fun h0=>view_5 hk h0
 |6,hk=>
  simp only[Bool.and_eq_true]at d
  exact do_a h x A1 A2 c1 c2 (g:=262) (by rw[hk];rfl) (by rw[hk];rfl) (fun _ _=>by kernel_rfl) _ _ fun W hb=>
   (release_a (h.below hb) x A1 A2 c1 c2 hlot.i64 (isId_ok d.1.2).i64).mono fun _ _ he=>he.of (pos_6 hk).symm fun _=>view_6 hk
 |7,hk=>
  simp only[Bool.and_eq_true]at d
  exact do_a h x A1 A2 c1 c2 (g:=263) (by rw[hk];rfl) (by rw[hk];rfl) (fun _ _=>by kernel_rfl) _ _ fun W hb=>
   (stint_a (h.below hb) x A1 A2 c1 c2 hlot (isId_ok d.1.2)).mono fun _ _ he=>he.of (pos_7 hk).symm fun h0=>view_7 hk h0
 |8,hk=>
  simp only[Bool.and_eq_true]at d
  exact do_a h x A1 A2 c1 c2 (g:=264) (by rw[hk];rfl) (by rw[hk];rfl) (fun _ _=>by kernel_rfl) _ _ fun W hb=>
   (end_a (h.below hb) x A1 A2 c1 c2 hlot.i64 (isId_ok d.2).i64).mono fun _ _ he=>he.of (pos_8 hk).symm fun _=>view_8 hk
 |n+9,_=>cases d
end
end Go.Proofs.YtcffonnijhhhiaaGreatDoor
