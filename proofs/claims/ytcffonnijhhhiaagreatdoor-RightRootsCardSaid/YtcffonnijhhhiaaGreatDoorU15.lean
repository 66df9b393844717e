/- Part U15 of the proof: St Wk Ce Sc Cp. -/
import Derived.Test.YtcffonnijhhhiaaGreatDoorProg
import Derived.WalkKit
import Derived.WalkLawsBesides
import Derived.WalkSpells
import Derived.Handy
import Derived.Lib.Hide
import Derived.Great.BuildSlice
import Derived.Deep.QuietTactic
import Derived.BigQuiet
import Derived.Deep.RegionHeld3
import Derived.Deep.DeepCutAuto
import Derived.Maps.AppendAt
import Derived.Test.YtcffonnijhhhiaaGreatDoorU09
import Derived.Test.YtcffonnijhhhiaaGreatDoorU14
set_option linter.all false
set_option linter.unusedSimpArgs false
set_option linter.unusedVariables false
set_option linter.unusedSectionVars false
namespace Go.Proofs.YtcffonnijhhhiaaGreatDoor
open Go Go.RowKit Go.Maps Mp
attribute [-simp] Prod.forall Prod.exists
attribute [-go_sem] loadVar
attribute [local go_sem] lk_int lk_u8 lk_ints
theorem lk_state (a:Addr)(w:World):(loadVar 123 a).run Tryz.prog w=(load a).run Tryz.prog w:=lv_scalar Tryz.underlying123 rfl a w
theorem lk_ids (a:Addr)(w:World):(loadVar 127 a).run Tryz.prog w=(load a).run Tryz.prog w:=lv_scalar Tryz.underlying127 rfl a w
attribute [local go_sem] lk_state lk_ids
abbrev oWk (sb bk:Nat)(n d:Int):Obj:=.cells #[.pointer (some ⟨sb,0,none⟩),.map (some bk),.int .i64 n,.int .i64 d] 193 (0,0)
def lastDay (l : List Rt.Deal) : Int := (l.getLast?.map (·.day)).getD 0
structure WK (w:World)(B sb bu bl be bs:Nat)(ad:Int→Option (Nat×Nat))(wb bk:Nat)(n d:Int)(s:Rt.St)(l:List Rt.Deal):Prop where
 sm:SM w B sb bu bl be bs ad (view s)
 inv:Rt.Inv s
 blk:w.heap[wb]?=some (oWk sb bk n d)
 ids : FM ekI okI w bk (fU fun n => l.any (·.id == n))
 up:sb<bk∧bk<wb
 off: ∀n p,ad n=some p→wb<p.1∧wb<p.2
 cnt:n=l.length
 day:d=lastDay l
 days: ∀y∈l,0≤y.day
section
variable {w w' : World} {B sb bu bl be bs wb bk : Nat} {ad : Int → Option (Nat × Nat)} {n d : Int} {s : Rt.St} {l : List Rt.Deal}
theorem WK.lt (h:WK w B sb bu bl be bs ad wb bk n d s l):wb<w.heap.size:=(Array.getElem?_eq_some_iff.1 h.blk).1
theorem WK.below (h:WK w B sb bu bl be bs ad wb bk n d s l)(hb:Below w.heap.size w w'):WK w' B sb bu bl be bs ad wb bk n d s l:=
 {h with sm:=h.sm.below hb,blk:=(hb.block _ h.lt).trans h.blk,ids:=h.ids.same (hb.block _ h.ids.lt)}
theorem WK.idsAt (h : WK w B sb bu bl be bs ad wb bk n d s l) {i : Int} (hi : i64 i) : (Instr.lookup 127 (.map (some bk)) (.int .i64 i) false).run Tryz.prog w = .ok (.bool (l.any (·.id == i))) w := by
 have:=(h.ids.lookup kI Tryz.underlying127 (zero_bool w) (keyI hi.1 hi.2)).1
 have e : fU (fun n => l.any (·.id == n)) i = if l.any (·.id == i) then some (.bool true) else none := rfl
 rw[this,e]
 cases l.any (·.id == i) <;> rfl
theorem last_snoc (l:List Rt.Deal)(x:Rt.Deal):lastDay (l++[x])=x.day:=by simp[lastDay]
theorem formed_day {x:Rt.Deal}(h:Rt.formed x=true):0≤x.day:=by
 unfold Rt.formed at h
 simp only[Bool.and_eq_true]at h
 exact(Rt.inR_iff.1 h.1.1.2).1
theorem refused_day {x:Rt.Deal}(hx:0≤x.day):((l.getLast?.map fun y=>decide (x.day<y.day))=some true)↔x.day<lastDay l:=by
 unfold lastDay
 cases l.getLast? with
 |none=>simp;omega
 |some y=>simp
def EndS (w:World)(B sb bu bl be bs:Nat)(ad:Int→Option (Nat×Nat))(wb bk:Nat)(s:Rt.St)(l:List Rt.Deal)(x:Rt.Deal)(E:Int)(e:Ending)(w':World):Prop:=
 e=.returned (.int .i64 E)∧Below B w w'∧ ∃ad' n' d',WK w' B sb bu bl be bs ad' wb bk n' d' (if E=0 then Rt.does s x else s) (if E=0 then l++[x]else l)∧(∀i,i<w.heap.size→wb<i→(∀m q,ad m=some q→i≠q.1∧i≠q.2)→w'.heap[i]?=w.heap[i]?)∧New w ad ad'
theorem EndS.no (h:WK w B sb bu bl be bs ad wb bk n d s l){x:Rt.Deal}{E:Int}(hE:E≠0){e:Ending}(he:e=.returned (.int .i64 E))(hb:Below w.heap.size w w'):EndS w B sb bu bl be bs ad wb bk s l x E e w':=by
 refine⟨he,hb.mono (by have:=h.sm.lt;have:=h.sm.ord;omega),ad,n,d,?_,fun i hi _ _=>hb.block i hi,New.refl _ _⟩
 rw[if_neg hE,if_neg hE]
 exact h.below hb
set_option maxRecDepth 100000 in
set_option maxHeartbeats 4000000 in
theorem step_a (h:WK w B sb bu bl be bs ad wb bk n d s l)(x:Dl)(A1 A2:Option Addr)(c1 c2:Nat)(hx:DS w B A1 A2 x)(hcap:x.into.length≤c1):
  Calls Tryz.prog 103 #[.pointer (some ⟨wb,0,none⟩),.agg (xcs x A1 A2 c1 c2)] w (EndS w B sb bu bl be bs ad wb bk s l x (Rt.refused s l x)):=by
 have hz:=h.sm.lt
 have hwz:=h.lt
 have ho:=h.sm.ord
 have hup:=h.up
 have hxw:DS w w.heap.size A1 A2 x:=⟨hx.into.more (by omega),hx.sizes.more (by omega),hx.li,hx.ls⟩
 have b1:Below w.heap.size w (w.alloc (oDl x A1 A2 c1 c2)):=by go_grown
 have k1:=heap_alloc_new w (oDl x A1 A2 c1 c2)
 have h1:=h.below b1
 obtain⟨hcw,hfw⟩:=blk_cells h1.blk
 obtain⟨E,hE⟩: ∃E,Rt.refused s l x=E:=⟨_,rfl⟩
 rw[hE]
 have hE1:E=if 400≤n then 2 else if !Rt.formed x then 1 else if l.any (fun y=>y.id==x.id)then 6 else if x.day<d then 7 else Rt.possible s x:=by
  rw[←hE,h.cnt,h.day]
  unfold Rt.refused
  cases hfo:Rt.formed x with
  |false=>
   by_cases q:400≤l.length
   ·have q':400≤(l.length:Int):=by omega
    simp only[q,q',if_true]
   ·have q': ¬400≤(l.length:Int):=by omega
    simp only[q,q',if_false,Bool.not_false,if_true]
  |true=>
  simp only[refused_day (formed_day hfo)]
  by_cases q:400≤l.length
  ·have q':400≤(l.length:Int):=by omega
   simp only[q,q',if_true]
  ·have q': ¬400≤(l.length:Int):=by omega
   simp only[q,q',if_false]
 have HE:=Lib.hid hE1
 have H:=Lib.hid h
 have HX:=Lib.hid hx
 have HXW:=Lib.hid hxw
 have H1:=Lib.hid h1
 have hn0:0≤n:=by rw[h.cnt];omega
 clear hE hE1 hxw hx
 by_cases h400:400≤n
 ·obtain rfl:E=2:=by rw[HE.out,if_pos h400]
  go_enter Tryz.func103,Tryz.ntmps103
  go_wp2
  go_ret
  exact EndS.no H.out (by decide) rfl b1
 have h400':n<400:=by omega
 have l1:=ld_row k1 Tryz.underlying24 rfl info_deal
 have n2:=formed_a x A1 A2 c1 c2 _ (HXW.out.up b1) hcap
 go_enter Tryz.func103,Tryz.ntmps103
 go_wp2_with fail
 refine n2.mono ?_
 clear n2
 rintro e w2 ⟨rfl,b2'⟩
 have b2:Below w.heap.size w w2:=b1.trans (b2'.mono b1.size)
 have k2:w2.heap[w.heap.size]?=some (oDl x A1 A2 c1 c2):=(b2'.block _ (by simp)).trans k1
 clear l1 hcw hfw
 cases hfm:Rt.formed x with
 |false=>
  obtain rfl:E=1:=by rw[HE.out,if_neg (show ¬400≤n by omega),hfm];rfl
  simp only[Bool.false_eq_true,if_false]
  go_wp2
  go_ret
  exact EndS.no H.out (by decide) rfl b2
 |true=>
 have hid:okI x.id:=by
  have:=hfm
  unfold Rt.formed at this
  simp only[Bool.and_eq_true]at this
  exact isId_ok this.1.1.1
 simp only[if_true]
 obtain⟨W,hW⟩: ∃W:World,W=w2.drew:=⟨_,rfl⟩
 have b3:Below w.heap.size w W:=by rw[hW];exact below_drew b2
 have k3:W.heap[w.heap.size]?=some (oDl x A1 A2 c1 c2):=by rw[hW];exact k2
 have HW:=Lib.hid hW
 clear hW
 have h3:=H.out.below b3
 have hl3:=h3.idsAt hid.i64
 obtain⟨hcw,hfw⟩:=blk_cells h3.blk
 obtain⟨hcx,hfx⟩:=blk_cells k3
 obtain⟨u,hu⟩: ∃u,l.any (fun y=>y.id==x.id)=u:=⟨_,rfl⟩
 rw[hu]at hl3
 have HU:=Lib.hid hu
 clear hu
 go_wp2
 refine still_all HW.out (by kernel_rfl) (by kernel_rfl) ?_
 repeat still_step
 refine wpStill_nil ?_
 cases u with
 |true=>
  obtain rfl:E=6:=by rw[HE.out,if_neg (show ¬400≤n by omega),hfm,HU.out];rfl
  go_wp2
  go_ret
  exact EndS.no H.out (by decide) rfl b3
 |false=>
 obtain⟨W2,hW2⟩: ∃W2:World,W2=W.drew:=⟨_,rfl⟩
 have b4:Below w.heap.size w W2:=by rw[hW2];exact below_drew b3
 have k4:W2.heap[w.heap.size]?=some (oDl x A1 A2 c1 c2):=by rw[hW2];exact k3
 have HW2:=Lib.hid hW2
 clear hW2 hcw hfw hcx hfx hl3
 have h4:=H.out.below b4
 obtain⟨hcw,hfw⟩:=blk_cells h4.blk
 obtain⟨hcx,hfx⟩:=blk_cells k4
 by_cases hday:x.day<d
 ·obtain rfl:E=7:=by rw[HE.out,if_neg (show ¬400≤n by omega),hfm,HU.out];simp[hday]
  go_wp2
  refine still_all HW2.out (by kernel_rfl) (by kernel_rfl) ?_
  repeat still_step
  refine wpStill_nil ?_
  go_wp2
  go_ret
  exact EndS.no H.out (by decide) rfl b4
 have hday':d≤x.day:=by omega
 obtain⟨p,hp⟩: ∃p,Rt.possible s x=p:=⟨_,rfl⟩
 have hEp:E=p:=by rw[HE.out,if_neg (show ¬400≤n by omega),hfm,HU.out,if_neg (show ¬x.day<d by omega),hp];rfl
 subst hEp
 obtain⟨W3,hW3⟩: ∃W3:World,W3=W2.drew:=⟨_,rfl⟩
 have b5:Below w.heap.size w W3:=by rw[hW3];exact below_drew b4
 have k5:W3.heap[w.heap.size]?=some (oDl x A1 A2 c1 c2):=by rw[hW3];exact k4
 have HW3:=Lib.hid hW3
 clear hW3
 have h5:=H.out.below b5
 have hact:=act_a h5.sm h5.inv x hfm A1 A2 c1 c2 (HX.out.into.below (b5.mono (by omega))) (HX.out.sizes.below (b5.mono (by omega)))
 rw[hp]at hact
 go_wp2
 refine still_all HW2.out (by kernel_rfl) (by kernel_rfl) ?_
 repeat still_step
 refine wpStill_nil ?_
 clear hcw hfw hcx hfx
 obtain⟨hcw,hfw⟩:=blk_cells h5.blk
 have l5:=ld_row k5 Tryz.underlying24 rfl info_deal
 go_wp2
 refine still_tail HW3.out 5 (by kernel_rfl) (by kernel_rfl) ?_
 simp only[List.take_succ_cons,List.take_zero,List.drop_succ_cons,List.drop_zero]
 repeat still_step
 refine wpStill_nil ?_
 go_wp2_with fail
 refine hact.mono ?_
 clear hact
 rintro e w5 ⟨rfl,ad',hS,hFr,hN⟩
 have hz5:w.heap.size<W3.heap.size:=(Array.getElem?_eq_some_iff.1 k5).1
 have hofs: ∀m q,ad m=some q→wb<q.1∧wb<q.2∧q.1<w.heap.size∧q.2<w.heap.size:=fun m q hq=>by
  have:=H.out.off m q hq
  have:=H.out.sm.lotlt hq
  omega
 have kw5:w5.heap[wb]?=some (oWk sb bk n d):=(hFr.own wb h5.lt (by omega) (fun m q hq=>by have:=hofs m q hq;omega)).trans h5.blk
 have kb5:w5.heap[bk]?=W3.heap[bk]?:=hFr.own bk h5.ids.lt (by omega) (fun m q hq=>by have:=hofs m q hq;omega)
 have kx5:w5.heap[w.heap.size]?=some (oDl x A1 A2 c1 c2):=(hFr.own _ hz5 (by omega) (fun m q hq=>by have:=hofs m q hq;omega)).trans k5
 have hoff5: ∀m q,ad' m=some q→wb<q.1∧wb<q.2:=fun m q hq=>by
  rcases hN m q hq with ⟨l',hl'⟩|h6
  ·have:=hofs l' q hl';omega
  ·omega
 have bB:Below B w w5:=(b5.mono (by omega)).trans hFr.bel
 have f5:=h5.ids.same kb5
 by_cases hE0:E=0
 case neg=>
  rw[if_neg hE0]at hS
  have hq:(E==0)=false:=by simpa using hE0
  go_wp2
  go_ret
  exact⟨rfl,bB,ad',n,d,by
   rw[if_neg hE0,if_neg hE0]
   exact⟨hS,H.out.inv,kw5,f5,hup,hoff5,H.out.cnt,H.out.day,H.out.days⟩,fun i hi hwi ha=>(hFr.own i (by omega) (by omega) ha).trans (b5.block i hi),hN.up (by omega)⟩
 rw[if_pos hE0]at hS
 subst hE0
 have hidF:l.any (fun y=>y.id==x.id)=false:=HU.out
 obtain⟨V0,hV0⟩: ∃V:World,V=w5.drew:=⟨_,rfl⟩
 have g0:w5.grownBy V0 none:=by rw[hV0];exact⟨rfl,rfl,rfl,Nat.le_refl _,fun _ _ _=>rfl⟩
 have kw0:=(g0.block wb (Array.getElem?_eq_some_iff.1 kw5).1 (by simp)).trans kw5
 have kx0:=(g0.block _ (Array.getElem?_eq_some_iff.1 kx5).1 (by simp)).trans kx5
 have f0:=f5.same (g0.block bk f5.lt (by simp))
 have hS0:=hS.same (w':=V0) (fun i hi _=>g0.block i hi (by simp))
 have HV0:=Lib.hid hV0
 clear hV0
 obtain⟨st,V1,r1,g1,z1,hnext⟩:=f0.entry kI Tryz.underlying127 zero_bool (k:=x.id) hid (by show(if l.any (fun y=>y.id==x.id)then some (Value.bool true)else none)=none;rw[hidF];rfl)
 obtain⟨V2,r2,f2,g2⟩:=hnext V1 (.bool true) rfl
 replace r2:(Instr.entryStore 127 (.map (some bk)) (.int .i64 (st:Int)) (.bool true)).run Tryz.prog V1=.ok () V2:=r2
 have kw1:=(g1.block wb (Array.getElem?_eq_some_iff.1 kw0).1 (by simp;omega)).trans kw0
 have kx1:=(g1.block _ (Array.getElem?_eq_some_iff.1 kx0).1 (by simp;omega)).trans kx0
 have kw2:=(g2.block wb (Array.getElem?_eq_some_iff.1 kw1).1 (by simp;omega)).trans kw1
 have kx2:=(g2.block _ (Array.getElem?_eq_some_iff.1 kx1).1 (by simp;omega)).trans kx1
 obtain⟨V3,hV3⟩: ∃V:World,V=V2.setCell ⟨wb,3,none⟩ (.int .i64 x.day):=⟨_,rfl⟩
 have g3:V2.grownBy V3 (some wb):=by rw[hV3];exact gsc V2 ⟨wb,3,none⟩ _
 have kw3:V3.heap[wb]?=some (oWk sb bk n x.day):=by rw[hV3];exact hsc (j:=3) _ kw2
 have kx3:=(g3.block _ (Array.getElem?_eq_some_iff.1 kx2).1 (by simp;omega)).trans kx2
 obtain⟨V4,hV4⟩: ∃V:World,V=V3.setCell ⟨wb,2,none⟩ (.int .i64 (n+1)):=⟨_,rfl⟩
 have g4:V3.grownBy V4 (some wb):=by rw[hV4];exact gsc V3 ⟨wb,2,none⟩ _
 have kw4:V4.heap[wb]?=some (oWk sb bk (n+1) x.day):=by rw[hV4];exact hsc (j:=2) _ kw3
 have kx4:=(g4.block _ (Array.getElem?_eq_some_iff.1 kx3).1 (by simp;omega)).trans kx3
 have HV3:=Lib.hid hV3
 have HV4:=Lib.hid hV4
 clear hV3 hV4
 have HS:=Lib.hid (show ∀V:World,∀n' d':Int,V.heap[wb]?=some (oWk sb bk n' d')→V.heap[w.heap.size]?=some (oDl x A1 A2 c1 c2)→V.cell? ⟨wb,1,none⟩=some (.map (some bk))∧V.cell? ⟨w.heap.size,0,none⟩=some (.int .i64 x.id)∧V.cell? ⟨w.heap.size,1,none⟩=some (.int .i64 x.day) from fun V n' d' hw hx'=>⟨(blk_cells hw).1 1,(blk_cells hx').1 0,(blk_cells hx').1 1⟩)
 have cn0:V0.cell? ⟨wb,2,none⟩=some (.int .i64 n):=(blk_cells kw0).1 2
 have c32:=(blk_cells kw2).1 3
 have f32:=(blk_cells kw2).2
 have c23:=(blk_cells kw3).1 2
 have f23:=(blk_cells kw3).2
 clear hcw hfw l5
 go_wp2
 refine wp_region_held_drew (S:=fun V=>V.cell? ⟨wb,1,none⟩=some (.map (some bk))∧V.cell? ⟨w.heap.size,0,none⟩=some (.int .i64 x.id)∧V.cell? ⟨w.heap.size,1,none⟩=some (.int .i64 x.day)) (by kernel_rfl) (by rw[←HV0.out];exact HS.out _ _ _ kw0 kx0) (fun hHeld=> ?_)
 rw[←HV0.out]at hHeld ⊢
 refine takeH 0 (some 40) (v:= ?v1) rfl rfl (by kernel_rfl) (by kernel_rfl) (by kernel_rfl) (fun _ _ _ h=>h) (Or.inl ⟨by rfl,fun W hW=> ?hy1⟩) (by assumption) ?hr1
 case hy1=>(try dsimp only at hW);go_simp;try with_reducible rfl
 try simp only[Act.put,List.setIfInBounds_toArray,List.set_cons_zero,List.set_cons_succ]
 refine takeH 1 (some 41) (v:= ?v2) rfl rfl (by kernel_rfl) (by kernel_rfl) (by kernel_rfl) (fun _ _ _ h=>h) (Or.inl ⟨by rfl,fun W hW=> ?hy2⟩) (by assumption) ?hr2
 case hy2=>(try dsimp only at hW);go_simp;try with_reducible rfl
 try simp only[Act.put,List.setIfInBounds_toArray,List.set_cons_zero,List.set_cons_succ]
 refine takeH 2 (some 42) (v:= ?v3) rfl rfl (by kernel_rfl) (by kernel_rfl) (by kernel_rfl) (fun _ _ _ h=>h) (Or.inl ⟨by rfl,fun W hW=> ?hy3⟩) (by assumption) ?hr3
 case hy3=>(try dsimp only at hW);go_simp;try with_reducible rfl
 try simp only[Act.put,List.setIfInBounds_toArray,List.set_cons_zero,List.set_cons_succ]
 refine takeH 3 (some 43) (v:= ?v4) rfl rfl (by kernel_rfl) (by kernel_rfl) (by kernel_rfl) (fun _ _ _ h=>h) (Or.inl ⟨by rfl,fun W hW=> ?hy4⟩) (by assumption) ?hr4
 case hy4=>(try dsimp only at hW);go_simp;try with_reducible rfl
 try simp only[Act.put,List.setIfInBounds_toArray,List.set_cons_zero,List.set_cons_succ]
 refine takeH 4 (some 44) (v:= ?v5) rfl rfl (by kernel_rfl) (by kernel_rfl) (by kernel_rfl) (fun _ _ _ h=>h) (Or.inl ⟨by rfl,fun W hW=> ?hy5⟩) (by assumption) ?hr5
 case hy5=>(try dsimp only at hW);go_simp;try with_reducible rfl
 try simp only[Act.put,List.setIfInBounds_toArray,List.set_cons_zero,List.set_cons_succ]
 refine takeH 5 (some 45) (v:= ?v6) rfl rfl (by kernel_rfl) (by kernel_rfl) (by kernel_rfl) (fun _ _ _ h=>h) (Or.inl ⟨by rfl,fun W hW=> ?hy6⟩) (by assumption) ?hr6
 case hy6=>(try dsimp only at hW);go_simp;try with_reducible rfl
 try simp only[Act.put,List.setIfInBounds_toArray,List.set_cons_zero,List.set_cons_succ]
 refine takeH 6 (some 46) (v:= ?v7) rfl rfl (by kernel_rfl) (by kernel_rfl) (by kernel_rfl) (fun _ _ _ h=>h) (Or.inl ⟨by rfl,fun W hW=> ?hy7⟩) (by assumption) ?hr7
 case hy7=>(try dsimp only at hW);go_simp;try with_reducible rfl
 try simp only[Act.put,List.setIfInBounds_toArray,List.set_cons_zero,List.set_cons_succ]
 refine takeH 7 (some 47) (v:= ?v8) rfl rfl (by kernel_rfl) (by kernel_rfl) (by kernel_rfl) (fun _ _ _ h=>h) (Or.inl ⟨by rfl,fun W hW=> ?hy8⟩) (by assumption) ?hr8
 case hy8=>(try dsimp only at hW);go_simp;try with_reducible rfl
 try simp only[Act.put,List.setIfInBounds_toArray,List.set_cons_zero,List.set_cons_succ]
 refine takeH 8 (some 48) (v:= ?v9) rfl rfl (by kernel_rfl) (by kernel_rfl) (by kernel_rfl) (fun _ _ _ h=>h) (Or.inl ⟨by rfl,fun W hW=> ?hy9⟩) (by assumption) ?hr9
 case hy9=>(try dsimp only at hW);go_simp;try with_reducible rfl
 try simp only[Act.put,List.setIfInBounds_toArray,List.set_cons_zero,List.set_cons_succ]
 refine takeH 9 (some 49) (v:= ?v10) rfl rfl (by kernel_rfl) (by kernel_rfl) (by kernel_rfl) (fun _ _ _ h=>h) (Or.inl ⟨by rfl,fun W hW=> ?hy10⟩) (by assumption) ?hr10
 case hy10=>(try dsimp only at hW);go_simp;try with_reducible rfl
 try simp only[Act.put,List.setIfInBounds_toArray,List.set_cons_zero,List.set_cons_succ]
 refine takeH 10 (some 50) (v:= ?v11) rfl rfl (by kernel_rfl) (by kernel_rfl) (by kernel_rfl) (fun _ _ _ h=>h) (Or.inl ⟨by rfl,fun W hW=> ?hy11⟩) (by assumption) ?hr11
 case hy11=>(try dsimp only at hW);go_simp;try with_reducible rfl
 try simp only[Act.put,List.setIfInBounds_toArray,List.set_cons_zero,List.set_cons_succ]
 refine takeH 11 (some 51) (v:= ?v12) rfl rfl (by kernel_rfl) (by kernel_rfl) (by kernel_rfl) (fun _ _ _ h=>h) (Or.inl ⟨by rfl,fun W hW=> ?hy12⟩) (by assumption) ?hr12
 case hy12=>(try dsimp only at hW);go_simp;try with_reducible rfl
 try simp only[Act.put,List.setIfInBounds_toArray,List.set_cons_zero,List.set_cons_succ]
 refine takeH 12 (some 52) (v:= ?v13) rfl rfl (by kernel_rfl) (by kernel_rfl) (by kernel_rfl) (fun _ _ _ h=>h) (Or.inl ⟨by rfl,fun W hW=> ?hy13⟩) (by assumption) ?hr13
 case hy13=>(try dsimp only at hW);go_simp;try with_reducible rfl
 try simp only[Act.put,List.setIfInBounds_toArray,List.set_cons_zero,List.set_cons_succ]
 refine wpAnyH_ready (rs:=[13]) (by kernel_rfl) (by simp) ?_
 refine readyH (some 53) rfl rfl (fun K hK=> ?_) AllReadyH.nil
 go_simp
 refine hK _ _ (HS.out _ _ _ kw0 kx0) (fun hHeld=> ?_)
 clear hK K
 try simp only[Act.put,List.setIfInBounds_toArray,List.set_cons_zero,List.set_cons_succ]
 refine takeH 14 (some 54) (v:= ?v14) rfl rfl (by kernel_rfl) (by kernel_rfl) (by kernel_rfl) (fun _ _ _ h=>h) (Or.inl ⟨by rfl,fun W hW=> ?hy14⟩) (by assumption) ?hr14
 case hy14=>(try dsimp only at hW);go_simp;try with_reducible rfl
 try simp only[Act.put,List.setIfInBounds_toArray,List.set_cons_zero,List.set_cons_succ]
 refine wpAnyH_ready (rs:=[15]) (by kernel_rfl) (by simp) ?_
 refine readyH (some 55) rfl rfl (fun K hK=> ?_) AllReadyH.nil
 go_simp
 refine hK _ _ (HS.out _ _ _ kw1 kx1) (fun hHeld=> ?_)
 clear hK K
 try simp only[Act.put,List.setIfInBounds_toArray,List.set_cons_zero,List.set_cons_succ]
 refine takeH 16 (some 56) (v:= ?v15) rfl rfl (by kernel_rfl) (by kernel_rfl) (by kernel_rfl) (fun _ _ _ h=>h) (Or.inl ⟨by rfl,fun W hW=> ?hy15⟩) (by assumption) ?hr15
 case hy15=>(try dsimp only at hW);go_simp;try with_reducible rfl
 try simp only[Act.put,List.setIfInBounds_toArray,List.set_cons_zero,List.set_cons_succ]
 refine wpAnyH_ready (rs:=[17]) (by kernel_rfl) (by simp) ?_
 refine readyH none rfl rfl (fun K hK=> ?_) AllReadyH.nil
 go_simp
 refine hK _ _ (HS.out _ _ _ kw2 kx2) (fun hHeld=> ?_)
 clear hK K
 try simp only[Act.put,List.setIfInBounds_toArray,List.set_cons_zero,List.set_cons_succ]
 refine takeH 18 (some 57) (v:= ?v16) rfl rfl (by kernel_rfl) (by kernel_rfl) (by kernel_rfl) (fun _ _ _ h=>h) (Or.inl ⟨by rfl,fun W hW=> ?hy16⟩) (by assumption) ?hr16
 case hy16=>(try dsimp only at hW);go_simp;try with_reducible rfl
 try simp only[Act.put,List.setIfInBounds_toArray,List.set_cons_zero,List.set_cons_succ]
 refine takeH 19 (some 58) (v:= ?v17) rfl rfl (by kernel_rfl) (by kernel_rfl) (by kernel_rfl) (fun _ _ _ h=>h) (Or.inl ⟨by rfl,fun W hW=> ?hy17⟩) (by assumption) ?hr17
 case hy17=>(try dsimp only at hW);go_simp;try with_reducible rfl
 try simp only[Act.put,List.setIfInBounds_toArray,List.set_cons_zero,List.set_cons_succ]
 refine wpAnyH_ready (rs:=[20]) (by kernel_rfl) (by simp) ?_
 refine readyH none rfl rfl (fun K hK=> ?_) AllReadyH.nil
 go_simp
 rw[←HV3.out]
 refine hK _ _ (HS.out _ _ _ kw3 kx3) (fun hHeld=> ?_)
 clear hK K
 try simp only[Act.put,List.setIfInBounds_toArray,List.set_cons_zero,List.set_cons_succ]
 refine takeH 21 (some 59) (v:= ?v18) rfl rfl (by kernel_rfl) (by kernel_rfl) (by kernel_rfl) (fun _ _ _ h=>h) (Or.inl ⟨by rfl,fun W hW=> ?hy18⟩) (by assumption) ?hr18
 case hy18=>(try dsimp only at hW);go_simp;try with_reducible rfl
 try simp only[Act.put,List.setIfInBounds_toArray,List.set_cons_zero,List.set_cons_succ]
 refine takeH 22 (some 60) (v:= ?v19) rfl rfl (by kernel_rfl) (by kernel_rfl) (by kernel_rfl) (fun _ _ _ h=>h) (Or.inl ⟨by rfl,fun W hW=> ?hy19⟩) (by assumption) ?hr19
 case hy19=>(try dsimp only at hW);go_simp;try with_reducible rfl
 try simp only[Act.put,List.setIfInBounds_toArray,List.set_cons_zero,List.set_cons_succ]
 refine wpAnyH_ready (rs:=[23]) (by kernel_rfl) (by simp) ?_
 refine readyH none rfl rfl (fun K hK=> ?_) AllReadyH.nil
 go_simp
 rw[IntWalk.i64_in _ (show-9223372036854775808≤n+1∧n+1≤9223372036854775807 by omega),←HV4.out]
 refine hK _ _ (HS.out _ _ _ kw4 kx4) (fun hHeld=> ?_)
 clear hK K
 try simp only[Act.put,List.setIfInBounds_toArray,List.set_cons_zero,List.set_cons_succ]
 refine wpAnyH_done (by kernel_rfl) ?_ _
 go_wp2
 go_ret
 have hwz5:wb<w5.heap.size:=(Array.getElem?_eq_some_iff.1 kw5).1
 have s1:=hS0.kept' g1 hup.1 (fun m q hq=>by have:=hoff5 m q hq;omega)
 have s2:=s1.kept' g2 hup.1 (fun m q hq=>by have:=hoff5 m q hq;omega)
 have s3:=s2.kept' g3 (by omega) (fun m q hq=>by have:=hoff5 m q hq;omega)
 have s4:=s3.kept' g4 (by omega) (fun m q hq=>by have:=hoff5 m q hq;omega)
 have y0:=g0.size
 have y1:=g1.size
 have y2:=g2.size
 have y3:=g3.size
 have f4:=(f2.kept g3 (by simp;omega)).kept g4 (by simp;omega)
 have bB4:Below B w V4:=((((bB.grown g0 (by omega) (by simp)).grown g1 (by omega) (by intro k e;cases e;omega)).grown g2 (by omega) (by intro k e;cases e;omega)).grown g3 (by omega) (by intro k e;cases e;omega)).grown g4 (by omega) (by intro k e;cases e;omega)
 have hpos:Rt.possible s x=0:=hp
 refine⟨rfl,bB4,ad',n+1,x.day,?_,fun i hi hwi ha=> ?_,hN.up (by omega)⟩
 rotate_left
 ·have e5:=(hFr.own i (by omega) (by omega) ha).trans (b5.block i hi)
  have hi5:i<w5.heap.size:=by have:=hFr.size;omega
  exact(g4.block i (by omega) (by simp;omega)).trans ((g3.block i (by omega) (by simp;omega)).trans ((g2.block i (by omega) (by simp;omega)).trans ((g1.block i (by omega) (by simp;omega)).trans ((g0.block i hi5 (by simp)).trans e5))))
 rw[if_pos rfl,if_pos rfl]
 refine⟨s4,Rt.does_inv H.out.inv hfm hpos,kw4,?_,hup,hoff5,?_,(last_snoc _ _).symm,fun y hy=> ?_⟩
 ·have he : upd (fU fun n => l.any (·.id == n)) x.id (some (.bool true)) = fU fun n => (l ++ [x]).any (·.id == n) := by
   funext m
   show (if m = x.id then some (Value.bool true) else if l.any (·.id == m) then some (Value.bool true) else none) = if (l ++ [x]).any (·.id == m) then some (Value.bool true) else none
   by_cases e:m=x.id
   ·subst e;simp
   ·have e2:(x.id==m)=false:=by simpa using fun h=>e h.symm
    rw[if_neg e,List.any_append]
    simp[e2]
  rw[←he]
  exact f4
 ·rw[H.out.cnt]
  simp
 ·rcases List.mem_append.1 hy with hy|hy
  ·exact H.out.days y hy
  ·rw[List.mem_singleton.1 hy]
   exact formed_day hfm
end
end Go.Proofs.YtcffonnijhhhiaaGreatDoor
namespace Go.Proofs.YtcffonnijhhhiaaGreatDoor
open Go Go.RowKit Go.Maps Mp
attribute [-simp] Prod.forall Prod.exists
attribute [-go_sem] loadVar storeVar
attribute [local go_sem] lk_int lk_u8 lk_ints lk_state lk_ids
structure Dp where
 x:Dl
 A1:Option Addr
 A2:Option Addr
 c1:Nat
 c2:Nat
def encD (p:Dp):List Value:=(xcs p.x p.A1 p.A2 p.c1 p.c2).toList
structure Dls (w:World)(B:Nat)(A:Option Addr)(L:List Dp):Prop where
 seg:Seg encD 11 w B A L
 each: ∀p∈L,DS w B p.A1 p.A2 p.x∧p.x.into.length≤p.c1∧p.x.sizes.length≤p.c2
abbrev dls (L : List Dp) : List Dl := L.map (·.x)
section
variable {w w' : World} {B B' : Nat} {A : Option Addr} {L : List Dp}
theorem Dls.below (h:Dls w B A L)(hb:Below B w w'):Dls w' B A L:=⟨h.seg.below hb,fun p hp=>by
 obtain⟨a,b,c⟩:=h.each p hp
 exact⟨⟨a.into.below hb,a.sizes.below hb,a.li,a.ls⟩,b,c⟩⟩
theorem Dls.more (h:Dls w B A L)(hB:B≤B'):Dls w B' A L:=⟨h.seg.more hB,fun p hp=>by
 obtain⟨a,b,c⟩:=h.each p hp
 exact⟨⟨a.into.more hB,a.sizes.more hB,a.li,a.ls⟩,b,c⟩⟩
theorem Dls.up (h:Dls w w.heap.size A L)(hb:Below w.heap.size w w'):Dls w' w'.heap.size A L:=(h.below hb).more hb.size
theorem Dls.at_ (h:Dls w B A L){k:Nat}(hk:k<L.length): ∃b off,A=some ⟨b,off,none⟩∧b<B∧(loadVar 24 ⟨b,off+k*11,none⟩).run Tryz.prog w=.ok (.agg (xcs L[k].x L[k].A1 L[k].A2 L[k].c1 L[k].c2)) w∧
  DS w B L[k].A1 L[k].A2 L[k].x∧L[k].x.into.length≤L[k].c1∧L[k].x.sizes.length≤L[k].c2:=by
 obtain⟨b,off,hA,hb,hc⟩:=h.seg.at_ hk
 refine⟨b,off,hA,hb,?_,h.each _ (List.getElem_mem hk)⟩
 exact run_loadVar_mid w b (off+k*11) 24 (encD L[k]) _ (fun j v hv=>hc j v hv) Tryz.underlying24 rfl info_deal
end
set_option maxRecDepth 100000 in
theorem started_a (w:World):Calls Tryz.prog 167 #[] w fun e w'=>e=.returned (.pointer (some ⟨w.heap.size+6,0,none⟩))∧Below w.heap.size w w'∧ ∃bu bl be bs ad,WK w' w.heap.size (w.heap.size+4) bu bl be bs ad (w.heap.size+6) (w.heap.size+5) 0 0 Rt.St.begun []:=by
 have hmm:= @run_makeMap Tryz.prog
 go_enter Tryz.func167,Tryz.ntmps167
 go_wp2_with fail
 refine(begun_a w).mono ?_
 rintro e w1 ⟨rfl,⟨bu,bl,be,bs,ad,h⟩,b1,z1⟩
 go_wp2
 go_ret
 have hsm:SM ((w1.alloc (.map #[] 0)).alloc (oWk (w.heap.size+4) (w.heap.size+5) 0 0)) w.heap.size (w.heap.size+4) bu bl be bs ad (view Rt.St.begun):=h.below (by go_grown)
 have hno: ∀n,ad n=none:=fun n=>by
  cases hp:ad n with
  |none=>rfl
  |some p=>
   obtain⟨L,h1,_⟩:=h.each n p hp
   cases h1
 refine⟨by simp[z1],b1.trans ?_,bu,bl,be,bs,ad,?_⟩
 ·go_grown
 ·exact⟨hsm,Rt.Inv.begun,heap_at (by simp[z1]),(FM.new w1 z1).alloc _,by omega,fun n p hp=>(by rw[hno]at hp;cases hp),rfl,rfl,fun y hy=>(by cases hy)⟩
def EndW (w:World)(l:List Dl)(e:Ending)(w':World):Prop:=Below w.heap.size w w'∧
 if (Rt.check l).2=0 then ∃sb bu bl be bs ad wb bk n d,e=.returned (.tuple #[.pointer (some ⟨wb,0,none⟩),.int .i64 0,.int .i64 0])∧WK w' w.heap.size sb bu bl be bs ad wb bk n d (Rt.stOf l) l
 else e=.returned (.tuple #[.pointer none,.int .i64 (Rt.check l).1,.int .i64 (Rt.check l).2])
theorem check_go {s:Rt.St}{done l:List Dl}{x:Dl}:Rt.checkGo s done (x::l)=if Rt.refused s done x=0 then Rt.checkGo (Rt.does s x) (done++[x]) l else (done.length,Rt.refused s done x):=rfl
set_option maxRecDepth 100000 in
set_option maxHeartbeats 4000000 in
theorem walked_a (A:Option Addr)(c:Nat)(L:List Dp)(w:World)(hL:Dls w w.heap.size A L)(hm:L.length≤1000000):Calls Tryz.prog 100 #[.slice A L.length c] w (EndW w (dls L)):=by
 have hs:=started_a w
 have hlen:(dls L).length=L.length:=by simp
 go_enter Tryz.func100,Tryz.ntmps100
 go_wp2_with fail
 refine hs.mono ?_
 rintro e w1 ⟨rfl,b1,bu,bl,be,bs,ad,h0⟩
 have HL:=Lib.hid hL
 clear hs hL
 go_wp2
 go_loopw [12] (fun i wr=> ∃(j:Nat) (s:Rt.St) (ad:Int→Option (Nat×Nat)) (n d:Int),j≤L.length∧i=.int .i64 j∧Hid (Rt.check (dls L)=Rt.checkGo s ((dls L).take j) ((dls L).drop j))∧Hid (s=Rt.stOf ((dls L).take j))∧
   WK wr w.heap.size (w.heap.size+4) bu bl be bs ad (w.heap.size+6) (w.heap.size+5) n d s ((dls L).take j)∧Below w.heap.size w wr) (fun i _=>L.length-(intOf i).toNat)
 case atStart=>exact⟨0,_,ad,0,0,by omega,rfl,Lib.hid rfl,Lib.hid rfl,h0,b1⟩
 case round=>
  obtain⟨j,s,ad,n,d,hj,rfl,HC,HSt,hk,hb⟩:=hrel
  by_cases hlt:j<L.length
  ·obtain⟨b,off,hA,hbb,hld,hds,hcp,_⟩:=(HL.out.below hb).at_ hlt
   obtain⟨⟨x,A1,A2,c1,c2⟩,hp⟩: ∃p,L[j]=p:=⟨_,rfl⟩
   rw[hp]at hld hds hcp
   simp only at hld hds hcp
   have hxj:(dls L).drop j=x::(dls L).drop (j+1):=by
    rw[List.drop_eq_getElem_cons (by rw[hlen];exact hlt)]
    congr 1
    simp[hp]
   have htk:(dls L).take (j+1)=(dls L).take j++[x]:=by
    rw[List.take_succ_eq_append_getElem (by rw[hlen];exact hlt)]
    simp[hp]
   have hck:Rt.check (dls L)=if Rt.refused s ((dls L).take j) x=0 then Rt.checkGo (Rt.does s x) ((dls L).take j++[x]) ((dls L).drop (j+1))else (((dls L).take j).length,Rt.refused s ((dls L).take j) x):=by
    rw[HC.out,hxj,check_go]
   obtain⟨w4,st4,k2,g4⟩:=st_row (wr.alloc (.cells zcs 24)) wr.heap.size 24 24 zcs (xcs x A1 A2 c1 c2) (heap_alloc_new wr _) info_deal rfl (by simp[Value.oneCell'])
   have b2:Below wr.heap.size wr w4:=(Below.alloc (Below.refl _ wr) (Nat.le_refl _) _).grown g4 (by simp) (by intro k e;cases e;omega)
   have l2:=ld_row k2 Tryz.underlying24 rfl info_deal
   have hst:=step_a (hk.below b2) x A1 A2 c1 c2 ⟨hds.into.below (b2.mono hb.size),hds.sizes.below (b2.mono hb.size),hds.li,hds.ls⟩ hcp
   obtain⟨E,hE⟩: ∃E,Rt.refused s ((dls L).take j) x=E:=⟨_,rfl⟩
   rw[hE]at hst hck
   subst hA
   have HCK:=Lib.hid hck
   have HTK:=Lib.hid htk
   have HK:=Lib.hid hk
   clear hck htk hxj hk hds
   go_wp2_with fail
   refine hst.mono ?_
   clear hst
   rintro e w3 ⟨rfl,b3,ad3,n3,d3,h3,_,_⟩
   have b4:Below w.heap.size w w3:=(hb.trans (b2.mono hb.size)).trans b3
   by_cases hE0:E=0
   ·subst hE0
    rw[if_pos rfl,if_pos rfl,←HTK.out]at h3
    go_wp2
    refine⟨?_,by first|(simp[intOf];done)|(simp[intOf];omega)⟩
    exact⟨j+1,_,ad3,n3,d3,by omega,by simp,Lib.hid (by rw[HCK.out,HTK.out];simp only[if_true]),Lib.hid (by rw[HTK.out,Rt.stOf,List.foldl_append,←Rt.stOf,←HSt.out];rfl),h3,b4⟩
   ·have hq:(E !=0)=true:=by simpa using hE0
    have hq2:(E==0)=false:=by simpa using hE0
    rw[if_neg hE0]at HCK
    have hlj:((dls L).take j).length=j:=by rw[List.length_take,hlen];omega
    rw[hlj]at HCK
    go_wp2
    refine bodyPost_ret (v:=.tuple #[.pointer none,.int .i64 j,.int .i64 E]) (by simp[results,Tryz.results100,go_sem]) rfl ?_
    refine⟨b4,?_⟩
    rw[HCK.out,if_neg hE0]
  ·obtain rfl:j=L.length:=by omega
   have htk:(dls L).take L.length=dls L:=by rw[List.take_of_length_le (by rw[hlen];exact Nat.le_refl _)]
   have hdr:(dls L).drop L.length=[]:=by rw[List.drop_eq_nil_of_le (by rw[hlen];exact Nat.le_refl _)]
   have hc:=HC.out
   have hs:=HSt.out
   rw[hdr]at hc
   rw[htk]at hs hk
   have h0:(Rt.check (dls L)).2=0:=by rw[hc];rfl
   subst hs
   have H0:=Lib.hid h0
   clear hc h0 htk hdr HC HSt
   go_wp2
   refine bodyPost_ret (v:=.tuple #[.pointer (some ⟨w.heap.size+6,0,none⟩),.int .i64 0,.int .i64 0]) (by simp[results,Tryz.results100,go_sem]) rfl ?_
   refine⟨hb,?_⟩
   rw[if_pos H0.out]
   exact⟨_,_,_,_,_,_,_,_,_,_,rfl,hk⟩
end Go.Proofs.YtcffonnijhhhiaaGreatDoor
namespace Go.Proofs.YtcffonnijhhhiaaGreatDoor
open Go Go.RowKit Go.Maps Mp
theorem check_zero {s:Rt.St}{done l:List Dl}(h:(Rt.checkGo s done l).2=0):(Rt.checkGo s done l).1=0:=by
 induction l generalizing s done with
 |nil=>rfl
 |cons x l ih=>
  rw[check_go]at h ⊢
  split
  ·rename_i h0
   rw[if_pos h0]at h
   exact ih h
  ·rename_i h0
   rw[if_neg h0]at h
   exact absurd h h0
theorem check_a (A:Option Addr)(c:Nat)(L:List Dp)(w:World)(hL:Dls w w.heap.size A L)(hm:L.length≤1000000):
  Calls Tryz.prog 31 #[.slice A L.length c] w fun e w'=>e=.returned (.tuple #[.int .i64 (Rt.check (dls L)).1,.int .i64 (Rt.check (dls L)).2])∧Below w.heap.size w w':=by
 have hw:=walked_a A c L w hL hm
 unfold EndW at hw
 by_cases h0:(Rt.check (dls L)).2=0
 ·have h1:(Rt.check (dls L)).1=0:=check_zero h0
  rw[h0,h1]
  simp only[h0,if_true]at hw
  clear h0 h1
  go_enter Tryz.func31,Tryz.ntmps31
  go_wp2_with fail
  refine hw.mono ?_
  rintro e w' ⟨hb,sb,bu,bl,be,bs,ad,wb,bk,n,d,rfl,_⟩
  go_wp2
  refine bodyPost_ret (v:=.tuple #[.int .i64 0,.int .i64 0]) (by simp[results,Tryz.results31,go_sem]) rfl ?_
  exact⟨rfl,hb⟩
 ·simp only[h0,if_false]at hw
  generalize (Rt.check (dls L)).1=i at hw
  generalize (Rt.check (dls L)).2=E at hw
  go_enter Tryz.func31,Tryz.ntmps31
  go_wp2_with fail
  refine hw.mono ?_
  rintro e w' ⟨hb,rfl⟩
  go_wp2
  refine bodyPost_ret (v:=.tuple #[.int .i64 i,.int .i64 E]) (by simp[results,Tryz.results31,go_sem]) rfl ?_
  exact⟨rfl,hb⟩
end Go.Proofs.YtcffonnijhhhiaaGreatDoor
namespace Go.Proofs.YtcffonnijhhhiaaGreatDoor
open Go Go.RowKit Go.Maps Mp
theorem layI :Lay encInt 22 3 (.int .i64 0) 1 8:=
 ⟨Tryz.underlying22,by kernel_rfl,rfl,by decide,fun _=>rfl,fun x v hv=>by simp[encInt]at hv;subst hv;rfl⟩
theorem layD :Lay encD 34 24 (.agg zcs) 11 120:=
 ⟨Tryz.underlying34,by kernel_rfl,rfl,by decide,fun _=>rfl,fun x v hv=>by simp[encD]at hv;rcases hv with rfl|rfl|rfl|rfl|rfl|rfl|rfl|rfl|rfl|rfl|rfl<;>rfl⟩
section
variable {α : Type} {enc : α → List Value} {ST ET : TypeId} {z : Value} {size bytes : Nat}
theorem clone_law (L:Lay enc ST ET z size bytes){w:World}{l:List α}{a:Addr}{c:Nat}(h:Seg enc size w w.heap.size (some a) l)(hm:l.length≤1000000)(hb:bytes≤1000):
  ∃A' c' w2,(Builtin.append_ #[ST,ST] ST #[.slice (some ⟨w.heap.size,0,none⟩) 0 0,.slice (some a) l.length c]).run Tryz.prog (w.alloc (.cells #[] ET))=.ok (.slice A' l.length c') w2∧
   Seg enc size w2 w2.heap.size A' l∧l.length≤c'∧From w.heap.size A'∧Below w.heap.size w w2∧(∀a',A'=some a'→ ∃cs,w2.heap[a'.block]?=some (.cells cs ET (0,0)))∧w2.ownsRow w.heap.size ET size (.slice A' l.length c') l.length (l.flatMap enc):=by
 obtain⟨i0,hi0,hz0,hz1,hz2⟩:=info_parts L.hi
 have hown0:(w.alloc (.cells #[] ET)).ownsRow w.heap.size ET size (.slice (some ⟨w.heap.size,0,none⟩) 0 0) 0 []:=
  ⟨by simp,.inr ⟨w.heap.size,0,#[],rfl,Nat.le_refl _,heap_alloc_new w _,Nat.le_refl _,by unfold maxLen;omega,by simp,by simp⟩⟩
 have hcell: ∀j u,(l.flatMap enc)[j]?=some u→(w.alloc (.cells #[] ET)).cell? (a.add j)=some u:=by
  intro j u hj
  rcases h with h|⟨b,off,hA,hbb,hc⟩
  ·subst h;simp at hj
  ·cases hA
   have hjl:j<l.length*size:=by rw[←flat_len enc size L.henc l];exact(List.getElem?_eq_some_iff.1 hj).1
   have hk:j/size<l.length:=Nat.div_lt_of_lt_mul (by rw[Nat.mul_comm];exact hjl)
   have hlt:j%size<size:=Nat.mod_lt _ L.hs
   have hv:(enc l[j/size])[j%size]?=some u:=by
    have hx:(enc l[j/size])[j%size]?=some ((enc l[j/size])[j%size]'(by rw[L.henc];exact hlt)):=List.getElem?_eq_getElem _
    have:=flat_at enc size L.henc (List.getElem?_eq_getElem hk) hx
    rw[show j/size*size+j%size=j by rw[Nat.mul_comm];exact Nat.div_add_mod j size,hj]at this
    rw[hx]
    exact this.symm
   rw[Go.WideShapes.add_plain]
   have:=hc (j/size) l[j/size] (List.getElem?_eq_getElem hk) (j%size) u hv
   rw[show off+j/size*size+j%size=off+j by have:=Nat.div_add_mod j size;rw[Nat.mul_comm]at this;omega]at this
   exact(World.cell?_of_block (Below.heap_alloc w _ b hbb)).trans this
 have hone: ∀u∈l.flatMap enc,u.oneCell'=true:=by
  intro u hu
  obtain⟨x,_,hx⟩:=List.mem_flatMap.1 hu
  exact L.hone x u hx
 obtain⟨v',w2,hrun,hown,hgrow,_,hob⟩:=run_append_own_at (P:=Tryz.prog) (w:=w.alloc (.cells #[] ET)) w.heap.size ST ST ET i0 _ size bytes L.ht hi0 hz0 hz1 hz2 L.hz L.hs _ 0 [] hown0 a l.length c (l.flatMap enc)
  (flat_len enc size L.henc l) hcell hone (by unfold maxLen;omega) (by
   rw[Nat.zero_add]
   exact Nat.le_trans (Nat.mul_le_mul hm hb) (by decide)) (by simp)
 rw[Nat.zero_add,List.nil_append]at hown
 obtain⟨A',c',rfl,hs,hc',hf⟩:=own_seg L hown
 refine⟨A',c',w2,hrun,hs,hc',hf,?_,fun a' ha'=> ?_,hown⟩
 rotate_left
 ·rcases hown.2 with ⟨h2,_⟩|⟨g,cap,cur,h2,_,hg,_⟩
  ·subst ha'
   cases h2
  ·subst ha'
   cases h2
   exact⟨_,hg⟩
 exact((Below.refl w.heap.size w).alloc (Nat.le_refl _) _).grown hgrow (by simp) fun j ej=>by
  cases ej
  exact Nat.le_refl _
end
attribute [-go_sem] Builtin.append_
theorem nilI (n c:Nat)(w:World):(binOp .eql 22 (.slice none n c) (.slice none 0 0)).run Tryz.prog w=.ok (.bool true) w:=by kernel_rfl
theorem notNilI (a:Addr)(n c:Nat)(w:World):(binOp .eql 22 (.slice (some a) n c) (.slice none 0 0)).run Tryz.prog w=.ok (.bool false) w:=by kernel_rfl
theorem nilD (n c:Nat)(w:World):(binOp .eql 34 (.slice none n c) (.slice none 0 0)).run Tryz.prog w=.ok (.bool true) w:=by kernel_rfl
theorem notNilD (a:Addr)(n c:Nat)(w:World):(binOp .eql 34 (.slice (some a) n c) (.slice none 0 0)).run Tryz.prog w=.ok (.bool false) w:=by kernel_rfl
set_option maxRecDepth 100000 in
theorem cloneI_a (A:Option Addr)(c:Nat)(l:List Int)(w:World)(h:Ints w w.heap.size A l)(hm:l.length≤1000000):
  Calls Tryz.prog 94 #[.slice A l.length c] w fun e w'=> ∃A' c',e=.returned (.slice A' l.length c')∧Ints w' w'.heap.size A' l∧l.length≤c'∧From w.heap.size A'∧Below w.heap.size w w':=by
 cases A with
 |none=>
  have h0:l=[]:=by
   rcases h with h|⟨b,off,hA,_⟩
   ·exact h
   ·cases hA
  subst h0
  have hq:=nilI 0 c w
  go_enter Tryz.func94,Tryz.ntmps94
  go_wp2
  go_ret
  exact⟨none,0,rfl,.inl rfl,Nat.le_refl _,fun _ h=>(by cases h),Below.refl _ _⟩
 |some a=>
  obtain⟨A',c',w2,hr,hs,hc',hf,hb,_,_⟩:=clone_law layI (c:=c) h hm (by decide)
  have hq:=notNilI a l.length c w
  clear h
  go_enter Tryz.func94,Tryz.ntmps94
  go_wp2
  go_ret
  exact⟨A',c',rfl,hs,hc',hf,hb⟩
set_option maxRecDepth 100000 in
theorem cloneD_a (A:Option Addr)(c:Nat)(L:List Dp)(w:World)(h:Dls w w.heap.size A L)(hm:L.length≤1000000):
  Calls Tryz.prog 105 #[.slice A L.length c] w fun e w'=> ∃A' c',e=.returned (.slice A' L.length c')∧Dls w' w'.heap.size A' L∧L.length≤c'∧From w.heap.size A'∧Below w.heap.size w w'∧(∀a',A'=some a'→ ∃cs,w'.heap[a'.block]?=some (.cells cs 24 (0,0)))∧w'.ownsRow w.heap.size 24 11 (.slice A' L.length c') L.length (L.flatMap encD):=by
 cases A with
 |none=>
  have h0:L=[]:=by
   rcases h.seg with h|⟨b,off,hA,_⟩
   ·exact h
   ·cases hA
  subst h0
  have hq:=nilD 0 c w
  go_enter Tryz.func105,Tryz.ntmps105
  go_wp2
  go_ret
  exact⟨none,0,rfl,⟨.inl rfl,fun p hp=>(by cases hp)⟩,Nat.le_refl _,fun _ h=>(by cases h),Below.refl _ _,fun _ h=>(by cases h),World.ownsRow_nil _ _ _ _⟩
 |some a=>
  obtain⟨A',c',w2,hr,hs,hc',hf,hb,hk,hw⟩:=clone_law layD (c:=c) h.seg hm (by decide)
  have hq:=notNilD a L.length c w
  have HD:=Lib.hid h
  clear h
  go_enter Tryz.func105,Tryz.ntmps105
  go_wp2
  go_ret
  exact⟨A',c',rfl,⟨hs,(HD.out.up hb).each⟩,hc',hf,hb,hk,hw⟩
end Go.Proofs.YtcffonnijhhhiaaGreatDoor
namespace Go.Proofs.YtcffonnijhhhiaaGreatDoor
open Go Go.RowKit Go.Maps Mp
theorem seg_put {w:World}{B g off k i:Nat}{M:List Dp}{p:Dp}{v:Value}(h:Seg encD 11 w B (some ⟨g,off,none⟩) M)(hk:k<M.length)(hi:i<11)(hp:encD p=(encD M[k]).set i v):
  Seg encD 11 (w.setCell ⟨g,off+k*11+i,none⟩ v) B (some ⟨g,off,none⟩) (M.set k p):=by
 rcases h with h|⟨b,o,hA,hb,hc⟩
 ·subst h;simp at hk
 ·cases hA
  refine .inr ⟨g,off,rfl,hb,fun m x hx j u hv=> ?_⟩
  have hj:j<11:=(List.getElem?_eq_some_iff.1 hv).1
  by_cases e:m=k
  ·subst e
   rw[List.getElem?_set_self hk]at hx
   cases hx
   rw[hp]at hv
   by_cases e2:j=i
   ·subst e2
    rw[List.getElem?_set_self (by show j<11;omega)]at hv
    cases hv
    have hold: ∃u',(encD M[m])[j]?=some u':=⟨_,List.getElem?_eq_getElem (show j<(encD M[m]).length from hj)⟩
    obtain⟨u',hu'⟩:=hold
    exact World.cell?_setCell_same _ _ _ (hc m M[m] (List.getElem?_eq_getElem hk) j u' hu')
   ·rw[List.getElem?_set_ne (fun h=>e2 h.symm)]at hv
    refine(World.cell?_setCell_other _ _ _ _ (by simp<;>omega)).trans ?_
    exact hc m M[m] (List.getElem?_eq_getElem hk) j u hv
  ·rw[List.getElem?_set_ne (fun h=>e h.symm)]at hx
   refine(World.cell?_setCell_other _ _ _ _ (by simp<;>omega)).trans ?_
   exact hc m x hx j u hv
def Dp.into' (p:Dp)(A:Option Addr)(c:Nat):Dp:= {p with A1:=A,c1:=c}
def Dp.sizes' (p:Dp)(A:Option Addr)(c:Nat):Dp:= {p with A2:=A,c2:=c}
theorem enc_into (p:Dp)(A:Option Addr)(c:Nat):encD (p.into' A c)=(encD p).set 9 (.slice A p.x.into.length c):=rfl
theorem enc_sizes (p:Dp)(A:Option Addr)(c:Nat):encD (p.sizes' A c)=(encD p).set 10 (.slice A p.x.sizes.length c):=rfl
def Far {α:Type}(g:Nat)(A:Option Addr)(l:List α):Prop:=l=[]∨ ∀a,A=some a→a.block≠g
theorem seg_far {α:Type}{enc:α→List Value}{size:Nat}{w:World}{B g o:Nat}{A:Option Addr}{l:List α}{v:Value}(h:Seg enc size w B A l)(hf:Far g A l):Seg enc size (w.setCell ⟨g,o,none⟩ v) B A l:=by
 rcases h with h|⟨b,off,hA,hb,hc⟩
 ·exact .inl h
 ·rcases hf with hf|hf
  ·exact .inl hf
  ·have hne:b≠g:=hf _ hA
   exact .inr ⟨b,off,hA,hb,fun k x hx j u hu=>(World.cell?_setCell_far _ _ _ _ (fun e=>hne e.symm)).trans (hc k x hx j u hu)⟩
theorem far_low {α:Type}{enc:α→List Value}{size:Nat}{w:World}{B g:Nat}{A:Option Addr}{l:List α}(h:Seg enc size w B A l)(hg:B≤g):Far g A l:=by
 rcases h with h|⟨b,off,hA,hb,_⟩
 ·exact .inl h
 ·refine .inr fun a ha=> ?_
  rw[hA]at ha
  cases ha
  show b≠g
  omega
theorem far_high {α:Type}{g n:Nat}{A:Option Addr}{l:List α}(h:From n A)(hg:g<n):Far g A l:=.inr fun a ha=>by
 have:=h a ha
 omega
end Go.Proofs.YtcffonnijhhhiaaGreatDoor
