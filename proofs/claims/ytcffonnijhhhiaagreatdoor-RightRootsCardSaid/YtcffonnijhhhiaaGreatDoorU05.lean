/- Part U05 of the proof: Re Si Vw Su Vi. -/
import Derived.Test.YtcffonnijhhhiaaGreatDoorProg
import Derived.WalkKit
import Derived.WalkLawsBesides
import Derived.WalkSpells
import Derived.Handy
import Derived.Lib.Hide
import Derived.Great.BuildSlice
import Derived.Deep.QuietTactic
import Derived.BigQuiet
import Derived.Deep.RegionHeld3
import Derived.Deep.DeepCutAuto
import Derived.Test.YtcffonnijhhhiaaGreatDoorU04
import Derived.Test.YtcffonnijhhhiaaGreatDoorU01
import Derived.Test.YtcffonnijhhhiaaGreatDoorU02
set_option linter.all false
set_option linter.unusedSimpArgs false
set_option linter.unusedVariables false
set_option linter.unusedSectionVars false
namespace Go.Proofs.YtcffonnijhhhiaaGreatDoor
open Go Go.RowKit Mp
attribute [-simp] Prod.forall Prod.exists
section
variable {w : World} {B sb bu bl be bs : Nat} {ad : Int → Option (Nat × Nat)} {F : FS}
set_option maxRecDepth 100000 in
theorem release_a (h:SM w B sb bu bl be bs ad F)(x:Dl)(A1 A2:Option Addr)(c1 c2:Nat)(h1:i64 x.lot)(h2:i64 x.other):
  Calls Tryz.prog 262 #[.pointer (some ⟨sb,0,none⟩),.agg (xcs x A1 A2 c1 c2)] w (EndK w B sb bu bl be bs ad (F.release x.lot x.other) (if (F.eases (x.lot,x.other)).isSome then 0 else 5)):=by
 have hz:=h.lt
 have ho:=h.ord
 obtain⟨W,hW⟩: ∃W:World,W=(w.alloc (oDl x A1 A2 c1 c2)).drew:=⟨_,rfl⟩
 have b2:Below w.heap.size w W:=by rw[hW];exact below_drew (by go_grown)
 have kx1:W.heap[w.heap.size]?=some (oDl x A1 A2 c1 c2):=by rw[hW];exact heap_alloc_new w _
 have HW:=Lib.hid hW
 have hz1:w.heap.size<W.heap.size:=(Array.getElem?_eq_some_iff.1 kx1).1
 clear hW
 have hs1:=h.below b2
 have hl:=hs1.lEase h1 h2
 obtain⟨hc1,hf1⟩:=blk_cells hs1.blk
 obtain⟨hcx,hfx⟩:=blk_cells kx1
 generalize (F.eases (x.lot,x.other)).isSome=v2 at hl ⊢
 cases v2 with
 |false=>
  simp only[Bool.false_eq_true,if_false]
  go_enter Tryz.func262,Tryz.ntmps262
  go_wp2
  refine still_all HW.out (by kernel_rfl) (by kernel_rfl) ?_
  repeat still_step
  refine wpStill_nil ?_
  go_wp2_with (go_at_call 290;refine(refuse_yes _ _).mono ?_;rintro e w' ⟨rfl,hy⟩)
  exact⟨rfl,EndK.no (by decide) rfl (b2.trans (hy.mono b2.size))⟩
 |true=>
  simp only[if_true]
  obtain⟨W2,hW2⟩: ∃W2:World,W2=W.drew:=⟨_,rfl⟩
  have b3:Below w.heap.size w W2:=by rw[hW2];exact below_drew b2
  have kx2:W2.heap[w.heap.size]?=some (oDl x A1 A2 c1 c2):=by rw[hW2];exact kx1
  have HW2:=Lib.hid hW2
  clear hW2
  obtain⟨w3,hrun,h3,b4,g3⟩:=(h.below b3).release h1 h2
  obtain⟨hc2,hf2⟩:=blk_cells (h.below b3).blk
  obtain⟨hcx2,hfx2⟩:=blk_cells kx2
  go_enter Tryz.func262,Tryz.ntmps262
  go_wp2
  refine still_all HW.out (by kernel_rfl) (by kernel_rfl) ?_
  repeat still_step
  refine wpStill_nil ?_
  go_wp2_with fail
  refine(refuse_no _ _).mono ?_
  rintro e w' ⟨rfl,rfl⟩
  go_wp2
  refine still_tail HW2.out 9 (by kernel_rfl) (by kernel_rfl) ?_
  simp only[List.take_succ_cons,List.take_zero,List.drop_succ_cons,List.drop_zero]
  repeat still_step
  refine wpStill_nil ?_
  go_wp2
  go_end0
  exact EndK.ok rfl h3 ((Fr.of b3 (Nat.le_refl _) (by omega)).grow g3 ⟨by omega,by omega⟩ (.inl (by omega))) (New.refl _ _)
set_option maxRecDepth 100000 in
theorem end_a (h:SM w B sb bu bl be bs ad F)(x:Dl)(A1 A2:Option Addr)(c1 c2:Nat)(h1:i64 x.lot)(h2:i64 x.to):
  Calls Tryz.prog 264 #[.pointer (some ⟨sb,0,none⟩),.agg (xcs x A1 A2 c1 c2)] w (EndK w B sb bu bl be bs ad (F.fin x.lot x.to) (if (F.stints (x.lot,x.to)).isSome then 0 else 5)):=by
 have hz:=h.lt
 have ho:=h.ord
 obtain⟨w1,hw1⟩: ∃w1:World,w1=w.alloc (oDl x A1 A2 c1 c2):=⟨_,rfl⟩
 have b2:Below w.heap.size w w1:=by rw[hw1];go_grown
 have kx1:w1.heap[w.heap.size]?=some (oDl x A1 A2 c1 c2):=by rw[hw1];exact heap_alloc_new w _
 have HW:=Lib.hid hw1.symm
 have hz1:w.heap.size<w1.heap.size:=(Array.getElem?_eq_some_iff.1 kx1).1
 clear hw1
 generalize hu:(F.stints (x.lot,x.to)).getD (0,0)=u
 generalize hv:(F.stints (x.lot,x.to)).isSome=v
 have hS: ∀V,Below w1.heap.size w1 V→V.cell? ⟨sb,3,none⟩=some (.map (some bs))∧V.cell? ⟨w.heap.size,3,none⟩=some (.int .i64 x.lot)∧V.cell? ⟨w.heap.size,6,none⟩=some (.int .i64 x.to)∧
   (Instr.lookup 130 (.map (some bs)) (.agg #[.int .i64 x.lot,.int .i64 x.to]) true).run Tryz.prog V=.ok (.tuple #[.agg #[.int .i64 u.1,.int .i64 u.2],.bool v]) V:=fun V hV=>by
  have hs:=(h.below b2).below hV
  have hl:=hs.lStint h1 h2 true
  rw[hu,hv]at hl
  exact⟨(blk_cells hs.blk).1 3,(blk_cells ((hV.block _ hz1).trans kx1)).1 3,(blk_cells ((hV.block _ hz1).trans kx1)).1 6,hl⟩
 have HS:=Lib.hid hS
 obtain⟨W,hW⟩: ∃W:World,W=(w1.alloc (.cells #[.int .i64 u.1,.int .i64 u.2] 171)).drew:=⟨_,rfl⟩
 have b3:Below w.heap.size w W:=by rw[hW];exact below_drew (b2.alloc (by omega) _)
 have kx3:W.heap[w.heap.size]?=some (oDl x A1 A2 c1 c2):=by rw[hW];exact(Below.heap_alloc w1 _ _ hz1).trans kx1
 have HWW:=Lib.hid hW
 have hz3:w.heap.size<W.heap.size:=(Array.getElem?_eq_some_iff.1 kx3).1
 clear hW
 generalize hE:(if v=true then (0:Int)else 5)=E
 have HN:=Lib.hid hE
 clear hu hv hS hE
 go_enter Tryz.func264,Tryz.ntmps264
 go_wp2
 rw[HW.out]
 go_region_held3 (fun V=>V.cell? ⟨sb,3,none⟩=some (.map (some bs))∧V.cell? ⟨w.heap.size,3,none⟩=some (.int .i64 x.lot)∧V.cell? ⟨w.heap.size,6,none⟩=some (.int .i64 x.to)∧
   (Instr.lookup 130 (.map (some bs)) (.agg #[.int .i64 x.lot,.int .i64 x.to]) true).run Tryz.prog V=.ok (.tuple #[.agg #[.int .i64 u.1,.int .i64 u.2],.bool v]) V) (exact HS.out _ (by go_grown)) (fail)
 all_goals
  rw[←HWW.out]
  cases v with
  |false=>
   obtain rfl:E=5:=by have:=HN.out;simpa using this.symm
   clear HN HS
   go_wp2_with (go_at_call 290;refine(refuse_yes _ _).mono ?_;rintro e w' ⟨rfl,hy⟩)
   exact⟨rfl,EndK.no (by decide) rfl (b3.trans (hy.mono b3.size))⟩
  |true=>
   obtain rfl:E=0:=by have:=HN.out;simpa using this.symm
   clear HN HS
   obtain⟨W2,hW2⟩: ∃W2:World,W2=W.drew:=⟨_,rfl⟩
   have b4:Below w.heap.size w W2:=by rw[hW2];exact below_drew b3
   have kx4:W2.heap[w.heap.size]?=some (oDl x A1 A2 c1 c2):=by rw[hW2];exact kx3
   have HW2:=Lib.hid hW2
   clear hW2
   obtain⟨w3,hrun,h3,b5,g3⟩:=(h.below b4).fin h1 h2
   obtain⟨hc2,hf2⟩:=blk_cells (h.below b4).blk
   obtain⟨hcx2,hfx2⟩:=blk_cells kx4
   go_wp2_with fail
   refine(refuse_no _ _).mono ?_
   rintro e w' ⟨rfl,rfl⟩
   go_wp2
   refine still_tail HW2.out 9 (by kernel_rfl) (by kernel_rfl) ?_
   simp only[List.take_succ_cons,List.take_zero,List.drop_succ_cons,List.drop_zero]
   repeat still_step
   refine wpStill_nil ?_
   go_wp2
   go_end0
   exact EndK.ok rfl h3 ((Fr.of b4 (Nat.le_refl _) (by omega)).grow g3 ⟨by omega,by omega⟩ (.inl (by omega))) (New.refl _ _)
end
end Go.Proofs.YtcffonnijhhhiaaGreatDoor
namespace Go.Proofs.YtcffonnijhhhiaaGreatDoor
open Go Go.RowKit Mp
attribute [-simp] Prod.forall Prod.exists
section
variable {w : World} {B sb bu bl be bs : Nat} {ad : Int → Option (Nat × Nat)} {F : FS}
set_option maxRecDepth 100000 in
theorem stint_a (h:SM w B sb bu bl be bs ad F)(x:Dl)(A1 A2:Option Addr)(c1 c2:Nat)(h1:okI x.lot)(h2:okI x.to):
  Calls Tryz.prog 263 #[.pointer (some ⟨sb,0,none⟩),.agg (xcs x A1 A2 c1 c2)] w (EndK w B sb bu bl be bs ad (F.stint x.lot x.to x.size x.id) (if (F.lots x.lot).isNone then 5 else if (F.stints (x.lot,x.to)).isSome then 6 else 0)):=by
 have hz:=h.lt
 have hSM:=h
 have ho:=h.ord
 have kx:=Below.heap_alloc (w.alloc (oDl x A1 A2 c1 c2)) (.cells #[.int .i64 x.lot] 3) _ (by simp)|>.trans (heap_alloc_new w (oDl x A1 A2 c1 c2))
 have ka:=heap_at (w:=w.alloc (oDl x A1 A2 c1 c2)) (o:=.cells #[.int .i64 x.lot] 3) (n:=w.heap.size+1) (by simp)
 have b1:Below w.heap.size w ((w.alloc (oDl x A1 A2 c1 c2)).alloc (.cells #[.int .i64 x.lot] 3)):=by go_grown
 have hc:=needs_1 (h.below b1) ka h1.i64
 generalize (F.lots x.lot).isNone=v1 at hc ⊢
 cases v1 with
 |true=>
  simp only[if_true]
  go_enter Tryz.func263,Tryz.ntmps263
  go_wp2_with (go_at_call 289;refine hc.mono ?_;rintro e w1 ⟨rfl,hx⟩)
  exact⟨rfl,EndK.no (by decide) rfl (b1.trans (hx.mono b1.size))⟩
 |false=>
  simp only[Bool.false_eq_true,if_false]
  generalize hE:(if (F.stints (x.lot,x.to)).isSome=true then (6:Int)else 0)=E
  generalize hu:(F.stints (x.lot,x.to)).getD (0,0)=u
  generalize hv:(F.stints (x.lot,x.to)).isSome=v at hE
  have HN:=Lib.hid hE
  have HU:=Lib.hid hu
  have HV:=Lib.hid hv
  clear hE hu hv
  go_enter Tryz.func263,Tryz.ntmps263
  go_wp2_with fail
  refine hc.mono ?_
  rintro e w1 ⟨rfl,hx⟩
  have hx1:=hx.size
  simp only[World.size_alloc]at hx1
  have b2:Below w.heap.size w w1:=b1.trans (hx.mono b1.size)
  have kx1:w1.heap[w.heap.size]?=some (oDl x A1 A2 c1 c2):=(hx.block w.heap.size (by simp;omega)).trans kx
  have hz1:w.heap.size<w1.heap.size:=(Array.getElem?_eq_some_iff.1 kx1).1
  have HS:=Lib.hid (show ∀V,Below w1.heap.size w1 V→V.cell? ⟨sb,3,none⟩=some (.map (some bs))∧V.cell? ⟨w.heap.size,3,none⟩=some (.int .i64 x.lot)∧V.cell? ⟨w.heap.size,6,none⟩=some (.int .i64 x.to)∧
   (Instr.lookup 130 (.map (some bs)) (.agg #[.int .i64 x.lot,.int .i64 x.to]) true).run Tryz.prog V=.ok (.tuple #[.agg #[.int .i64 u.1,.int .i64 u.2],.bool v]) V from fun V hV=>by
    have hs:=(h.below b2).below hV
    have hl:=hs.lStint h1.i64 h2.i64 true
    rw[HU.out,HV.out]at hl
    exact⟨(blk_cells hs.blk).1 3,(blk_cells ((hV.block _ hz1).trans kx1)).1 3,(blk_cells ((hV.block _ hz1).trans kx1)).1 6,hl⟩)
  obtain⟨W,hW⟩: ∃W:World,W=(w1.alloc (.cells #[.int .i64 u.1,.int .i64 u.2] 171)).drew:=⟨_,rfl⟩
  have b3:Below w.heap.size w W:=by rw[hW];exact below_drew (b2.alloc (by omega) _)
  have kx3:W.heap[w.heap.size]?=some (oDl x A1 A2 c1 c2):=by rw[hW];exact(Below.heap_alloc w1 _ _ hz1).trans kx1
  have HWW:=Lib.hid hW
  have hz3:w.heap.size<W.heap.size:=(Array.getElem?_eq_some_iff.1 kx3).1
  clear hW hc
  go_wp2
  go_region_held3 (fun V=>V.cell? ⟨sb,3,none⟩=some (.map (some bs))∧V.cell? ⟨w.heap.size,3,none⟩=some (.int .i64 x.lot)∧V.cell? ⟨w.heap.size,6,none⟩=some (.int .i64 x.to)∧
   (Instr.lookup 130 (.map (some bs)) (.agg #[.int .i64 x.lot,.int .i64 x.to]) true).run Tryz.prog V=.ok (.tuple #[.agg #[.int .i64 u.1,.int .i64 u.2],.bool v]) V) (exact HS.out _ (by go_grown)) (fail)
  all_goals
   rw[←HWW.out]
   cases v with
   |true=>
    obtain rfl:E=6:=by have:=HN.out;simpa using this.symm
    clear HN HS
    go_wp2_with (go_at_call 290;refine(refuse_yes _ _).mono ?_;rintro e w' ⟨rfl,hy⟩)
    exact⟨rfl,EndK.no (by decide) rfl (b3.trans (hy.mono b3.size))⟩
   |false=>
    obtain rfl:E=0:=by have:=HN.out;simpa using this.symm
    clear HN HS
    obtain⟨W2,hW2⟩: ∃W2:World,W2=W.drew:=⟨_,rfl⟩
    have b4:Below w.heap.size w W2:=by rw[hW2];exact below_drew b3
    have kx4:W2.heap[w.heap.size]?=some (oDl x A1 A2 c1 c2):=by rw[hW2];exact kx3
    have HW2:=Lib.hid hW2
    clear hW2
    obtain⟨w3,hrun,h3,b5,g3⟩:=(hSM.below b4).stint (n:=x.size) (d:=x.id) h1 h2
    obtain⟨hc2,hf2⟩:=blk_cells (hSM.below b4).blk
    obtain⟨hcx2,hfx2⟩:=blk_cells kx4
    go_wp2_with fail
    refine(refuse_no _ _).mono ?_
    rintro e w' ⟨rfl,rfl⟩
    go_wp2
    refine still_tail HW2.out 14 (by kernel_rfl) (by kernel_rfl) ?_
    simp only[List.take_succ_cons,List.take_zero,List.drop_succ_cons,List.drop_zero]
    repeat still_step
    refine wpStill_nil ?_
    go_wp2
    go_end0
    exact EndK.ok rfl h3 ((Fr.of b4 (Nat.le_refl _) (by omega)).grow g3 ⟨by omega,by omega⟩ (.inl (by omega))) (New.refl _ _)
end
end Go.Proofs.YtcffonnijhhhiaaGreatDoor
namespace Go.Proofs.YtcffonnijhhhiaaGreatDoor
open Go Go.RowKit Mp
def partOf (l : List (Int × Int)) (o : Int) : Option Int := (l.find? (fun p => p.1 == o)).map (·.2)
def lotV (x:Rt.Lot):LotF:=⟨x.size,partOf x.held⟩
def view (s : Rt.St) : FS := ⟨fun n => s.used.contains n, fun n => (Rt.lotOf s.roll.lots n).map lotV, fun k => (Rt.findK Rt.Ease.key s.roll.eases k).map (·.deal), fun k => (Rt.findK Rt.Stint.key s.roll.stints k).map fun t => (t.beasts, t.deal)⟩
theorem FS.ext' {F G:FS}(h1: ∀n,F.used n=G.used n)(h2: ∀n,F.lots n=G.lots n)(h3: ∀k,F.eases k=G.eases k)(h4: ∀k,F.stints k=G.stints k):F=G:=by
 obtain⟨a,b,c,d⟩:=F
 obtain⟨a',b',c',d'⟩:=G
 obtain rfl:a=a':=funext h1
 obtain rfl:b=b':=funext h2
 obtain rfl:c=c':=funext h3
 obtain rfl:d=d':=funext h4
 rfl
theorem LotF.ext' {a b:LotF}(h1:a.size=b.size)(h2: ∀o,a.parts o=b.parts o):a=b:=by
 obtain⟨x,p⟩:=a
 obtain⟨y,q⟩:=b
 obtain rfl:x=y:=h1
 obtain rfl:p=q:=funext h2
 rfl
theorem part_held (l:List (Int×Int))(o:Int):(partOf l o).getD 0=Rt.heldBy l o:=rfl
theorem part_eq {l:List (Int×Int)}(h: ∀p∈l,0<p.2)(o:Int):partOf l o=(some (Rt.heldBy l o)).filter fun v=> !(v==0):=by
 unfold partOf Rt.heldBy
 cases e:l.find? (fun p=>p.1==o)with
 |none=>rfl
 |some p=>
  have:=h p (List.mem_of_find?_eq_some e)
  have hn: ¬p.2=0:=by omega
  simp[Option.filter,hn]
theorem parts_ok {l:List (Int×Int)}(h:Rt.Held l):PartsOk (partOf l):=by
 intro o v hv
 unfold partOf at hv
 cases e:l.find? (fun p=>p.1==o)with
 |none=>rw[e]at hv;cases hv
 |some p=>
  have hm:=List.mem_of_find?_eq_some e
  have h1:=h.pos p hm
  have h2:=Rt.held_le h.pos o
  have h3:Rt.heldBy l o=p.2:=by unfold Rt.heldBy;rw[e];rfl
  rw[e]at hv
  simp only[Option.map_some,Option.some.injEq]at hv
  rw[h.sum]at h2
  omega
theorem EndK.of {w w':World}{B sb bu bl be bs:Nat}{ad:Int→Option (Nat×Nat)}{F' F'':FS}{E E':Int}{e:Ending}(h:EndK w B sb bu bl be bs ad F' E e w')(hE:E=E')(hF:E'=0→F'=F''):EndK w B sb bu bl be bs ad F'' E' e w':=by
 subst hE
 refine⟨fun h0=> ?_,h.2⟩
 rw[←hF h0]
 exact h.1 h0
section
variable {s : Rt.St} {x : Rt.Deal}
theorem pos_1 (hk:x.kind=1):Rt.possible s x=if (view s).used x.lot then 6 else 0:=by
 unfold Rt.possible Rt.missing Rt.twice Rt.unlike view
 rw[hk]
 simp
theorem pos_2 (hk:x.kind=2):Rt.possible s x=if (Rt.lotOf s.roll.lots x.lot).isNone then 5 else if Rt.heldBy (Rt.heldOf s.roll.lots x.lot) x.fr<x.parts then 70 else 0:=by
 unfold Rt.possible Rt.missing Rt.twice Rt.unlike
 rw[hk]
 simp
theorem pos_5 (hk:x.kind=5):Rt.possible s x=if ((view s).lots x.lot).isNone||((view s).lots x.other).isNone then 5 else if ((view s).eases (x.lot,x.other)).isSome then 6 else 0:=by
 unfold Rt.possible Rt.missing Rt.twice Rt.unlike view
 rw[hk]
 simp[Rt.easeOf_eq]
theorem pos_6 (hk:x.kind=6):Rt.possible s x=if ((view s).eases (x.lot,x.other)).isSome then 0 else 5:=by
 unfold Rt.possible Rt.missing Rt.twice Rt.unlike view
 rw[hk]
 simp only[Rt.easeOf_eq,Option.isSome_map]
 cases Rt.findK Rt.Ease.key s.roll.eases (x.lot,x.other)<;>simp
theorem pos_7 (hk:x.kind=7):Rt.possible s x=if ((view s).lots x.lot).isNone then 5 else if ((view s).stints (x.lot,x.to)).isSome then 6 else 0:=by
 unfold Rt.possible Rt.missing Rt.twice Rt.unlike view
 rw[hk]
 simp[Rt.stintOf_eq]
theorem pos_8 (hk:x.kind=8):Rt.possible s x=if ((view s).stints (x.lot,x.to)).isSome then 0 else 5:=by
 unfold Rt.possible Rt.missing Rt.twice Rt.unlike view
 rw[hk]
 simp only[Rt.stintOf_eq,Option.isSome_map]
 cases Rt.findK Rt.Stint.key s.roll.stints (x.lot,x.to)<;>simp
theorem view_1 (h:Rt.Inv s)(hk:x.kind=1)(hp:Rt.possible s x=0):(view s).put x.lot x.size (oneP x.to)=view (Rt.does s x):=by
 have hu:x.lot∉s.used:=by
  rw[pos_1 hk]at hp
  intro hm
  have:(view s).used x.lot=true:=by simp[view,hm]
  rw[this]at hp
  simp at hp
 have hd:Rt.does s x=⟨{s.roll with lots:=Rt.put s.roll.lots ⟨x.lot,x.size,[(x.to,5040)]⟩},s.used++[x.lot]⟩:=by unfold Rt.does;rw[hk];rfl
 rw[hd]
 refine FS.ext' (fun n=> ?_) (fun n=> ?_) (fun k=>rfl) (fun k=>rfl)
 ·rw[Bool.eq_iff_iff]
  simp[FS.put,view,or_comm]
 ·simp only[FS.put,view]
  rw[Rt.lotOf_put (h.unused hu)]
  by_cases e:n=x.lot
  ·subst e
   rw[if_pos rfl,if_pos rfl]
   refine congrArg some (LotF.ext' rfl fun o=> ?_)
   unfold oneP lotV partOf
   by_cases e2:o=x.to
   ·subst e2;simp
   ·simp[e2,show ¬x.to=o from fun e=>e2 e.symm]
  ·rw[if_neg e,if_neg (fun h=>e h.symm)]
theorem view_2 (h:Rt.Inv s)(hk:x.kind=2)(hfr:x.fr≠x.to)(hn:0<x.parts)(hp:Rt.possible s x=0):(view s).grant x.lot x.fr x.to x.parts=view (Rt.does s x):=by
 rw[pos_2 hk]at hp
 cases hl:Rt.lotOf s.roll.lots x.lot with
 |none=>rw[hl]at hp;simp at hp
 |some o=>
 have hh:Rt.heldOf s.roll.lots x.lot=o.held:=by unfold Rt.heldOf;rw[hl];rfl
 have hz:Rt.sizeOf s.roll.lots x.lot=o.size:=by unfold Rt.sizeOf;rw[hl];rfl
 obtain⟨mo,no⟩:=Rt.lotOf_some hl
 have hH:=(h.held o mo).1
 have ha:x.parts≤Rt.heldBy o.held x.fr:=by
  rw[hl,hh]at hp
  simp only[Option.isNone_some,Bool.false_eq_true,if_false]at hp
  split at hp
  ·simp at hp
  ·omega
 have hd:Rt.does s x=⟨{s.roll with lots:=Rt.put (Rt.gone s.roll.lots x.lot) ⟨x.lot,o.size,Rt.grant (Rt.grant o.held x.fr (-x.parts)) x.to x.parts⟩},s.used⟩:=by unfold Rt.does;rw[hk];simp only[hh,hz]
 have hu: ∀y∈Rt.gone s.roll.lots x.lot,y.number≠x.lot:=fun y hy=>by simpa [Rt.gone]using (List.mem_filter.1 hy).2
 rw[hd]
 refine FS.ext' (fun n=>rfl) (fun n=> ?_) (fun k=>rfl) (fun k=>rfl)
 simp only[FS.grant,view]
 rw[Rt.lotOf_put (x:=⟨x.lot,o.size,_⟩) hu]
 by_cases e:n=x.lot
 ·subst e
  rw[if_pos rfl,if_pos rfl,hl]
  refine congrArg some (LotF.ext' rfl fun q=> ?_)
  show grantP (partOf o.held) x.fr x.to x.parts q=partOf (Rt.grant (Rt.grant o.held x.fr (-x.parts)) x.to x.parts) q
  rw[part_eq (hH.grant hn ha).pos,hH.of_grant hn ha hfr]
  unfold grantP
  rw[part_held,part_held]
  by_cases e1:q=x.to
  ·rw[if_pos e1,if_pos e1]
  ·rw[if_neg e1,if_neg e1]
   by_cases e2:q=x.fr
   ·rw[if_pos e2,if_pos e2]
   ·rw[if_neg e2,if_neg e2,part_eq hH.pos]
    cases hq:(Rt.heldBy o.held q==0)<;>simp[Option.filter,hq]
 ·rw[if_neg e,if_neg (fun h=>e h.symm),Rt.lotOf_gone,if_neg (fun h=>e h.symm)]
theorem view_5 (hk:x.kind=5)(hp:Rt.possible s x=0):(view s).way x.lot x.other x.id=view (Rt.does s x):=by
 have hno:Rt.findK Rt.Ease.key s.roll.eases (x.lot,x.other)=none:=by
  rw[pos_5 hk]at hp
  cases e:Rt.findK Rt.Ease.key s.roll.eases (x.lot,x.other)with
  |none=>rfl
  |some t=>
   have:((view s).eases (x.lot,x.other)).isSome=true:=by simp[view,e]
   rw[this]at hp
   split at hp<;>simp at hp
 have hd:Rt.does s x=⟨{s.roll with eases:=Rt.putEase s.roll.eases ⟨x.lot,x.other,x.id⟩},s.used⟩:=by unfold Rt.does;rw[hk];rfl
 rw[hd]
 refine FS.ext' (fun n=>rfl) (fun n=>rfl) (fun k=> ?_) (fun k=>rfl)
 simp only[FS.way,view]
 rw[Rt.findK_putEase,show(⟨x.lot,x.other,x.id⟩:Rt.Ease).key=(x.lot,x.other) from rfl,hno]
 by_cases e:k=(x.lot,x.other)
 ·rw[if_pos e,if_pos e.symm];rfl
 ·rw[if_neg e,if_neg (fun h=>e h.symm)]
theorem view_6 (hk:x.kind=6):(view s).release x.lot x.other=view (Rt.does s x):=by
 have hd:Rt.does s x=⟨{s.roll with eases:=s.roll.eases.filter fun e=> !(e.over==x.lot&&e.of==x.other)},s.used⟩:=by unfold Rt.does;rw[hk];rfl
 rw[hd]
 refine FS.ext' (fun n=>rfl) (fun n=>rfl) (fun k=> ?_) (fun k=>rfl)
 simp only[FS.release,view]
 have:=Rt.findK_filter Rt.Ease.key s.roll.eases (fun q=> !(q.1==x.lot&&q.2==x.other)) k
 rw[show(fun e:Rt.Ease=> !(e.over==x.lot&&e.of==x.other))=fun e=> !((Rt.Ease.key e).1==x.lot&&(Rt.Ease.key e).2==x.other) from rfl,this]
 obtain⟨a,b⟩:=k
 by_cases e:(a,b)=(x.lot,x.other)
 ·rw[if_pos e]
  simp only[Prod.mk.injEq]at e
  simp[e]
 ·rw[if_neg e,if_pos]
  simp only[Prod.mk.injEq,not_and]at e
  cases hb:(a==x.lot&&b==x.other)with
  |false=>rfl
  |true=>
   rw[Bool.and_eq_true,beq_iff_eq,beq_iff_eq]at hb
   exact absurd hb.2 (e hb.1)
theorem view_7 (hk:x.kind=7)(hp:Rt.possible s x=0):(view s).stint x.lot x.to x.size x.id=view (Rt.does s x):=by
 have hno:Rt.findK Rt.Stint.key s.roll.stints (x.lot,x.to)=none:=by
  rw[pos_7 hk]at hp
  cases e:Rt.findK Rt.Stint.key s.roll.stints (x.lot,x.to)with
  |none=>rfl
  |some t=>
   have:((view s).stints (x.lot,x.to)).isSome=true:=by simp[view,e]
   rw[this]at hp
   split at hp<;>simp at hp
 have hne: ∀y∈s.roll.stints,y.key≠(x.lot,x.to):=by
  intro y hy he
  unfold Rt.findK at hno
  have:=List.find?_eq_none.1 hno y hy
  simp[he]at this
 have hd:Rt.does s x=⟨{s.roll with stints:=Rt.putStint s.roll.stints ⟨x.lot,x.to,x.size,x.id⟩},s.used⟩:=by unfold Rt.does;rw[hk];rfl
 rw[hd]
 refine FS.ext' (fun n=>rfl) (fun n=>rfl) (fun k=>rfl) (fun k=> ?_)
 simp only[FS.stint,view]
 rw[Rt.putStint_eq,Rt.findK_ins _ _ _ _ hne,show Rt.Stint.key ⟨x.lot,x.to,x.size,x.id⟩=(x.lot,x.to) from rfl]
 by_cases e:k=(x.lot,x.to)
 ·rw[if_pos e,if_pos e.symm];rfl
 ·rw[if_neg e,if_neg (fun h=>e h.symm)]
theorem view_8 (hk:x.kind=8):(view s).fin x.lot x.to=view (Rt.does s x):=by
 have hd:Rt.does s x=⟨{s.roll with stints:=s.roll.stints.filter fun e=> !(e.lot==x.lot&&e.owner==x.to)},s.used⟩:=by unfold Rt.does;rw[hk];rfl
 rw[hd]
 refine FS.ext' (fun n=>rfl) (fun n=>rfl) (fun k=>rfl) (fun k=> ?_)
 simp only[FS.fin,view]
 have:=Rt.findK_filter Rt.Stint.key s.roll.stints (fun q=> !(q.1==x.lot&&q.2==x.to)) k
 rw[show(fun e:Rt.Stint=> !(e.lot==x.lot&&e.owner==x.to))=fun e=> !((Rt.Stint.key e).1==x.lot&&(Rt.Stint.key e).2==x.to) from rfl,this]
 obtain⟨a,b⟩:=k
 by_cases e:(a,b)=(x.lot,x.to)
 ·rw[if_pos e]
  simp only[Prod.mk.injEq]at e
  simp[e]
 ·rw[if_neg e,if_pos]
  simp only[Prod.mk.injEq,not_and]at e
  cases hb:(a==x.lot&&b==x.to)with
  |false=>rfl
  |true=>
   rw[Bool.and_eq_true,beq_iff_eq,beq_iff_eq]at hb
   exact absurd hb.2 (e hb.1)
end
end Go.Proofs.YtcffonnijhhhiaaGreatDoor
namespace Go.Proofs.YtcffonnijhhhiaaGreatDoor
open Go Go.RowKit Mp
theorem sumI_app (a b:List Int):Rt.sumI (a++b)=Rt.sumI a+Rt.sumI b:=by
 induction a with
 |nil=>simp[Rt.sumI]
 |cons x a ih=>simp only[List.cons_append,Rt.sumI,ih];omega
theorem sumI_bd {l:List Int}{m:Int}(h: ∀z∈l,-m≤z∧z≤m): -(m*l.length)≤Rt.sumI l∧Rt.sumI l≤m*l.length:=by
 induction l with
 |nil=>simp[Rt.sumI]
 |cons a l ih=>
  have h1:=h a (by simp)
  have h2:=ih fun z hz=>h z (by simp[hz])
  have e:m*((a::l).length:Nat)=m*(l.length:Nat)+m:=by rw[List.length_cons];push_cast;rw[Int.mul_add,Int.mul_one]
  rw[e]
  unfold Rt.sumI
  omega
theorem sum_a (A:Option Addr)(c:Nat)(l:List Int)(w:World)(hl:Ints w w.heap.size A l)(hm:l.length≤20)(hz: ∀z∈l,-10000000000≤z∧z≤10000000000):
  Calls Tryz.prog 139 #[.slice A l.length c] w fun e w'=>e=.returned (.int .i64 (Rt.sumI l))∧w=w':=by
 go_enter Tryz.func139,Tryz.ntmps139
 go_wp2
 go_loop [3,8] (fun s i=> ∃k:Nat,k≤l.length∧i=.int .i64 k∧s=.int .i64 (Rt.sumI (l.take k))) (fun _ i=>l.length-(intOf i).toNat)
 case atStart=>exact⟨0,by omega,rfl,rfl⟩
 case round=>
  obtain⟨k,hk,rfl,rfl⟩:=hrel
  have hbd:=sumI_bd (l:=l.take k) (m:=10000000000) fun z hz'=>hz z (List.mem_of_mem_take hz')
  have hlen:((l.take k).length:Int)≤20:=by have:=List.length_take_le k l;omega
  have hlen0:(0:Int)≤((l.take k).length:Int):=by omega
  obtain⟨hb1,hb2⟩:=hbd
  have hb3: -200000000000≤Rt.sumI (l.take k):=by omega
  have hb4:Rt.sumI (l.take k)≤200000000000:=by omega
  clear hb1 hb2 hlen hlen0
  by_cases hlt:k<l.length
  ·obtain⟨b,off,rfl,hbB,q0⟩:=Ints.at1 hl hlt
   obtain⟨z1,z2⟩:=hz _ (List.getElem_mem hlt)
   have HS:=Lib.hid (show Rt.sumI (l.take (k+1))=Rt.sumI (l.take k)+l[k] by rw[List.take_succ_eq_append_getElem hlt,sumI_app];simp[Rt.sumI])
   go_wp2
   go_round
   case rel=>exact⟨k+1,by omega,by go_num,by rw[HS.out]⟩
   case measure=>first|(simp[intOf];done)|(simp[intOf];omega)
  ·go_wp2
   go_ret
   exact⟨by rw[List.take_of_length_le (by omega)];rfl,rfl⟩
end Go.Proofs.YtcffonnijhhhiaaGreatDoor
namespace Go.Proofs.Mp
section
variable {K V : Type} [DecidableEq K] {g : K → Option V} {D : List (K × V)} {left : K → Bool}
structure Seen (g:K→Option V)(D:List (K×V))(left:K→Bool):Prop where
 nd : (D.map (·.1)).Nodup
 get: ∀p∈D,g p.1=some p.2
 left : ∀ k, left k = ((g k).isSome && !decide (k ∈ D.map (·.1)))
structure Visit (g:K→Option V)(D:List (K×V)):Prop where
 nd : (D.map (·.1)).Nodup
 iff: ∀k v,g k=some v↔(k,v)∈D
theorem Seen.start (g:K→Option V):Seen g [] fun k=>(g k).isSome:=⟨by simp,by simp,by simp⟩
theorem Seen.step (h:Seen g D left){k:K}{v:V}(hg:g k=some v)(hl:left k=true):Seen g (D++[(k,v)]) fun j=>left j&& !decide (j=k):=by
 rw[h.left]at hl
 simp[hg]at hl
 refine⟨?_,fun p hp=> ?_,fun j=> ?_⟩
 ·rw[List.map_append,List.nodup_append]
  refine⟨h.nd,by simp,fun a ha b hb e=> ?_⟩
  simp at hb
  subst e hb
  obtain⟨p,hp,e⟩:=List.mem_map.1 ha
  exact hl p.2 (by rw[←e];exact hp)
 ·rcases List.mem_append.1 hp with h1|h1
  ·exact h.get p h1
  ·simp at h1
   subst h1
   exact hg
 ·rw[h.left]
  by_cases e:j=k
  ·simp[e]
  ·have h1 : (j ∈ (D ++ [(k, v)]).map (·.1)) ↔ j ∈ D.map (·.1) := by rw [List.map_append, List.mem_append]; simp [e]
   have h2 : decide (j ∈ (D ++ [(k, v)]).map (·.1)) = decide (j ∈ D.map (·.1)) := decide_eq_decide.2 h1
   rw[h2]
   simp only[e,decide_false,Bool.not_false,Bool.and_true]
theorem Seen.done (h:Seen g D left)(hl: ∀k,left k=false):Visit g D:=by
 refine⟨h.nd,fun k v=>⟨fun hg=> ?_,fun hp=>h.get _ hp⟩⟩
 have h1:=hl k
 rw[h.left]at h1
 simp[hg]at h1
 obtain⟨u,hu⟩:=h1
 have:=h.get _ hu
 rw[hg]at this
 cases this
 exact hu
end
end Go.Proofs.Mp
