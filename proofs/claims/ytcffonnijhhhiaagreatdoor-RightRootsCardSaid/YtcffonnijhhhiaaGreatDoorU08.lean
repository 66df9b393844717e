/- Part U08 of the proof: Mg. -/
import Derived.Test.YtcffonnijhhhiaaGreatDoorProg
import Derived.WalkKit
import Derived.WalkLawsBesides
import Derived.WalkSpells
import Derived.Handy
import Derived.Lib.Hide
import Derived.Great.BuildSlice
import Derived.Deep.QuietTactic
import Derived.BigQuiet
import Derived.Deep.RegionHeld3
import Derived.Deep.DeepCutAuto
import Derived.Test.YtcffonnijhhhiaaGreatDoorU07
import Derived.Test.YtcffonnijhhhiaaGreatDoorU06
set_option linter.all false
set_option linter.unusedSimpArgs false
set_option linter.unusedVariables false
set_option linter.unusedSectionVars false
namespace Go.Proofs.YtcffonnijhhhiaaGreatDoor
open Go Go.RowKit Mp
attribute [-simp] Prod.forall Prod.exists
def FS.size (F:FS)(n:Int):Int:=match F.lots n with|some L=>L.size|none=>0
def FS.alike (F:FS)(l:List Int)(f:Int):Prop:= ∀n∈l,F.parts n=F.parts f∧F.grazed n=F.grazed f
theorem headD_get {l:List Int}(h:0<l.length):l.headD 0=l[0]:=by
 cases l with
 |nil=>simp at h
 |cons a l=>rfl
def mgS (f lot:Int)(E:Int×Int→Option (Int×Int))(e:(Int×Int)×(Int×Int)):Int×Int→Option (Int×Int):=if e.1.1=f then fun q=>if q=(lot,e.1.2)then some e.2 else E q else E
def mgK (into:List Int)(lot:Int)(k:Int×Int):Int×Int:=if into.contains k.1 then (lot,k.2)else (k.1,lot)
def mgE (into:List Int)(lot:Int)(E:Int×Int→Option Int)(e:(Int×Int)×Int):Int×Int→Option Int:=
 if into.contains e.1.1=into.contains e.1.2 then E else
 if (match E (mgK into lot e.1)with|none=>true|some d=>decide (e.2<d))then fun q=>if q=mgK into lot e.1 then some e.2 else E q else E
theorem mgE_same {into:List Int}{lot:Int}{E:Int×Int→Option Int}{k:Int×Int}{d:Int}(h:into.contains k.1=into.contains k.2):mgE into lot E (k,d)=E:=if_pos h
theorem mgE_put {into:List Int}{lot:Int}{E:Int×Int→Option Int}{k q:Int×Int}{d:Int}(h:into.contains k.1≠into.contains k.2)(hq:mgK into lot k=q)(hp:(match E q with|none=>true|some d0=>decide (d<d0))=true):
  mgE into lot E (k,d)=fun j=>if j=q then some d else E j:=by
 unfold mgE
 rw[if_neg h]
 simp only[hq]
 rw[if_pos hp]
theorem mgE_keep {into:List Int}{lot:Int}{E:Int×Int→Option Int}{k q:Int×Int}{d:Int}(h:into.contains k.1≠into.contains k.2)(hq:mgK into lot k=q)(hp:(match E q with|none=>true|some d0=>decide (d<d0))=false):
  mgE into lot E (k,d)=E:=by
 unfold mgE
 rw[if_neg h]
 simp only[hq]
 rw[if_neg (by rw[hp];simp)]
section
variable {w : World} {B sb bu bl be bs : Nat} {ad : Int → Option (Nat × Nat)} {F : FS}
set_option maxRecDepth 100000 in
set_option maxHeartbeats 4000000 in
theorem merge_a (h:SM w B sb bu bl be bs ad F)(x:Dl)(A1 A2:Option Addr)(c1 c2:Nat)(h1:okI x.lot)
  (hi: ∀n∈x.into,okI n) (hl2:2≤x.into.length) (hl:x.into.length≤10) (hA1:Ints w B A1 x.into)
  (hall: ∀n∈x.into,∃L,F.lots n=some L∧1≤L.size∧L.size≤10000000000) (hnew:F.used x.lot=false) (F':FS) (E:Int)
  (hE1: ¬F.alike x.into (x.into.headD 0)→E=71) (hE2:10000000000<Rt.sumI (x.into.map F.size)→E=71) (hE0:F.alike x.into (x.into.headD 0)→Rt.sumI (x.into.map F.size)≤10000000000→E=0) (hnd:x.into.Nodup) (hlot: ∀n∈x.into,n≠x.lot)
  (hF: ∀D D2,Visit F.stints D→Visit F.eases D2→F'=x.into.foldl FS.gone {F.put x.lot (Rt.sumI (x.into.map F.size)) (F.parts (x.into.headD 0))with stints:=D.foldl (mgS (x.into.headD 0) x.lot) F.stints,eases:=D2.foldl (mgE x.into x.lot) F.eases}):
  Calls Tryz.prog 260 #[.pointer (some ⟨sb,0,none⟩),.agg (xcs x A1 A2 c1 c2)] w (EndK w B sb bu bl be bs ad F' E):=by
 have hz0:=h.lt
 have ho:=h.ord
 have HALL:=Lib.hid (show ∀n∈x.into,∃p L,ad n=some p∧F.lots n=some L∧1≤L.size∧L.size≤10000000000 from fun n hn=>by
  obtain⟨L,h1,h2,h3⟩:=hall n hn
  cases hp:ad n with
  |none=>rw[h.no _ hp]at h1;cases h1
  |some p=>exact⟨p,L,rfl,h1,h2,h3⟩)
 obtain⟨f,hf⟩: ∃f,x.into[0]=f:=⟨_,rfl⟩
 have hfd:x.into.headD 0=f:=(headD_get (by omega)).trans hf
 rw[hfd]at hE1 hE0 hF
 have hfm:f∈x.into:=hf▸List.getElem_mem (by omega)
 obtain⟨pf,Lf,hpf,hLf,hLf1,hLf2⟩:=HALL.out f hfm
 have Hf:=Lib.hid hf
 have Hpf:=Lib.hid hpf
 have HLf:=Lib.hid hLf
 have Hi:=Lib.hid hi
 have HE1:=Lib.hid hE1
 have HE2:=Lib.hid hE2
 have HE0:=Lib.hid hE0
 have HND:=Lib.hid hnd
 have HLot:=Lib.hid hlot
 have HF':=Lib.hid hF
 have hanyn:(x.into.any fun n=>(F.lots n).isNone)=false:=by
  rw[List.any_eq_false]
  intro n hn
  obtain⟨L,h1,_⟩:=hall n hn
  simp[h1]
 have b0:Below w.heap.size w (w.alloc (oDl x A1 A2 c1 c2)):=by go_grown
 have kx:=heap_alloc_new w (oDl x A1 A2 c1 c2)
 have hc:=needs_a (h.below b0) A1 c1 x.into ((hA1.below (b0.mono (by omega))).more (by simp;omega)) (by omega) (fun n hn=>(Hi.out n hn).i64)
 rw[hanyn]at hc
 replace hc:=hc.mono fun _ _ h=>EndU.ok h
 clear hf hfd hfm hpf hLf hi hE1 hE2 hE0 hanyn hall hnd hlot hF
 go_enter Tryz.func260,Tryz.ntmps260
 go_wp2_with fail
 refine hc.mono ?_
 rintro e w1 ⟨rfl,hx⟩
 have hx1:=hx.size
 simp only[World.size_alloc]at hx1
 have b2:Below w.heap.size w w1:=b0.trans (hx.mono b0.size)
 have kx1:w1.heap[w.heap.size]?=some (oDl x A1 A2 c1 c2):=(hx.block w.heap.size (by simp)).trans kx
 have hz1:w.heap.size<w1.heap.size:=(Array.getElem?_eq_some_iff.1 kx1).1
 obtain⟨hcx,hfx⟩:=blk_cells kx1
 have ka:=heap_alloc_new w1 (.cells #[.int .i64 x.lot] 3)
 have b3:Below w.heap.size w (w1.alloc (.cells #[.int .i64 x.lot] 3)):=b2.alloc (by omega) _
 have hnw:=new_1 (h.below b3) ka h1.i64
 rw[hnew]at hnw
 replace hnw:=hnw.mono fun _ _ h=>EndU.ok h
 clear hc hnew
 go_wp2_with fail
 refine hnw.mono ?_
 clear hnw
 rintro e w2 ⟨rfl,hy⟩
 have hy1:=hy.size
 simp only[World.size_alloc]at hy1
 have b4:Below w.heap.size w w2:=b3.trans (hy.mono b3.size)
 have kx2:w2.heap[w.heap.size]?=some (oDl x A1 A2 c1 c2):=(hy.block w.heap.size (by simp;omega)).trans ((Below.heap_alloc _ _ _ hz1).trans kx1)
 have hz2:w.heap.size<w2.heap.size:=(Array.getElem?_eq_some_iff.1 kx2).1
 clear hcx hfx
 obtain⟨hcx,hfx⟩:=blk_cells kx2
 obtain⟨b0i,o0i,e0i,hb0i,q0i⟩:=Ints.at1 (hA1.below (b4.mono (by omega))) (show 0<x.into.length by omega)
 rw[Hf.out]at q0i
 simp only[Nat.add_zero]at q0i
 subst e0i
 go_wp2
 go_loopw [5,34] (fun s i wr=> ∃(j:Nat) (T:Int),j≤x.into.length∧i=.int .i64 j∧s=.int .i64 T∧Hid (T=Rt.sumI ((x.into.map F.size).take j))∧0≤T∧T≤10000000000*(j:Int)∧Hid (F.alike (x.into.take j) f)∧Below w2.heap.size w2 wr)
  (fun _ i _=>x.into.length-(intOf i).toNat)
 case atStart=>exact⟨0,0,by omega,rfl,rfl,Lib.hid rfl,by omega,by simp,Lib.hid (fun n hn=>by simp at hn),Below.refl _ _⟩
 case round=>
  obtain⟨j,T,hj,rfl,rfl,HT,hT1,hT2,hal,hbw⟩:=hrel
  have hb:=b4.trans (hbw.mono b4.size)
  by_cases hlt:j<x.into.length
  ·obtain⟨bi,oi,ei,hbi,q1⟩:=Ints.at1 (hA1.below (hb.mono (by omega))) hlt
   obtain⟨n,hn⟩: ∃n,x.into[j]=n:=⟨_,rfl⟩
   have hnm:n∈x.into:=hn▸List.getElem_mem hlt
   rw[hn]at q1
   obtain⟨pn,Ln,hpn,hLn,hLn1,hLn2⟩:=HALL.out n hnm
   obtain⟨zn,bn⟩:=pn
   obtain⟨zf,bf⟩:=pf
   have hok:=Hi.out n hnm
   have hokf:=Hi.out f (Hf.out▸List.getElem_mem (by omega))
   have Hn:=Lib.hid hn
   have Hpn:=Lib.hid hpn
   have HLn:=Lib.hid hLn
   cases ei
   have hsz:=hb.size
   have hS0: ∀V,Below wr.heap.size wr V→V.cell? ⟨sb,1,none⟩=some (.map (some bl))∧(Instr.lookup 128 (.map (some bl)) (.int .i64 n) false).run Tryz.prog V=.ok (.pointer (some ⟨zn,0,none⟩)) V∧
     (Instr.lookup 128 (.map (some bl)) (.int .i64 f) false).run Tryz.prog V=.ok (.pointer (some ⟨zf,0,none⟩)) V∧V.cell? ⟨zn,1,none⟩=some (.map (some bn))∧V.cell? ⟨zf,1,none⟩=some (.map (some bf)):=fun V hV=>by
    have hs:=(h.below hb).below hV
    have l1:=hs.lLot hok.i64
    have l2:=hs.lLot hokf.i64
    rw[Hpn.out]at l1
    rw[Hpf.out]at l2
    exact⟨(blk_cells hs.blk).1 1,l1,l2,(blk_cells (hs.size Hpn.out HLn.out).1).1 1,(blk_cells (hs.size Hpf.out HLf.out).1).1 1⟩
   have HS:=Lib.hid hS0
   have bd:Below wr.heap.size wr wr.drew:=below_drew (Below.refl _ _)
   have hsd:=(h.below hb).below bd
   have c1:=equal_a (hsd.size Hpn.out HLn.out).2 (hsd.size Hpf.out HLf.out).2
   clear hn hnm hpn hLn hS0
   by_cases hP:Ln.parts=Lf.parts
   ·have HP:=Lib.hid hP
    clear hP
    by_cases hG:F.grazed n=F.grazed f
    ·have HG:=Lib.hid hG
     clear hG
     go_wp2
     refine wp_region_held_drew (S:=fun V=>V.cell? ⟨sb,1,none⟩=some (.map (some bl))∧(Instr.lookup 128 (.map (some bl)) (.int .i64 n) false).run Tryz.prog V=.ok (.pointer (some ⟨zn,0,none⟩)) V∧
     (Instr.lookup 128 (.map (some bl)) (.int .i64 f) false).run Tryz.prog V=.ok (.pointer (some ⟨zf,0,none⟩)) V∧V.cell? ⟨zn,1,none⟩=some (.map (some bn))∧V.cell? ⟨zf,1,none⟩=some (.map (some bf))) (by kernel_rfl) (HS.out _ bd) (fun hHeld=> ?_)
     refine takeH 0 (some 38) (v:= ?v22) rfl rfl (by kernel_rfl) (by kernel_rfl) (by kernel_rfl) (fun _ _ _ h=>h) (Or.inl ⟨by rfl,fun W hW=> ?hy22⟩) (by assumption) ?hr22
     case hy22=>(try dsimp only at hW);go_simp;try with_reducible rfl
     try simp only[Act.put,List.setIfInBounds_toArray,List.set_cons_zero,List.set_cons_succ]
     refine takeH 1 (some 39) (v:= ?v23) rfl rfl (by kernel_rfl) (by kernel_rfl) (by kernel_rfl) (fun _ _ _ h=>h) (Or.inl ⟨by rfl,fun W hW=> ?hy23⟩) (by assumption) ?hr23
     case hy23=>(try dsimp only at hW);go_simp;try with_reducible rfl
     try simp only[Act.put,List.setIfInBounds_toArray,List.set_cons_zero,List.set_cons_succ]
     refine takeH 2 (some 40) (v:= ?v24) rfl rfl (by kernel_rfl) (by kernel_rfl) (by kernel_rfl) (fun _ _ _ h=>h) (Or.inl ⟨by rfl,fun W hW=> ?hy24⟩) (by assumption) ?hr24
     case hy24=>(try dsimp only at hW);go_simp;try with_reducible rfl
     try simp only[Act.put,List.setIfInBounds_toArray,List.set_cons_zero,List.set_cons_succ]
     refine takeH 3 (some 41) (v:= ?v25) rfl rfl (by kernel_rfl) (by kernel_rfl) (by kernel_rfl) (fun _ _ _ h=>h) (Or.inl ⟨by rfl,fun W hW=> ?hy25⟩) (by assumption) ?hr25
     case hy25=>(try dsimp only at hW);go_simp;try with_reducible rfl
     try simp only[Act.put,List.setIfInBounds_toArray,List.set_cons_zero,List.set_cons_succ]
     refine takeH 4 (some 42) (v:= ?v26) rfl rfl (by kernel_rfl) (by kernel_rfl) (by kernel_rfl) (fun _ _ _ h=>h) (Or.inl ⟨by rfl,fun W hW=> ?hy26⟩) (by assumption) ?hr26
     case hy26=>(try dsimp only at hW);go_simp;try with_reducible rfl
     try simp only[Act.put,List.setIfInBounds_toArray,List.set_cons_zero,List.set_cons_succ]
     refine takeH 5 (some 43) (v:= ?v27) rfl rfl (by kernel_rfl) (by kernel_rfl) (by kernel_rfl) (fun _ _ _ h=>h) (Or.inl ⟨by rfl,fun W hW=> ?hy27⟩) (by assumption) ?hr27
     case hy27=>(try dsimp only at hW);go_simp;try with_reducible rfl
     try simp only[Act.put,List.setIfInBounds_toArray,List.set_cons_zero,List.set_cons_succ]
     refine takeH 6 (some 44) (v:= ?v28) rfl rfl (by kernel_rfl) (by kernel_rfl) (by kernel_rfl) (fun _ _ _ h=>h) (Or.inl ⟨by rfl,fun W hW=> ?hy28⟩) (by assumption) ?hr28
     case hy28=>(try dsimp only at hW);go_simp;try with_reducible rfl
     try simp only[Act.put,List.setIfInBounds_toArray,List.set_cons_zero,List.set_cons_succ]
     refine takeH 7 (some 45) (v:= ?v29) rfl rfl (by kernel_rfl) (by kernel_rfl) (by kernel_rfl) (fun _ _ _ h=>h) (Or.inl ⟨by rfl,fun W hW=> ?hy29⟩) (by assumption) ?hr29
     case hy29=>(try dsimp only at hW);go_simp;try with_reducible rfl
     try simp only[Act.put,List.setIfInBounds_toArray,List.set_cons_zero,List.set_cons_succ]
     refine takeH 8 (some 46) (v:= ?v30) rfl rfl (by kernel_rfl) (by kernel_rfl) (by kernel_rfl) (fun _ _ _ h=>h) (Or.inl ⟨by rfl,fun W hW=> ?hy30⟩) (by assumption) ?hr30
     case hy30=>(try dsimp only at hW);go_simp;try with_reducible rfl
     try simp only[Act.put,List.setIfInBounds_toArray,List.set_cons_zero,List.set_cons_succ]
     refine takeH 9 (some 47) (v:= ?v31) rfl rfl (by kernel_rfl) (by kernel_rfl) (by kernel_rfl) (fun _ _ _ h=>h) (Or.inl ⟨by rfl,fun W hW=> ?hy31⟩) (by assumption) ?hr31
     case hy31=>(try dsimp only at hW);go_simp;try with_reducible rfl
     try simp only[Act.put,List.setIfInBounds_toArray,List.set_cons_zero,List.set_cons_succ]
     refine takeH 10 (some 48) (v:= ?v32) rfl rfl (by kernel_rfl) (by kernel_rfl) (by kernel_rfl) (fun _ _ _ h=>h) (Or.inl ⟨by rfl,fun W hW=> ?hy32⟩) (by assumption) ?hr32
     case hy32=>(try dsimp only at hW);go_simp;try with_reducible rfl
     try simp only[Act.put,List.setIfInBounds_toArray,List.set_cons_zero,List.set_cons_succ]
     refine takeH 11 (some 49) (v:= ?v33) rfl rfl (by kernel_rfl) (by kernel_rfl) (by kernel_rfl) (fun _ _ _ h=>h) (Or.inl ⟨by rfl,fun W hW=> ?hy33⟩) (by assumption) ?hr33
     case hy33=>(try dsimp only at hW);go_simp;try with_reducible rfl
     try simp only[Act.put,List.setIfInBounds_toArray,List.set_cons_zero,List.set_cons_succ]
     refine takeH 12 (some 50) (v:= ?v34) rfl rfl (by kernel_rfl) (by kernel_rfl) (by kernel_rfl) (fun _ _ _ h=>h) (Or.inl ⟨by rfl,fun W hW=> ?hy34⟩) (by assumption) ?hr34
     case hy34=>(try dsimp only at hW);go_simp;try with_reducible rfl
     try simp only[Act.put,List.setIfInBounds_toArray,List.set_cons_zero,List.set_cons_succ]
     refine takeH 13 (some 51) (v:= ?v35) rfl rfl (by kernel_rfl) (by kernel_rfl) (by kernel_rfl) (fun _ _ _ h=>h) (Or.inl ⟨by rfl,fun W hW=> ?hy35⟩) (by assumption) ?hr35
     case hy35=>(try dsimp only at hW);go_simp;try with_reducible rfl
     try simp only[Act.put,List.setIfInBounds_toArray,List.set_cons_zero,List.set_cons_succ]
     refine takeH 14 (some 52) (v:= ?v36) rfl rfl (by kernel_rfl) (by kernel_rfl) (by kernel_rfl) (fun _ _ _ h=>h) (Or.inl ⟨by rfl,fun W hW=> ?hy36⟩) (by assumption) ?hr36
     case hy36=>(try dsimp only at hW);go_simp;try with_reducible rfl
     try simp only[Act.put,List.setIfInBounds_toArray,List.set_cons_zero,List.set_cons_succ]
     refine takeH 15 (some 53) (v:= ?v37) rfl rfl (by kernel_rfl) (by kernel_rfl) (by kernel_rfl) (fun _ _ _ h=>h) (Or.inl ⟨by rfl,fun W hW=> ?hy37⟩) (by assumption) ?hr37
     case hy37=>(try dsimp only at hW);go_simp;try with_reducible rfl
     try simp only[Act.put,List.setIfInBounds_toArray,List.set_cons_zero,List.set_cons_succ]
     refine takeH 16 (some 54) (v:= ?v38) rfl rfl (by kernel_rfl) (by kernel_rfl) (by kernel_rfl) (fun _ _ _ h=>h) (Or.inl ⟨by rfl,fun W hW=> ?hy38⟩) (by assumption) ?hr38
     case hy38=>(try dsimp only at hW);go_simp;try with_reducible rfl
     try simp only[Act.put,List.setIfInBounds_toArray,List.set_cons_zero,List.set_cons_succ]
     refine takeH 17 (some 55) (v:= ?v39) rfl rfl (by kernel_rfl) (by kernel_rfl) (by kernel_rfl) (fun _ _ _ h=>h) (Or.inl ⟨by rfl,fun W hW=> ?hy39⟩) (by assumption) ?hr39
     case hy39=>(try dsimp only at hW);go_simp;try with_reducible rfl
     try simp only[Act.put,List.setIfInBounds_toArray,List.set_cons_zero,List.set_cons_succ]
     refine wpAnyH_ready (rs:=[18]) (by kernel_rfl) (by simp) ?_
     refine readyH (some 56) rfl rfl (fun K hK=> ?_) AllReadyH.nil
     go_simp
     refine c1.mono ?_
     clear c1
     rintro e wA ⟨r,rfl,hr,hA⟩
     obtain rfl:r=true:=hr.2 HP.out
     have bv1:Below wr.heap.size wr wA:=⟨hA.os,hA.tape,hA.output,hA.size,hA.block⟩
     have c2:=grazed_a ((h.below hb).below bv1) n
     refine hK _ _ (HS.out _ bv1) (fun hS=> ?_)
     try simp only[Act.put,List.setIfInBounds_toArray,List.set_cons_zero,List.set_cons_succ]
     refine takeH 19 (some 57) (v:= ?v40) rfl rfl (by kernel_rfl) (by kernel_rfl) (by kernel_rfl) (fun _ _ _ h=>h) (Or.inl ⟨by rfl,fun W hW=> ?hy40⟩) (by assumption) ?hr40
     case hy40=>(try dsimp only at hW);go_simp;try with_reducible rfl
     try simp only[Act.put,List.setIfInBounds_toArray,List.set_cons_zero,List.set_cons_succ]
     refine takeH 20 (some 58) (v:= ?v41) rfl rfl (by kernel_rfl) (by kernel_rfl) (by kernel_rfl) (fun _ _ _ h=>h) (Or.inl ⟨by rfl,fun W hW=> ?hy41⟩) (by assumption) ?hr41
     case hy41=>(try dsimp only at hW);go_simp;try with_reducible rfl
     try simp only[Act.put,List.setIfInBounds_toArray,List.set_cons_zero,List.set_cons_succ]
     refine takeH 21 (some 59) (v:= ?v42) rfl rfl (by kernel_rfl) (by kernel_rfl) (by kernel_rfl) (fun _ _ _ h=>h) (Or.inl ⟨by rfl,fun W hW=> ?hy42⟩) (by assumption) ?hr42
     case hy42=>(try dsimp only at hW);go_simp;try with_reducible rfl
     try simp only[Act.put,List.setIfInBounds_toArray,List.set_cons_zero,List.set_cons_succ]
     refine takeH 22 (some 60) (v:= ?v43) rfl rfl (by kernel_rfl) (by kernel_rfl) (by kernel_rfl) (fun _ _ _ h=>h) (Or.inl ⟨by rfl,fun W hW=> ?hy43⟩) (by assumption) ?hr43
     case hy43=>(try dsimp only at hW);go_simp;try with_reducible rfl
     try simp only[Act.put,List.setIfInBounds_toArray,List.set_cons_zero,List.set_cons_succ]
     refine takeH 24 (some 62) (v:= ?v44) rfl rfl (by kernel_rfl) (by kernel_rfl) (by kernel_rfl) (fun _ _ _ h=>h) (Or.inl ⟨by rfl,fun W hW=> ?hy44⟩) (by assumption) ?hr44
     case hy44=>(try dsimp only at hW);go_simp;try with_reducible rfl
     try simp only[Act.put,List.setIfInBounds_toArray,List.set_cons_zero,List.set_cons_succ]
     refine takeH 25 (some 63) (v:= ?v45) rfl rfl (by kernel_rfl) (by kernel_rfl) (by kernel_rfl) (fun _ _ _ h=>h) (Or.inl ⟨by rfl,fun W hW=> ?hy45⟩) (by assumption) ?hr45
     case hy45=>(try dsimp only at hW);go_simp;try with_reducible rfl
     try simp only[Act.put,List.setIfInBounds_toArray,List.set_cons_zero,List.set_cons_succ]
     refine wpAnyH_ready (rs:=[23]) (by kernel_rfl) (by simp) ?_
     refine readyH (some 61) rfl rfl (fun K hK=> ?_) AllReadyH.nil
     go_simp
     refine c2.mono ?_
     clear c2
     rintro e wB ⟨rfl,fB,hB⟩
     have bv2:Below wr.heap.size wr wB:=bv1.trans (hB.mono bv1.size)
     have c3:=grazed_a ((h.below hb).below bv2) f
     refine hK _ _ (HS.out _ bv2) (fun hS=> ?_)
     try simp only[Act.put,List.setIfInBounds_toArray,List.set_cons_zero,List.set_cons_succ]
     refine wpAnyH_ready (rs:=[26]) (by kernel_rfl) (by simp) ?_
     refine readyH (some 64) rfl rfl (fun K hK=> ?_) AllReadyH.nil
     go_simp
     refine c3.mono ?_
     clear c3
     rintro e wC ⟨rfl,fC,hC⟩
     have bv3:Below wr.heap.size wr wC:=bv2.trans (hC.mono bv2.size)
     have c4:=equal_a (fB.same (hC.block _ fB.lt)) fC
     refine hK _ _ (HS.out _ bv3) (fun hS=> ?_)
     try simp only[Act.put,List.setIfInBounds_toArray,List.set_cons_zero,List.set_cons_succ]
     refine wpAnyH_ready (rs:=[27]) (by kernel_rfl) (by simp) ?_
     refine readyH (some 65) rfl rfl (fun K hK=> ?_) AllReadyH.nil
     go_simp
     refine c4.mono ?_
     clear c4
     rintro e wD ⟨r2,rfl,hr2,hD⟩
     obtain rfl:r2=true:=hr2.2 HG.out
     have bv4:Below wr.heap.size wr wD:=bv3.trans (hD.mono bv3.size)
     refine hK _ _ (HS.out _ bv4) (fun hS=> ?_)
     try simp only[Act.put,List.setIfInBounds_toArray,List.set_cons_zero,List.set_cons_succ]
     refine takeH 28 (some 66) (v:= ?v46) rfl rfl (by kernel_rfl) (by kernel_rfl) (by kernel_rfl) (fun _ _ _ h=>h) (Or.inl ⟨by rfl,fun W hW=> ?hy46⟩) (by assumption) ?hr46
     case hy46=>(try dsimp only at hW);go_simp;try with_reducible rfl
     try simp only[Act.put,List.setIfInBounds_toArray,List.set_cons_zero,List.set_cons_succ]
     refine takeH 29 (some 67) (v:= ?v47) rfl rfl (by kernel_rfl) (by kernel_rfl) (by kernel_rfl) (fun _ _ _ h=>h) (Or.inl ⟨by rfl,fun W hW=> ?hy47⟩) (by assumption) ?hr47
     case hy47=>(try dsimp only at hW);go_simp;try with_reducible rfl
     try simp only[Act.put,List.setIfInBounds_toArray,List.set_cons_zero,List.set_cons_succ]
     refine wpAnyH_ready (rs:=[30]) (by kernel_rfl) (by simp) ?_
     refine readyH (some 68) rfl rfl (fun K hK=> ?_) AllReadyH.nil
     go_simp
     refine(refuse_no _ _).mono ?_
     rintro e w' ⟨rfl,rfl⟩
     refine hK _ _ (HS.out _ bv4) (fun hS=> ?_)
     try simp only[Act.put,List.setIfInBounds_toArray,List.set_cons_zero,List.set_cons_succ]
     refine wpAnyH_done (by kernel_rfl) ?_ _
     have hsD:=(h.below hb).below bv4
     have hlD:=hsD.lLot hok.i64
     rw[Hpn.out]at hlD
     obtain⟨hcD,hfD⟩:=blk_cells hsD.blk
     obtain⟨hcz,hfz⟩:=blk_cells (hsD.size Hpn.out HLn.out).1
     have hj10:(j:Int)≤10:=by omega
     have hT3:T≤100000000000:=by omega
     clear HS hS bd hsd fB fC hr hr2 hA hB hC hD
     go_wp2
     go_roundw
     case rel=>exact⟨j+1,T+Ln.size,by omega,by go_num,by rfl,Lib.hid (by
      rw[List.take_succ_eq_append_getElem (by simp;omega),sumI_app,←HT.out]
      simp only[List.getElem_map,Hn.out,Rt.sumI,FS.size,HLn.out,Int.add_zero]),by omega,by push_cast;omega,Lib.hid (fun m hm=>by
       rw[List.take_succ_eq_append_getElem hlt]at hm
       rcases List.mem_append.1 hm with hm|hm
       ·exact hal.out m hm
       ·rw[Hn.out]at hm
        simp at hm
        subst hm
        refine⟨?_,HG.out⟩
        unfold FS.parts
        rw[HLn.out,HLf.out]
        exact HP.out),hbw.trans (bv4.mono hbw.size)⟩
     case measure=>first|(simp[intOf];done)|(simp[intOf];omega)
    ·have HG:=Lib.hid hG
     obtain rfl:E=71:=HE1.out (fun ha=>hG (ha n (Hn.out▸List.getElem_mem hlt)).2)
     clear hG HE1 HE2 HE0
     go_wp2
     refine wp_region_held_drew (S:=fun V=>V.cell? ⟨sb,1,none⟩=some (.map (some bl))∧(Instr.lookup 128 (.map (some bl)) (.int .i64 n) false).run Tryz.prog V=.ok (.pointer (some ⟨zn,0,none⟩)) V∧
     (Instr.lookup 128 (.map (some bl)) (.int .i64 f) false).run Tryz.prog V=.ok (.pointer (some ⟨zf,0,none⟩)) V∧V.cell? ⟨zn,1,none⟩=some (.map (some bn))∧V.cell? ⟨zf,1,none⟩=some (.map (some bf))) (by kernel_rfl) (HS.out _ bd) (fun hHeld=> ?_)
     refine takeH 0 (some 38) (v:= ?v48) rfl rfl (by kernel_rfl) (by kernel_rfl) (by kernel_rfl) (fun _ _ _ h=>h) (Or.inl ⟨by rfl,fun W hW=> ?hy48⟩) (by assumption) ?hr48
     case hy48=>(try dsimp only at hW);go_simp;try with_reducible rfl
     try simp only[Act.put,List.setIfInBounds_toArray,List.set_cons_zero,List.set_cons_succ]
     refine takeH 1 (some 39) (v:= ?v49) rfl rfl (by kernel_rfl) (by kernel_rfl) (by kernel_rfl) (fun _ _ _ h=>h) (Or.inl ⟨by rfl,fun W hW=> ?hy49⟩) (by assumption) ?hr49
     case hy49=>(try dsimp only at hW);go_simp;try with_reducible rfl
     try simp only[Act.put,List.setIfInBounds_toArray,List.set_cons_zero,List.set_cons_succ]
     refine takeH 2 (some 40) (v:= ?v50) rfl rfl (by kernel_rfl) (by kernel_rfl) (by kernel_rfl) (fun _ _ _ h=>h) (Or.inl ⟨by rfl,fun W hW=> ?hy50⟩) (by assumption) ?hr50
     case hy50=>(try dsimp only at hW);go_simp;try with_reducible rfl
     try simp only[Act.put,List.setIfInBounds_toArray,List.set_cons_zero,List.set_cons_succ]
     refine takeH 3 (some 41) (v:= ?v51) rfl rfl (by kernel_rfl) (by kernel_rfl) (by kernel_rfl) (fun _ _ _ h=>h) (Or.inl ⟨by rfl,fun W hW=> ?hy51⟩) (by assumption) ?hr51
     case hy51=>(try dsimp only at hW);go_simp;try with_reducible rfl
     try simp only[Act.put,List.setIfInBounds_toArray,List.set_cons_zero,List.set_cons_succ]
     refine takeH 4 (some 42) (v:= ?v52) rfl rfl (by kernel_rfl) (by kernel_rfl) (by kernel_rfl) (fun _ _ _ h=>h) (Or.inl ⟨by rfl,fun W hW=> ?hy52⟩) (by assumption) ?hr52
     case hy52=>(try dsimp only at hW);go_simp;try with_reducible rfl
     try simp only[Act.put,List.setIfInBounds_toArray,List.set_cons_zero,List.set_cons_succ]
     refine takeH 5 (some 43) (v:= ?v53) rfl rfl (by kernel_rfl) (by kernel_rfl) (by kernel_rfl) (fun _ _ _ h=>h) (Or.inl ⟨by rfl,fun W hW=> ?hy53⟩) (by assumption) ?hr53
     case hy53=>(try dsimp only at hW);go_simp;try with_reducible rfl
     try simp only[Act.put,List.setIfInBounds_toArray,List.set_cons_zero,List.set_cons_succ]
     refine takeH 6 (some 44) (v:= ?v54) rfl rfl (by kernel_rfl) (by kernel_rfl) (by kernel_rfl) (fun _ _ _ h=>h) (Or.inl ⟨by rfl,fun W hW=> ?hy54⟩) (by assumption) ?hr54
     case hy54=>(try dsimp only at hW);go_simp;try with_reducible rfl
     try simp only[Act.put,List.setIfInBounds_toArray,List.set_cons_zero,List.set_cons_succ]
     refine takeH 7 (some 45) (v:= ?v55) rfl rfl (by kernel_rfl) (by kernel_rfl) (by kernel_rfl) (fun _ _ _ h=>h) (Or.inl ⟨by rfl,fun W hW=> ?hy55⟩) (by assumption) ?hr55
     case hy55=>(try dsimp only at hW);go_simp;try with_reducible rfl
     try simp only[Act.put,List.setIfInBounds_toArray,List.set_cons_zero,List.set_cons_succ]
     refine takeH 8 (some 46) (v:= ?v56) rfl rfl (by kernel_rfl) (by kernel_rfl) (by kernel_rfl) (fun _ _ _ h=>h) (Or.inl ⟨by rfl,fun W hW=> ?hy56⟩) (by assumption) ?hr56
     case hy56=>(try dsimp only at hW);go_simp;try with_reducible rfl
     try simp only[Act.put,List.setIfInBounds_toArray,List.set_cons_zero,List.set_cons_succ]
     refine takeH 9 (some 47) (v:= ?v57) rfl rfl (by kernel_rfl) (by kernel_rfl) (by kernel_rfl) (fun _ _ _ h=>h) (Or.inl ⟨by rfl,fun W hW=> ?hy57⟩) (by assumption) ?hr57
     case hy57=>(try dsimp only at hW);go_simp;try with_reducible rfl
     try simp only[Act.put,List.setIfInBounds_toArray,List.set_cons_zero,List.set_cons_succ]
     refine takeH 10 (some 48) (v:= ?v58) rfl rfl (by kernel_rfl) (by kernel_rfl) (by kernel_rfl) (fun _ _ _ h=>h) (Or.inl ⟨by rfl,fun W hW=> ?hy58⟩) (by assumption) ?hr58
     case hy58=>(try dsimp only at hW);go_simp;try with_reducible rfl
     try simp only[Act.put,List.setIfInBounds_toArray,List.set_cons_zero,List.set_cons_succ]
     refine takeH 11 (some 49) (v:= ?v59) rfl rfl (by kernel_rfl) (by kernel_rfl) (by kernel_rfl) (fun _ _ _ h=>h) (Or.inl ⟨by rfl,fun W hW=> ?hy59⟩) (by assumption) ?hr59
     case hy59=>(try dsimp only at hW);go_simp;try with_reducible rfl
     try simp only[Act.put,List.setIfInBounds_toArray,List.set_cons_zero,List.set_cons_succ]
     refine takeH 12 (some 50) (v:= ?v60) rfl rfl (by kernel_rfl) (by kernel_rfl) (by kernel_rfl) (fun _ _ _ h=>h) (Or.inl ⟨by rfl,fun W hW=> ?hy60⟩) (by assumption) ?hr60
     case hy60=>(try dsimp only at hW);go_simp;try with_reducible rfl
     try simp only[Act.put,List.setIfInBounds_toArray,List.set_cons_zero,List.set_cons_succ]
     refine takeH 13 (some 51) (v:= ?v61) rfl rfl (by kernel_rfl) (by kernel_rfl) (by kernel_rfl) (fun _ _ _ h=>h) (Or.inl ⟨by rfl,fun W hW=> ?hy61⟩) (by assumption) ?hr61
     case hy61=>(try dsimp only at hW);go_simp;try with_reducible rfl
     try simp only[Act.put,List.setIfInBounds_toArray,List.set_cons_zero,List.set_cons_succ]
     refine takeH 14 (some 52) (v:= ?v62) rfl rfl (by kernel_rfl) (by kernel_rfl) (by kernel_rfl) (fun _ _ _ h=>h) (Or.inl ⟨by rfl,fun W hW=> ?hy62⟩) (by assumption) ?hr62
     case hy62=>(try dsimp only at hW);go_simp;try with_reducible rfl
     try simp only[Act.put,List.setIfInBounds_toArray,List.set_cons_zero,List.set_cons_succ]
     refine takeH 15 (some 53) (v:= ?v63) rfl rfl (by kernel_rfl) (by kernel_rfl) (by kernel_rfl) (fun _ _ _ h=>h) (Or.inl ⟨by rfl,fun W hW=> ?hy63⟩) (by assumption) ?hr63
     case hy63=>(try dsimp only at hW);go_simp;try with_reducible rfl
     try simp only[Act.put,List.setIfInBounds_toArray,List.set_cons_zero,List.set_cons_succ]
     refine takeH 16 (some 54) (v:= ?v64) rfl rfl (by kernel_rfl) (by kernel_rfl) (by kernel_rfl) (fun _ _ _ h=>h) (Or.inl ⟨by rfl,fun W hW=> ?hy64⟩) (by assumption) ?hr64
     case hy64=>(try dsimp only at hW);go_simp;try with_reducible rfl
     try simp only[Act.put,List.setIfInBounds_toArray,List.set_cons_zero,List.set_cons_succ]
     refine takeH 17 (some 55) (v:= ?v65) rfl rfl (by kernel_rfl) (by kernel_rfl) (by kernel_rfl) (fun _ _ _ h=>h) (Or.inl ⟨by rfl,fun W hW=> ?hy65⟩) (by assumption) ?hr65
     case hy65=>(try dsimp only at hW);go_simp;try with_reducible rfl
     try simp only[Act.put,List.setIfInBounds_toArray,List.set_cons_zero,List.set_cons_succ]
     refine wpAnyH_ready (rs:=[18]) (by kernel_rfl) (by simp) ?_
     refine readyH (some 56) rfl rfl (fun K hK=> ?_) AllReadyH.nil
     go_simp
     refine c1.mono ?_
     clear c1
     rintro e wA ⟨r,rfl,hr,hA⟩
     obtain rfl:r=true:=hr.2 HP.out
     have bv1:Below wr.heap.size wr wA:=⟨hA.os,hA.tape,hA.output,hA.size,hA.block⟩
     have c2:=grazed_a ((h.below hb).below bv1) n
     refine hK _ _ (HS.out _ bv1) (fun hS=> ?_)
     try simp only[Act.put,List.setIfInBounds_toArray,List.set_cons_zero,List.set_cons_succ]
     refine takeH 19 (some 57) (v:= ?v66) rfl rfl (by kernel_rfl) (by kernel_rfl) (by kernel_rfl) (fun _ _ _ h=>h) (Or.inl ⟨by rfl,fun W hW=> ?hy66⟩) (by assumption) ?hr66
     case hy66=>(try dsimp only at hW);go_simp;try with_reducible rfl
     try simp only[Act.put,List.setIfInBounds_toArray,List.set_cons_zero,List.set_cons_succ]
     refine takeH 20 (some 58) (v:= ?v67) rfl rfl (by kernel_rfl) (by kernel_rfl) (by kernel_rfl) (fun _ _ _ h=>h) (Or.inl ⟨by rfl,fun W hW=> ?hy67⟩) (by assumption) ?hr67
     case hy67=>(try dsimp only at hW);go_simp;try with_reducible rfl
     try simp only[Act.put,List.setIfInBounds_toArray,List.set_cons_zero,List.set_cons_succ]
     refine takeH 21 (some 59) (v:= ?v68) rfl rfl (by kernel_rfl) (by kernel_rfl) (by kernel_rfl) (fun _ _ _ h=>h) (Or.inl ⟨by rfl,fun W hW=> ?hy68⟩) (by assumption) ?hr68
     case hy68=>(try dsimp only at hW);go_simp;try with_reducible rfl
     try simp only[Act.put,List.setIfInBounds_toArray,List.set_cons_zero,List.set_cons_succ]
     refine takeH 22 (some 60) (v:= ?v69) rfl rfl (by kernel_rfl) (by kernel_rfl) (by kernel_rfl) (fun _ _ _ h=>h) (Or.inl ⟨by rfl,fun W hW=> ?hy69⟩) (by assumption) ?hr69
     case hy69=>(try dsimp only at hW);go_simp;try with_reducible rfl
     try simp only[Act.put,List.setIfInBounds_toArray,List.set_cons_zero,List.set_cons_succ]
     refine takeH 24 (some 62) (v:= ?v70) rfl rfl (by kernel_rfl) (by kernel_rfl) (by kernel_rfl) (fun _ _ _ h=>h) (Or.inl ⟨by rfl,fun W hW=> ?hy70⟩) (by assumption) ?hr70
     case hy70=>(try dsimp only at hW);go_simp;try with_reducible rfl
     try simp only[Act.put,List.setIfInBounds_toArray,List.set_cons_zero,List.set_cons_succ]
     refine takeH 25 (some 63) (v:= ?v71) rfl rfl (by kernel_rfl) (by kernel_rfl) (by kernel_rfl) (fun _ _ _ h=>h) (Or.inl ⟨by rfl,fun W hW=> ?hy71⟩) (by assumption) ?hr71
     case hy71=>(try dsimp only at hW);go_simp;try with_reducible rfl
     try simp only[Act.put,List.setIfInBounds_toArray,List.set_cons_zero,List.set_cons_succ]
     refine wpAnyH_ready (rs:=[23]) (by kernel_rfl) (by simp) ?_
     refine readyH (some 61) rfl rfl (fun K hK=> ?_) AllReadyH.nil
     go_simp
     refine c2.mono ?_
     clear c2
     rintro e wB ⟨rfl,fB,hB⟩
     have bv2:Below wr.heap.size wr wB:=bv1.trans (hB.mono bv1.size)
     have c3:=grazed_a ((h.below hb).below bv2) f
     refine hK _ _ (HS.out _ bv2) (fun hS=> ?_)
     try simp only[Act.put,List.setIfInBounds_toArray,List.set_cons_zero,List.set_cons_succ]
     refine wpAnyH_ready (rs:=[26]) (by kernel_rfl) (by simp) ?_
     refine readyH (some 64) rfl rfl (fun K hK=> ?_) AllReadyH.nil
     go_simp
     refine c3.mono ?_
     clear c3
     rintro e wC ⟨rfl,fC,hC⟩
     have bv3:Below wr.heap.size wr wC:=bv2.trans (hC.mono bv2.size)
     have c4:=equal_a (fB.same (hC.block _ fB.lt)) fC
     refine hK _ _ (HS.out _ bv3) (fun hS=> ?_)
     try simp only[Act.put,List.setIfInBounds_toArray,List.set_cons_zero,List.set_cons_succ]
     refine wpAnyH_ready (rs:=[27]) (by kernel_rfl) (by simp) ?_
     refine readyH (some 65) rfl rfl (fun K hK=> ?_) AllReadyH.nil
     go_simp
     refine c4.mono ?_
     clear c4
     rintro e wD ⟨r2,rfl,hr2,hD⟩
     obtain rfl:r2=false:=(by cases r2;rfl;exact absurd (hr2.1 rfl) HG.out)
     have bv4:Below wr.heap.size wr wD:=bv3.trans (hD.mono bv3.size)
     refine hK _ _ (HS.out _ bv4) (fun hS=> ?_)
     try simp only[Act.put,List.setIfInBounds_toArray,List.set_cons_zero,List.set_cons_succ]
     refine takeH 28 (some 66) (v:= ?v72) rfl rfl (by kernel_rfl) (by kernel_rfl) (by kernel_rfl) (fun _ _ _ h=>h) (Or.inl ⟨by rfl,fun W hW=> ?hy72⟩) (by assumption) ?hr72
     case hy72=>(try dsimp only at hW);go_simp;try with_reducible rfl
     try simp only[Act.put,List.setIfInBounds_toArray,List.set_cons_zero,List.set_cons_succ]
     refine takeH 29 (some 67) (v:= ?v73) rfl rfl (by kernel_rfl) (by kernel_rfl) (by kernel_rfl) (fun _ _ _ h=>h) (Or.inl ⟨by rfl,fun W hW=> ?hy73⟩) (by assumption) ?hr73
     case hy73=>(try dsimp only at hW);go_simp;try with_reducible rfl
     try simp only[Act.put,List.setIfInBounds_toArray,List.set_cons_zero,List.set_cons_succ]
     refine wpAnyH_ready (rs:=[30]) (by kernel_rfl) (by simp) ?_
     refine readyH (some 68) rfl rfl (fun K hK=> ?_) AllReadyH.nil
     go_simp
     refine(refuse_yes _ _).mono ?_
     rintro e w' ⟨rfl,hq⟩
     exact⟨rfl,EndK.no (by decide) rfl ((hb.trans (bv4.mono hb.size)).trans (hq.mono (by have:=hb.size;have:=bv4.size;omega)))⟩
   ·have HP:=Lib.hid hP
    obtain rfl:E=71:=HE1.out (fun ha=>hP (by
     have:=(ha n (Hn.out▸List.getElem_mem hlt)).1
     unfold FS.parts at this
     rw[HLn.out,HLf.out]at this
     exact this))
    clear hP HE1 HE2 HE0
    go_wp2
    refine wp_region_held_drew (S:=fun V=>V.cell? ⟨sb,1,none⟩=some (.map (some bl))∧(Instr.lookup 128 (.map (some bl)) (.int .i64 n) false).run Tryz.prog V=.ok (.pointer (some ⟨zn,0,none⟩)) V∧
     (Instr.lookup 128 (.map (some bl)) (.int .i64 f) false).run Tryz.prog V=.ok (.pointer (some ⟨zf,0,none⟩)) V∧V.cell? ⟨zn,1,none⟩=some (.map (some bn))∧V.cell? ⟨zf,1,none⟩=some (.map (some bf))) (by kernel_rfl) (HS.out _ bd) (fun hHeld=> ?_)
    refine takeH 0 (some 38) (v:= ?v1) rfl rfl (by kernel_rfl) (by kernel_rfl) (by kernel_rfl) (fun _ _ _ h=>h) (Or.inl ⟨by rfl,fun W hW=> ?hy1⟩) (by assumption) ?hr1
    case hy1=>(try dsimp only at hW);go_simp;try with_reducible rfl
    try simp only[Act.put,List.setIfInBounds_toArray,List.set_cons_zero,List.set_cons_succ]
    refine takeH 1 (some 39) (v:= ?v2) rfl rfl (by kernel_rfl) (by kernel_rfl) (by kernel_rfl) (fun _ _ _ h=>h) (Or.inl ⟨by rfl,fun W hW=> ?hy2⟩) (by assumption) ?hr2
    case hy2=>(try dsimp only at hW);go_simp;try with_reducible rfl
    try simp only[Act.put,List.setIfInBounds_toArray,List.set_cons_zero,List.set_cons_succ]
    refine takeH 2 (some 40) (v:= ?v3) rfl rfl (by kernel_rfl) (by kernel_rfl) (by kernel_rfl) (fun _ _ _ h=>h) (Or.inl ⟨by rfl,fun W hW=> ?hy3⟩) (by assumption) ?hr3
    case hy3=>(try dsimp only at hW);go_simp;try with_reducible rfl
    try simp only[Act.put,List.setIfInBounds_toArray,List.set_cons_zero,List.set_cons_succ]
    refine takeH 3 (some 41) (v:= ?v4) rfl rfl (by kernel_rfl) (by kernel_rfl) (by kernel_rfl) (fun _ _ _ h=>h) (Or.inl ⟨by rfl,fun W hW=> ?hy4⟩) (by assumption) ?hr4
    case hy4=>(try dsimp only at hW);go_simp;try with_reducible rfl
    try simp only[Act.put,List.setIfInBounds_toArray,List.set_cons_zero,List.set_cons_succ]
    refine takeH 4 (some 42) (v:= ?v5) rfl rfl (by kernel_rfl) (by kernel_rfl) (by kernel_rfl) (fun _ _ _ h=>h) (Or.inl ⟨by rfl,fun W hW=> ?hy5⟩) (by assumption) ?hr5
    case hy5=>(try dsimp only at hW);go_simp;try with_reducible rfl
    try simp only[Act.put,List.setIfInBounds_toArray,List.set_cons_zero,List.set_cons_succ]
    refine takeH 5 (some 43) (v:= ?v6) rfl rfl (by kernel_rfl) (by kernel_rfl) (by kernel_rfl) (fun _ _ _ h=>h) (Or.inl ⟨by rfl,fun W hW=> ?hy6⟩) (by assumption) ?hr6
    case hy6=>(try dsimp only at hW);go_simp;try with_reducible rfl
    try simp only[Act.put,List.setIfInBounds_toArray,List.set_cons_zero,List.set_cons_succ]
    refine takeH 6 (some 44) (v:= ?v7) rfl rfl (by kernel_rfl) (by kernel_rfl) (by kernel_rfl) (fun _ _ _ h=>h) (Or.inl ⟨by rfl,fun W hW=> ?hy7⟩) (by assumption) ?hr7
    case hy7=>(try dsimp only at hW);go_simp;try with_reducible rfl
    try simp only[Act.put,List.setIfInBounds_toArray,List.set_cons_zero,List.set_cons_succ]
    refine takeH 7 (some 45) (v:= ?v8) rfl rfl (by kernel_rfl) (by kernel_rfl) (by kernel_rfl) (fun _ _ _ h=>h) (Or.inl ⟨by rfl,fun W hW=> ?hy8⟩) (by assumption) ?hr8
    case hy8=>(try dsimp only at hW);go_simp;try with_reducible rfl
    try simp only[Act.put,List.setIfInBounds_toArray,List.set_cons_zero,List.set_cons_succ]
    refine takeH 8 (some 46) (v:= ?v9) rfl rfl (by kernel_rfl) (by kernel_rfl) (by kernel_rfl) (fun _ _ _ h=>h) (Or.inl ⟨by rfl,fun W hW=> ?hy9⟩) (by assumption) ?hr9
    case hy9=>(try dsimp only at hW);go_simp;try with_reducible rfl
    try simp only[Act.put,List.setIfInBounds_toArray,List.set_cons_zero,List.set_cons_succ]
    refine takeH 9 (some 47) (v:= ?v10) rfl rfl (by kernel_rfl) (by kernel_rfl) (by kernel_rfl) (fun _ _ _ h=>h) (Or.inl ⟨by rfl,fun W hW=> ?hy10⟩) (by assumption) ?hr10
    case hy10=>(try dsimp only at hW);go_simp;try with_reducible rfl
    try simp only[Act.put,List.setIfInBounds_toArray,List.set_cons_zero,List.set_cons_succ]
    refine takeH 10 (some 48) (v:= ?v11) rfl rfl (by kernel_rfl) (by kernel_rfl) (by kernel_rfl) (fun _ _ _ h=>h) (Or.inl ⟨by rfl,fun W hW=> ?hy11⟩) (by assumption) ?hr11
    case hy11=>(try dsimp only at hW);go_simp;try with_reducible rfl
    try simp only[Act.put,List.setIfInBounds_toArray,List.set_cons_zero,List.set_cons_succ]
    refine takeH 11 (some 49) (v:= ?v12) rfl rfl (by kernel_rfl) (by kernel_rfl) (by kernel_rfl) (fun _ _ _ h=>h) (Or.inl ⟨by rfl,fun W hW=> ?hy12⟩) (by assumption) ?hr12
    case hy12=>(try dsimp only at hW);go_simp;try with_reducible rfl
    try simp only[Act.put,List.setIfInBounds_toArray,List.set_cons_zero,List.set_cons_succ]
    refine takeH 12 (some 50) (v:= ?v13) rfl rfl (by kernel_rfl) (by kernel_rfl) (by kernel_rfl) (fun _ _ _ h=>h) (Or.inl ⟨by rfl,fun W hW=> ?hy13⟩) (by assumption) ?hr13
    case hy13=>(try dsimp only at hW);go_simp;try with_reducible rfl
    try simp only[Act.put,List.setIfInBounds_toArray,List.set_cons_zero,List.set_cons_succ]
    refine takeH 13 (some 51) (v:= ?v14) rfl rfl (by kernel_rfl) (by kernel_rfl) (by kernel_rfl) (fun _ _ _ h=>h) (Or.inl ⟨by rfl,fun W hW=> ?hy14⟩) (by assumption) ?hr14
    case hy14=>(try dsimp only at hW);go_simp;try with_reducible rfl
    try simp only[Act.put,List.setIfInBounds_toArray,List.set_cons_zero,List.set_cons_succ]
    refine takeH 14 (some 52) (v:= ?v15) rfl rfl (by kernel_rfl) (by kernel_rfl) (by kernel_rfl) (fun _ _ _ h=>h) (Or.inl ⟨by rfl,fun W hW=> ?hy15⟩) (by assumption) ?hr15
    case hy15=>(try dsimp only at hW);go_simp;try with_reducible rfl
    try simp only[Act.put,List.setIfInBounds_toArray,List.set_cons_zero,List.set_cons_succ]
    refine takeH 15 (some 53) (v:= ?v16) rfl rfl (by kernel_rfl) (by kernel_rfl) (by kernel_rfl) (fun _ _ _ h=>h) (Or.inl ⟨by rfl,fun W hW=> ?hy16⟩) (by assumption) ?hr16
    case hy16=>(try dsimp only at hW);go_simp;try with_reducible rfl
    try simp only[Act.put,List.setIfInBounds_toArray,List.set_cons_zero,List.set_cons_succ]
    refine takeH 16 (some 54) (v:= ?v17) rfl rfl (by kernel_rfl) (by kernel_rfl) (by kernel_rfl) (fun _ _ _ h=>h) (Or.inl ⟨by rfl,fun W hW=> ?hy17⟩) (by assumption) ?hr17
    case hy17=>(try dsimp only at hW);go_simp;try with_reducible rfl
    try simp only[Act.put,List.setIfInBounds_toArray,List.set_cons_zero,List.set_cons_succ]
    refine takeH 17 (some 55) (v:= ?v18) rfl rfl (by kernel_rfl) (by kernel_rfl) (by kernel_rfl) (fun _ _ _ h=>h) (Or.inl ⟨by rfl,fun W hW=> ?hy18⟩) (by assumption) ?hr18
    case hy18=>(try dsimp only at hW);go_simp;try with_reducible rfl
    try simp only[Act.put,List.setIfInBounds_toArray,List.set_cons_zero,List.set_cons_succ]
    refine wpAnyH_ready (rs:=[18]) (by kernel_rfl) (by simp) ?_
    refine readyH (some 56) rfl rfl (fun K hK=> ?_) AllReadyH.nil
    go_simp
    refine c1.mono ?_
    rintro e wA ⟨r,rfl,hr,hA⟩
    obtain rfl:r=false:=by cases r;rfl;exact absurd (hr.1 rfl) HP.out
    have bv:Below wr.heap.size wr wA:=⟨hA.os,hA.tape,hA.output,hA.size,hA.block⟩
    refine hK _ _ (HS.out _ bv) (fun hS=> ?_)
    try simp only[Act.put,List.setIfInBounds_toArray,List.set_cons_zero,List.set_cons_succ]
    refine takeH 19 (some 57) (v:= ?v19) rfl rfl (by kernel_rfl) (by kernel_rfl) (by kernel_rfl) (fun _ _ _ h=>h) (Or.inl ⟨by rfl,fun W hW=> ?hy19⟩) (by assumption) ?hr19
    case hy19=>(try dsimp only at hW);go_simp;try with_reducible rfl
    try simp only[Act.put,List.setIfInBounds_toArray,List.set_cons_zero,List.set_cons_succ]
    refine takeH 20 (some 58) (v:= ?v20) rfl rfl (by kernel_rfl) (by kernel_rfl) (by kernel_rfl) (fun _ _ _ h=>h) (Or.inl ⟨by rfl,fun W hW=> ?hy20⟩) (by assumption) ?hr20
    case hy20=>(try dsimp only at hW);go_simp;try with_reducible rfl
    try simp only[Act.put,List.setIfInBounds_toArray,List.set_cons_zero,List.set_cons_succ]
    refine takeH 21 (some 59) (v:=undef) rfl rfl (by kernel_rfl) (by kernel_rfl) (by kernel_rfl) (fun _ _ _ h=>h) (Or.inr ⟨by rfl,rfl⟩) (by assumption) ?_
    try simp only[Act.put,List.setIfInBounds_toArray,List.set_cons_zero,List.set_cons_succ]
    refine takeH 22 (some 60) (v:=undef) rfl rfl (by kernel_rfl) (by kernel_rfl) (by kernel_rfl) (fun _ _ _ h=>h) (Or.inr ⟨by rfl,rfl⟩) (by assumption) ?_
    try simp only[Act.put,List.setIfInBounds_toArray,List.set_cons_zero,List.set_cons_succ]
    refine takeH 23 (some 61) (v:=undef) rfl rfl (by kernel_rfl) (by kernel_rfl) (by kernel_rfl) (fun _ _ _ h=>h) (Or.inr ⟨by rfl,rfl⟩) (by assumption) ?_
    try simp only[Act.put,List.setIfInBounds_toArray,List.set_cons_zero,List.set_cons_succ]
    refine takeH 24 (some 62) (v:=undef) rfl rfl (by kernel_rfl) (by kernel_rfl) (by kernel_rfl) (fun _ _ _ h=>h) (Or.inr ⟨by rfl,rfl⟩) (by assumption) ?_
    try simp only[Act.put,List.setIfInBounds_toArray,List.set_cons_zero,List.set_cons_succ]
    refine takeH 25 (some 63) (v:=undef) rfl rfl (by kernel_rfl) (by kernel_rfl) (by kernel_rfl) (fun _ _ _ h=>h) (Or.inr ⟨by rfl,rfl⟩) (by assumption) ?_
    try simp only[Act.put,List.setIfInBounds_toArray,List.set_cons_zero,List.set_cons_succ]
    refine takeH 26 (some 64) (v:=undef) rfl rfl (by kernel_rfl) (by kernel_rfl) (by kernel_rfl) (fun _ _ _ h=>h) (Or.inr ⟨by rfl,rfl⟩) (by assumption) ?_
    try simp only[Act.put,List.setIfInBounds_toArray,List.set_cons_zero,List.set_cons_succ]
    refine takeH 27 (some 65) (v:=undef) rfl rfl (by kernel_rfl) (by kernel_rfl) (by kernel_rfl) (fun _ _ _ h=>h) (Or.inr ⟨by rfl,rfl⟩) (by assumption) ?_
    try simp only[Act.put,List.setIfInBounds_toArray,List.set_cons_zero,List.set_cons_succ]
    refine takeH 28 (some 66) (v:=undef) rfl rfl (by kernel_rfl) (by kernel_rfl) (by kernel_rfl) (fun _ _ _ h=>h) (Or.inr ⟨by rfl,rfl⟩) (by assumption) ?_
    try simp only[Act.put,List.setIfInBounds_toArray,List.set_cons_zero,List.set_cons_succ]
    refine takeH 29 (some 67) (v:= ?v21) rfl rfl (by kernel_rfl) (by kernel_rfl) (by kernel_rfl) (fun _ _ _ h=>h) (Or.inl ⟨by rfl,fun W hW=> ?hy21⟩) (by assumption) ?hr21
    case hy21=>(try dsimp only at hW);go_simp;try with_reducible rfl
    try simp only[Act.put,List.setIfInBounds_toArray,List.set_cons_zero,List.set_cons_succ]
    refine wpAnyH_ready (rs:=[30]) (by kernel_rfl) (by simp) ?_
    refine readyH (some 68) rfl rfl (fun K hK=> ?_) AllReadyH.nil
    go_simp
    refine(refuse_yes _ _).mono ?_
    rintro e w' ⟨rfl,hq⟩
    exact⟨rfl,EndK.no (by decide) rfl ((hb.trans (bv.mono hb.size)).trans (hq.mono (by have:=hb.size;have:=bv.size;omega)))⟩
  ·obtain rfl:j=x.into.length:=by omega
   rw[List.take_of_length_le (by simp)]at HT
   rw[List.take_of_length_le (Nat.le_refl _)]at hal
   have hj10:(x.into.length:Int)≤10:=by omega
   have hT3:T≤100000000000:=by omega
   obtain⟨zf,bf⟩:=pf
   obtain⟨w5,rfl⟩: ∃w5:World,w5=wr:=⟨_,rfl⟩
   by_cases hgt:10000000000<T
   ·obtain rfl:E=71:=HE2.out (by rw[←HT.out];exact hgt)
    have hq:=decide_eq_true hgt
    clear HE1 HE2 HE0
    go_wp2_with (go_at_call 290;refine(refuse_yes _ _).mono ?_;rintro e w' ⟨rfl,hq⟩)
    exact⟨rfl,EndK.no (by decide) rfl (hb.trans (hq.mono hb.size))⟩
   ·obtain rfl:E=0:=HE0.out hal.out (by rw[←HT.out];omega)
    have hq:=decide_eq_false hgt
    have hle:T≤10000000000:=by omega
    clear HE1 HE2 HE0 hgt hT2 hT3
    obtain⟨W,hW⟩: ∃W:World,W=w5.drew:=⟨_,rfl⟩
    have bW:Below w.heap.size w W:=by rw[hW];exact below_drew hb
    have HW:=Lib.hid hW
    clear hW
    have kxW:W.heap[w.heap.size]?=some (oDl x (some ⟨b0i,o0i,none⟩) A2 c1 c2):=by rw[HW.out];exact(hbw.block _ hz2).trans kx2
    have kx5:=(hbw.block _ hz2).trans kx2
    have hsW:=h.below bW
    have hlW:=hsW.lLot (Hi.out f (Hf.out▸List.getElem_mem (by omega))).i64
    rw[Hpf.out]at hlW
    obtain⟨hcW,hfW⟩:=blk_cells hsW.blk
    obtain⟨hcx,hfx⟩:=blk_cells kxW
    obtain⟨kzf,fmf⟩:=hsW.size Hpf.out HLf.out
    obtain⟨hczf,hfzf⟩:=blk_cells kzf
    have hzW:=(Array.getElem?_eq_some_iff.1 kxW).1
    have hpu:=put_a hsW (z:=T) h1 fmf (by have:=(h.lotlt Hpf.out).2.2.1;simp only at this;omega)
    go_wp2_with (go_at_call 290;refine(refuse_no _ _).mono ?_;rintro e w' ⟨rfl,rfl⟩)
    refine still_tail HW.out 13 (by kernel_rfl) (by kernel_rfl) ?_
    simp only[List.take_succ_cons,List.take_zero,List.drop_succ_cons,List.drop_zero]
    repeat still_step
    refine wpStill_nil ?_
    go_wp2_with fail
    refine hpu.mono ?_
    clear hpu
    rintro e w6 ⟨rfl,ad2,hs6,b6,hne6,hkp6,hnb6⟩
    have hWz:=bW.size
    have HADR:=Lib.hid (show ∀m q,ad2 m=some q→(∃l,ad l=some q)∨w.heap.size≤q.1∧w.heap.size≤q.2 from fun m q hq=>by
     by_cases e:m=x.lot
     ·subst e
      have:=hnb6 q hq
      exact .inr ⟨by omega,by omega⟩
     ·rw[hne6 m e]at hq
      exact .inl ⟨m,hq⟩)
    have kx6:=(hkp6 _ hzW (by omega)).trans kxW
    have bb6:Fr B sb ad w w6:=(Fr.of bW (Nat.le_refl _) (by omega)).put b6 hkp6
    have hz6:w.heap.size<w6.heap.size:=(Array.getElem?_eq_some_iff.1 kx6).1
    have HAD:Hid (∀m,m≠x.lot→ad2 m=ad m):=Lib.hid hne6
    obtain⟨FP,hFP⟩: ∃FP,F.put x.lot T Lf.parts=FP:=⟨_,rfl⟩
    rw[hFP]at hs6
    have HFP:=Lib.hid hFP
    have HST:=Lib.hid (show FP.stints=F.stints by rw[←hFP];rfl)
    have HEA:=Lib.hid (show FP.eases=F.eases by rw[←hFP];rfl)
    clear hFP hne6 hkp6 hcW hfW hcx hfx hczf hfzf hlW kzf fmf hsW
    obtain⟨hcs,hfs⟩:=blk_cells hs6.blk
    have hclone:=clone_g hs6.stints
    have hsz6:=hs6.lt
    have HLT:=Lib.hid (show ∀n p,ad2 n=some p→p.1<w6.heap.size∧p.2<w6.heap.size from fun n p hq=>by have:=hs6.lotlt hq;omega)
    go_wp2_with fail
    refine hclone.mono ?_
    clear hclone
    rintro e w7 ⟨rfl,fm7,b7,z7⟩
    go_wp2_with (first
     |(at_range;refine wpList_range_fm _ rfl _ _ rfl kP Tryz.underlying130 rfl fm7 ?_;intro w8 n8 hrg8 hg8 hs8)
     |go_in)
    go_frame
    have b68:Below w6.heap.size w6 w8:=(b7.trans ⟨hg8.os,hg8.tape,hg8.output,hg8.size,fun i hi=>hg8.block i (by omega) (by simp)⟩)
    have hsP:=hs6.below b68
    have kx8:=(b68.block _ hz6).trans kx6
    have bb8:Fr B sb ad w w8:=bb6.next b68 (by omega) (by omega)
    have hclr:w6.heap.size<w7.heap.size:=by omega
    clear hcs hfs fm7 z7 hs8 hs6
    go_loopw [104] (fun _ wr=> ∃(D:List ((Int×Int)×(Int×Int))) (left:Int×Int→Bool) (n:Nat),Seen FP.stints D left∧RG ekP okP wr w6.heap.size w7.heap.size (fG FP.stints) left n∧SM wr B sb bu bl be bs ad2 {FP with stints:=D.foldl (mgS f x.lot) FP.stints}∧wr.heap[w.heap.size]?=some (oDl x (some ⟨b0i,o0i,none⟩) A2 c1 c2)∧Fr B sb ad w wr)
     (fun _ wr=>wr.rangeLeft w6.heap.size w7.heap.size)
    case atStart=>exact⟨[],_,n8,Seen.start _,by simpa [fG]using hrg8,hsP,kx8,bb8⟩
    case round=>
     obtain⟨D,left,n,hsn,hrg,hs9,kx9,b9⟩:=hrel
     have HSN:=Lib.hid hsn
     clear hsn
     have hl9:w.heap.size<wr.heap.size:=(Array.getElem?_eq_some_iff.1 kx9).1
     have hcl9:=hrg.fm.lt
     have hrl9:=hrg.lt
     go_wp2_with (first
      |(at_next;refine wpList_next_rg _ rfl _ rfl kP evG FP.stints (fun _=>rfl) _ _ rfl hrg ?_ ?_)
      |go_in)
     ·intro hl0
      have HVI:=Lib.hid (HSN.out.done hl0)
      clear hl0 hcl9 hrl9 hrg
      obtain⟨S,hS⟩: ∃S,D.foldl (mgS f x.lot) FP.stints=S:=⟨_,rfl⟩
      rw[hS]at hs9
      have HS2:=Lib.hid hS
      clear hS
      obtain⟨v5,rfl⟩: ∃v5:World,v5=wr:=⟨_,rfl⟩
      obtain⟨hcs,hfs⟩:=blk_cells hs9.blk
      have hclone:=clone_p hs9.eases
      have HLT2:=Lib.hid (show ∀n p,ad2 n=some p→p.1<v5.heap.size∧p.2<v5.heap.size from fun n p hq=>by have:=hs9.lotlt hq;omega)
      go_wp2_with fail
      refine hclone.mono ?_
      clear hclone
      rintro e v6 ⟨rfl,fm6,b6',z6'⟩
      go_wp2_with (first
       |(at_range;refine wpList_range_fm _ rfl _ _ rfl kP Tryz.underlying129 rfl fm6 ?_;intro v7 n7' hrg7' hg7' hs7')
       |go_in)
      go_frame
      have b56':Below v5.heap.size v5 v7:=(b6'.trans ⟨hg7'.os,hg7'.tape,hg7'.output,hg7'.size,fun i hi=>hg7'.block i (by omega) (by simp)⟩)
      have hs10:=hs9.below b56'
      have kx10:=(b56'.block _ hl9).trans kx9
      have b10:Fr B sb ad w v7:=b9.next b56' (by omega) (by omega)
      have hclr':v5.heap.size<v6.heap.size:=by omega
      have hlv5:w.heap.size<v5.heap.size:=hl9
      clear hcs hfs fm6 z6' hs7' hs9 kx9 b9 hl9
      go_loopw [129] (fun _ wr=> ∃(D2:List ((Int×Int)×Int)) (left:Int×Int→Bool) (n:Nat),Seen FP.eases D2 left∧RG ekP okP wr v5.heap.size v6.heap.size (fI FP.eases) left n∧SM wr B sb bu bl be bs ad2 {FP with stints:=S,eases:=D2.foldl (mgE x.into x.lot) FP.eases}∧wr.heap[w.heap.size]?=some (oDl x (some ⟨b0i,o0i,none⟩) A2 c1 c2)∧Fr B sb ad w wr)
       (fun _ wr=>wr.rangeLeft v5.heap.size v6.heap.size)
      case atStart=>exact⟨[],_,n7',Seen.start _,by simpa [fI]using hrg7',hs10,kx10,b10⟩
      case round=>
       obtain⟨D2,left2,n2,hsn2,hrg2,hs11,kx11,b11⟩:=hrel
       have HSM:=Lib.hid hsn2
       clear hsn2
       have hl11:w.heap.size<wr.heap.size:=(Array.getElem?_eq_some_iff.1 kx11).1
       have hcl11:=hrg2.fm.lt
       have hrl11:=hrg2.lt
       go_wp2_with (first
        |(at_next;refine wpList_next_rg _ rfl _ rfl kP evI FP.eases (fun _=>rfl) _ _ rfl hrg2 ?_ ?_)
        |go_in)
       ·intro hl0
        have HV2:=Lib.hid (HSM.out.done hl0)
        clear hl0 hcl11 hrl11 hrg2
        obtain⟨F3,hF3⟩: ∃F3:FS,{FP with stints:=S,eases:=D2.foldl (mgE x.into x.lot) FP.eases}=F3:=⟨_,rfl⟩
        rw[hF3]at hs11
        have HF3:=Lib.hid hF3
        clear hF3
        obtain⟨u5,rfl⟩: ∃u5:World,u5=wr:=⟨_,rfl⟩
        obtain⟨hcx11,hfx11⟩:=blk_cells kx11
        go_wp2
        go_loopw [179] (fun i wr=> ∃(j:Nat) (ad3:Int→Option (Nat×Nat)),j≤x.into.length∧i=.int .i64 j∧SM wr B sb bu bl be bs ad3 ((x.into.take j).foldl FS.gone F3)∧Hid (∀m,m∉x.into.take j→ad3 m=ad2 m)∧Hid (∀m q,ad3 m=some q→(∃l,ad l=some q)∨w.heap.size≤q.1∧w.heap.size≤q.2)∧Fr B sb ad w wr)
         (fun i _=>x.into.length-(intOf i).toNat)
        case atStart=>exact⟨0,ad2,by omega,rfl,hs11,Lib.hid fun _ _=>rfl,HADR,b11⟩
        case round=>
         obtain⟨j,ad3,hj,rfl,hs12,had,hadr,b12⟩:=hrel
         by_cases hlt:j<x.into.length
         ·obtain⟨bi,oi,ei,hbi,q1⟩:=Ints.at1 (hA1.below b12.bel) hlt
          obtain⟨n,hn⟩: ∃n,x.into[j]=n:=⟨_,rfl⟩
          rw[hn]at q1
          have Hn:=Lib.hid hn
          have hnm:n∈x.into:=hn▸List.getElem_mem hlt
          obtain⟨pn,Ln,hpn,_⟩:=HALL.out n hnm
          have hp3:ad3 n=some pn:=by
           rw[had.out n (fun hm=> ?_),HAD.out n (HLot.out n hnm),hpn]
           obtain⟨i,hi,e⟩:=List.getElem_of_mem hm
           rw[List.getElem_take,←hn]at e
           have hi2:i<j:=by simp at hi;omega
           exact absurd ((List.getElem_inj HND.out).1 e) (by omega)
          have hgo:=gone_a hs12 (Hi.out n hnm).i64 hp3
          cases ei
          have HTF:=Lib.hid (take_fold FS.gone F3 hlt)
          clear hn hnm hpn hp3
          go_wp2_with fail
          refine hgo.mono ?_
          clear hgo
          rintro e w13 ⟨rfl,hs13,b13⟩
          go_wp2
          go_roundw
          case rel=>exact⟨j+1,_,by omega,by go_num,by rw[HTF.out,Hn.out];exact hs13,Lib.hid (fun m hm=>by
           rw[List.take_succ_eq_append_getElem hlt,Hn.out]at hm
           simp only[List.mem_append,List.mem_singleton,not_or]at hm
           rw[if_neg hm.2]
           exact had.out m hm.1),Lib.hid (fun m q hq=>by
           by_cases e:m=n
           ·rw[if_pos e]at hq
            cases hq
           ·rw[if_neg e]at hq
            exact hadr.out m q hq),b12.comp b13 hadr.out⟩
          case measure=>first|(simp[intOf];done)|(simp[intOf];omega)
         ·obtain rfl:j=x.into.length:=by omega
          rw[List.take_of_length_le (Nat.le_refl _)]at hs12
          go_wp2
          go_end0
          have e:x.into.foldl FS.gone F3=F':=by
           rw[HST.out]at HVI HS2
           rw[HEA.out]at HV2 HF3
           rw[HF'.out D D2 HVI.out HV2.out,←HF3.out,←HT.out,HS2.out,←HFP.out]
           unfold FS.parts
           rw[HLf.out]
          rw[e]at hs12
          exact EndK.ok rfl hs12 b12 hadr.out
       ·intro k d w10 n10 hk hlx hv hrg10 hlt10 hg10 hs10 hen
        have HSN2:=Lib.hid (HSM.out.step hv hlx)
        have kx10:=(hg10.block _ hl11 (by simp;omega)).trans kx11
        have b10:Fr B sb ad w w10:=b11.grow hg10 ⟨by omega,by omega⟩ (.inr (.inl (by omega)))
        have hs10':=hs11.kept hg10 (by omega) (fun n p hq=>by have:=HLT2.out n p hq;omega)
        obtain⟨W9,hW9⟩: ∃W:World,W=(w10.alloc (.cells #[.int .i64 k.1,.int .i64 k.2] 163)):=⟨_,rfl⟩
        have bA:Below w10.heap.size w10 W9:=by rw[hW9];exact(Below.refl _ _).alloc (Nat.le_refl _) _
        have kk:W9.heap[wr.heap.size]?=some (.cells #[.int .i64 k.1,.int .i64 k.2] 163 (0,0)):=by rw[hW9];exact heap_at hs10
        obtain⟨W10,hW10⟩: ∃W:World,W=W9.drew:=⟨_,rfl⟩
        have hsD:=(hs10'.below bA).drew
        rw[←hW10]at hsD
        have hrgD:RG ekP okP W10 v5.heap.size v6.heap.size (fI FP.eases) (fun q=>left2 q&& !decide (q=k)) n10:=by rw[hW10];exact hrg10.same (w':=W9) (bA.block _ hrg10.fm.lt) (bA.block _ hrg10.lt)
        have kxD:W10.heap[w.heap.size]?=some (oDl x (some ⟨b0i,o0i,none⟩) A2 c1 c2):=by rw[hW10];exact(bA.block _ (by omega)).trans kx10
        have kkD:W10.heap[wr.heap.size]?=some (.cells #[.int .i64 k.1,.int .i64 k.2] 163 (0,0)):=by rw[hW10];exact kk
        have bD:Fr B sb ad w W10:=by rw[hW10];exact(b10.next bA (by omega) (by omega)).drew
        have HW10:=Lib.hid hW10
        have HW9:=Lib.hid hW9.symm
        have HRG:=Lib.hid hrg2
        have zk:=(Array.getElem?_eq_some_iff.1 kkD).1
        have ct1:=hasI_a (some ⟨b0i,o0i,none⟩) c1 x.into k.1 W10 ((hA1.below bD.bel).more (by omega)) (by omega)
        have ct2:=hasI_a (some ⟨b0i,o0i,none⟩) c1 x.into k.2 W10 ((hA1.below bD.bel).more (by omega)) (by omega)
        obtain⟨hcxD,hfxD⟩:=blk_cells kxD
        obtain⟨hckD,hfkD⟩:=blk_cells kkD
        obtain⟨o1,ho1⟩: ∃o1,x.into.contains k.1=o1:=⟨_,rfl⟩
        obtain⟨o2,ho2⟩: ∃o2,x.into.contains k.2=o2:=⟨_,rfl⟩
        rw[ho1]at ct1
        rw[ho2]at ct2
        have HO1:=Lib.hid ho1
        have HO2:=Lib.hid ho2
        clear hv hlx hW9 hW10 ho1 ho2 hs11 hs10' kx11 kx10 hrg2 hrg10 kk
        obtain⟨wo,rfl⟩: ∃wo:World,wo=wr:=⟨_,rfl⟩
        go_wp2
        rw[HW9.out]
        refine still_all HW10.out (by kernel_rfl) (by kernel_rfl) ?_
        repeat still_step
        still_call (ct1.mono fun _ _ ⟨u,v⟩=>⟨u,v.symm⟩)
        repeat still_step
        still_call (ct2.mono fun _ _ ⟨u,v⟩=>⟨u,v.symm⟩)
        repeat still_step
        refine wpStill_nil ?_
        clear ct1 ct2
        cases o1 with
        |true=>
         cases o2 with
         |true=>
          go_wp2
          go_roundw
          case rel=>exact⟨D2++[(k,d)],_,n10,HSN2.out,hrgD,by
           rw[List.foldl_append]
           show SM W10 B sb bu bl be bs ad2 {FP with stints:=S,eases:=mgE x.into x.lot (D2.foldl (mgE x.into x.lot) FP.eases) (k,d)}
           rw[mgE_same (by rw[HO1.out,HO2.out])]
           exact hsD,kxD,bD⟩
          case measure=>rw[hrgD.left_eq,HRG.out.left_eq];exact hlt10
         |false=>
          obtain⟨W11,hW11⟩: ∃W:World,W=W10.setCell ⟨wo.heap.size,0,none⟩ (.int .i64 x.lot):=⟨_,rfl⟩
          have kk11:W11.heap[wo.heap.size]?=some (.cells #[.int .i64 x.lot,.int .i64 k.2] 163 (0,0)):=by rw[hW11];exact heap_setCell_same W10 wo.heap.size 0 _ _ (.int .i64 x.lot) kkD
          have g11:W10.grownBy W11 (some wo.heap.size):=by rw[hW11];exact gsc W10 ⟨wo.heap.size,0,none⟩ _
          have hs11:=hsD.kept g11 (by omega) (fun n p hq=>by have:=HLT2.out n p hq;omega)
          have hrg11:=hrgD.kept g11 (by simp;omega) (by simp;omega)
          have kx11:=(g11.block _ (Array.getElem?_eq_some_iff.1 kxD).1 (by simp;omega)).trans kxD
          have b11:Fr B sb ad w W11:=bD.grow g11 ⟨by omega,by omega⟩ (.inr (.inl (by omega)))
          have HW11:=Lib.hid hW11.symm
          have HQ:=Lib.hid (show mgK x.into x.lot k=(x.lot,k.2) by unfold mgK;rw[HO1.out];rfl)
          have HNE3:=Lib.hid (show x.into.contains k.1≠x.into.contains k.2 by rw[HO1.out,HO2.out];decide)
          clear hW11
          obtain⟨W12,hW12⟩: ∃W:World,W=W11.drew:=⟨_,rfl⟩
          have hs12:=hs11.drew
          rw[←hW12]at hs12
          have hrg12:RG ekP okP W12 v5.heap.size v6.heap.size (fI FP.eases) (fun q=>left2 q&& !decide (q=k)) n10:=by rw[hW12];exact hrg11
          have kx12:W12.heap[w.heap.size]?=some (oDl x (some ⟨b0i,o0i,none⟩) A2 c1 c2):=by rw[hW12];exact kx11
          have kk12:W12.heap[wo.heap.size]?=some (.cells #[.int .i64 x.lot,.int .i64 k.2] 163 (0,0)):=by rw[hW12];exact kk11
          have b12:Fr B sb ad w W12:=by rw[hW12];exact b11.drew
          have HW12:=Lib.hid hW12
          clear hW12
          have hl12:=hs12.lEase h1.i64 hk.2.i64
          obtain⟨hc12,hf12⟩:=blk_cells hs12.blk
          obtain⟨hck12,hfk12⟩:=blk_cells kk12
          obtain⟨E0,hE0⟩: ∃E0,D2.foldl (mgE x.into x.lot) FP.eases=E0:=⟨_,rfl⟩
          simp only[hE0]at hl12 hs12
          have HE0':=Lib.hid hE0
          cases he:E0 (x.lot,k.2)with
          |none=>
           rw[he]at hl12
           have HE:=Lib.hid he
           clear he hE0
           simp only[Option.getD_none,Option.isSome_none]at hl12
           obtain⟨W13,hW13⟩: ∃W:World,W=W12.drew:=⟨_,rfl⟩
           have hs13:=hs12.drew
           rw[←hW13]at hs13
           have hrg13:RG ekP okP W13 v5.heap.size v6.heap.size (fI FP.eases) (fun q=>left2 q&& !decide (q=k)) n10:=by rw[hW13];exact hrg12
           have kx13:W13.heap[w.heap.size]?=some (oDl x (some ⟨b0i,o0i,none⟩) A2 c1 c2):=by rw[hW13];exact kx12
           have kk13:W13.heap[wo.heap.size]?=some (.cells #[.int .i64 x.lot,.int .i64 k.2] 163 (0,0)):=by rw[hW13];exact kk12
           have b13:Fr B sb ad w W13:=by rw[hW13];exact b12.drew
           have HW13:=Lib.hid hW13
           clear hW13
           obtain⟨w14,hrun,hs14,b14,g14⟩:=hs13.way (d:=d) h1 hk.2
           have hrg14:=hrg13.kept g14 (by simp;omega) (by simp;omega)
           have kx14:=(g14.block _ (Array.getElem?_eq_some_iff.1 kx13).1 (by simp;omega)).trans kx13
           obtain⟨hc13,hf13⟩:=blk_cells hs13.blk
           obtain⟨hck13,hfk13⟩:=blk_cells kk13
           go_wp2
           rw[HW11.out]
           refine still_all HW12.out (by kernel_rfl) (by kernel_rfl) ?_
           repeat still_step
           refine wpStill_nil ?_
           go_wp2
           refine still_tail HW13.out 6 (by kernel_rfl) (by kernel_rfl) ?_
           simp only[List.take_succ_cons,List.take_zero,List.drop_succ_cons,List.drop_zero]
           repeat still_step
           refine wpStill_nil ?_
           go_wp2
           go_roundw
           case rel=>exact⟨D2++[(k,d)],_,n10,HSN2.out,hrg14,by
            rw[List.foldl_append]
            show SM w14 B sb bu bl be bs ad2 {FP with stints:=S,eases:=mgE x.into x.lot (D2.foldl (mgE x.into x.lot) FP.eases) (k,d)}
            rw[HE0'.out,mgE_put HNE3.out HQ.out (by rw[HE.out])]
            exact hs14,kx14,b13.grow g14 ⟨by omega,by omega⟩ (.inl (by omega))⟩
           case measure=>rw[hrg14.left_eq,HRG.out.left_eq];exact hlt10
          |some d0=>
           rw[he]at hl12
           have HE:=Lib.hid he
           clear he hE0
           simp only[Option.getD_some,Option.isSome_some]at hl12
           by_cases hdd:d<d0
           ·have hdq:=decide_eq_true hdd
            have HD:=Lib.hid hdd
            clear hdd
            obtain⟨W13,hW13⟩: ∃W:World,W=W12.drew:=⟨_,rfl⟩
            have hs13:=hs12.drew
            rw[←hW13]at hs13
            have hrg13:RG ekP okP W13 v5.heap.size v6.heap.size (fI FP.eases) (fun q=>left2 q&& !decide (q=k)) n10:=by rw[hW13];exact hrg12
            have kx13:W13.heap[w.heap.size]?=some (oDl x (some ⟨b0i,o0i,none⟩) A2 c1 c2):=by rw[hW13];exact kx12
            have kk13:W13.heap[wo.heap.size]?=some (.cells #[.int .i64 x.lot,.int .i64 k.2] 163 (0,0)):=by rw[hW13];exact kk12
            have b13:Fr B sb ad w W13:=by rw[hW13];exact b12.drew
            have HW13:=Lib.hid hW13
            clear hW13
            obtain⟨w14,hrun,hs14,b14,g14⟩:=hs13.way (d:=d) h1 hk.2
            have hrg14:=hrg13.kept g14 (by simp;omega) (by simp;omega)
            have kx14:=(g14.block _ (Array.getElem?_eq_some_iff.1 kx13).1 (by simp;omega)).trans kx13
            obtain⟨hc13,hf13⟩:=blk_cells hs13.blk
            obtain⟨hck13,hfk13⟩:=blk_cells kk13
            go_wp2
            rw[HW11.out]
            refine still_all HW12.out (by kernel_rfl) (by kernel_rfl) ?_
            repeat still_step
            refine wpStill_nil ?_
            go_wp2
            refine still_tail HW13.out 6 (by kernel_rfl) (by kernel_rfl) ?_
            simp only[List.take_succ_cons,List.take_zero,List.drop_succ_cons,List.drop_zero]
            repeat still_step
            refine wpStill_nil ?_
            go_wp2
            go_roundw
            case rel=>exact⟨D2++[(k,d)],_,n10,HSN2.out,hrg14,by
             rw[List.foldl_append]
             show SM w14 B sb bu bl be bs ad2 {FP with stints:=S,eases:=mgE x.into x.lot (D2.foldl (mgE x.into x.lot) FP.eases) (k,d)}
             rw[HE0'.out,mgE_put HNE3.out HQ.out (by rw[HE.out];simpa using HD.out)]
             exact hs14,kx14,b13.grow g14 ⟨by omega,by omega⟩ (.inl (by omega))⟩
            case measure=>rw[hrg14.left_eq,HRG.out.left_eq];exact hlt10
           ·have hdq:=decide_eq_false hdd
            have HD:=Lib.hid hdd
            clear hdd
            go_wp2
            rw[HW11.out]
            refine still_all HW12.out (by kernel_rfl) (by kernel_rfl) ?_
            repeat still_step
            refine wpStill_nil ?_
            go_wp2
            go_roundw
            case rel=>exact⟨D2++[(k,d)],_,n10,HSN2.out,hrg12,by
             rw[List.foldl_append]
             show SM W12 B sb bu bl be bs ad2 {FP with stints:=S,eases:=mgE x.into x.lot (D2.foldl (mgE x.into x.lot) FP.eases) (k,d)}
             rw[HE0'.out,mgE_keep HNE3.out HQ.out (by rw[HE.out];simpa using HD.out)]
             exact hs12,kx12,b12⟩
            case measure=>rw[hrg12.left_eq,HRG.out.left_eq];exact hlt10
        |false=>
         cases o2 with
         |false=>
          go_wp2
          go_roundw
          case rel=>exact⟨D2++[(k,d)],_,n10,HSN2.out,hrgD,by
           rw[List.foldl_append]
           show SM W10 B sb bu bl be bs ad2 {FP with stints:=S,eases:=mgE x.into x.lot (D2.foldl (mgE x.into x.lot) FP.eases) (k,d)}
           rw[mgE_same (by rw[HO1.out,HO2.out])]
           exact hsD,kxD,bD⟩
          case measure=>rw[hrgD.left_eq,HRG.out.left_eq];exact hlt10
         |true=>
          obtain⟨W11,hW11⟩: ∃W:World,W=W10.setCell ⟨wo.heap.size,1,none⟩ (.int .i64 x.lot):=⟨_,rfl⟩
          have kk11:W11.heap[wo.heap.size]?=some (.cells #[.int .i64 k.1,.int .i64 x.lot] 163 (0,0)):=by rw[hW11];exact heap_setCell_same W10 wo.heap.size 1 _ _ (.int .i64 x.lot) kkD
          have g11:W10.grownBy W11 (some wo.heap.size):=by rw[hW11];exact gsc W10 ⟨wo.heap.size,1,none⟩ _
          have hs11:=hsD.kept g11 (by omega) (fun n p hq=>by have:=HLT2.out n p hq;omega)
          have hrg11:=hrgD.kept g11 (by simp;omega) (by simp;omega)
          have kx11:=(g11.block _ (Array.getElem?_eq_some_iff.1 kxD).1 (by simp;omega)).trans kxD
          have b11:Fr B sb ad w W11:=bD.grow g11 ⟨by omega,by omega⟩ (.inr (.inl (by omega)))
          have HW11:=Lib.hid hW11.symm
          have HQ:=Lib.hid (show mgK x.into x.lot k=(k.1,x.lot) by unfold mgK;rw[HO1.out];rfl)
          have HNE3:=Lib.hid (show x.into.contains k.1≠x.into.contains k.2 by rw[HO1.out,HO2.out];decide)
          clear hW11
          obtain⟨W12,hW12⟩: ∃W:World,W=W11.drew:=⟨_,rfl⟩
          have hs12:=hs11.drew
          rw[←hW12]at hs12
          have hrg12:RG ekP okP W12 v5.heap.size v6.heap.size (fI FP.eases) (fun q=>left2 q&& !decide (q=k)) n10:=by rw[hW12];exact hrg11
          have kx12:W12.heap[w.heap.size]?=some (oDl x (some ⟨b0i,o0i,none⟩) A2 c1 c2):=by rw[hW12];exact kx11
          have kk12:W12.heap[wo.heap.size]?=some (.cells #[.int .i64 k.1,.int .i64 x.lot] 163 (0,0)):=by rw[hW12];exact kk11
          have b12:Fr B sb ad w W12:=by rw[hW12];exact b11.drew
          have HW12:=Lib.hid hW12
          clear hW12
          have hl12:=hs12.lEase hk.1.i64 h1.i64
          obtain⟨hc12,hf12⟩:=blk_cells hs12.blk
          obtain⟨hck12,hfk12⟩:=blk_cells kk12
          obtain⟨E0,hE0⟩: ∃E0,D2.foldl (mgE x.into x.lot) FP.eases=E0:=⟨_,rfl⟩
          simp only[hE0]at hl12 hs12
          have HE0':=Lib.hid hE0
          cases he:E0 (k.1,x.lot)with
          |none=>
           rw[he]at hl12
           have HE:=Lib.hid he
           clear he hE0
           simp only[Option.getD_none,Option.isSome_none]at hl12
           obtain⟨W13,hW13⟩: ∃W:World,W=W12.drew:=⟨_,rfl⟩
           have hs13:=hs12.drew
           rw[←hW13]at hs13
           have hrg13:RG ekP okP W13 v5.heap.size v6.heap.size (fI FP.eases) (fun q=>left2 q&& !decide (q=k)) n10:=by rw[hW13];exact hrg12
           have kx13:W13.heap[w.heap.size]?=some (oDl x (some ⟨b0i,o0i,none⟩) A2 c1 c2):=by rw[hW13];exact kx12
           have kk13:W13.heap[wo.heap.size]?=some (.cells #[.int .i64 k.1,.int .i64 x.lot] 163 (0,0)):=by rw[hW13];exact kk12
           have b13:Fr B sb ad w W13:=by rw[hW13];exact b12.drew
           have HW13:=Lib.hid hW13
           clear hW13
           obtain⟨w14,hrun,hs14,b14,g14⟩:=hs13.way (d:=d) hk.1 h1
           have hrg14:=hrg13.kept g14 (by simp;omega) (by simp;omega)
           have kx14:=(g14.block _ (Array.getElem?_eq_some_iff.1 kx13).1 (by simp;omega)).trans kx13
           obtain⟨hc13,hf13⟩:=blk_cells hs13.blk
           obtain⟨hck13,hfk13⟩:=blk_cells kk13
           go_wp2
           rw[HW11.out]
           refine still_all HW12.out (by kernel_rfl) (by kernel_rfl) ?_
           repeat still_step
           refine wpStill_nil ?_
           go_wp2
           refine still_tail HW13.out 6 (by kernel_rfl) (by kernel_rfl) ?_
           simp only[List.take_succ_cons,List.take_zero,List.drop_succ_cons,List.drop_zero]
           repeat still_step
           refine wpStill_nil ?_
           go_wp2
           go_roundw
           case rel=>exact⟨D2++[(k,d)],_,n10,HSN2.out,hrg14,by
            rw[List.foldl_append]
            show SM w14 B sb bu bl be bs ad2 {FP with stints:=S,eases:=mgE x.into x.lot (D2.foldl (mgE x.into x.lot) FP.eases) (k,d)}
            rw[HE0'.out,mgE_put HNE3.out HQ.out (by rw[HE.out])]
            exact hs14,kx14,b13.grow g14 ⟨by omega,by omega⟩ (.inl (by omega))⟩
           case measure=>rw[hrg14.left_eq,HRG.out.left_eq];exact hlt10
          |some d0=>
           rw[he]at hl12
           have HE:=Lib.hid he
           clear he hE0
           simp only[Option.getD_some,Option.isSome_some]at hl12
           by_cases hdd:d<d0
           ·have hdq:=decide_eq_true hdd
            have HD:=Lib.hid hdd
            clear hdd
            obtain⟨W13,hW13⟩: ∃W:World,W=W12.drew:=⟨_,rfl⟩
            have hs13:=hs12.drew
            rw[←hW13]at hs13
            have hrg13:RG ekP okP W13 v5.heap.size v6.heap.size (fI FP.eases) (fun q=>left2 q&& !decide (q=k)) n10:=by rw[hW13];exact hrg12
            have kx13:W13.heap[w.heap.size]?=some (oDl x (some ⟨b0i,o0i,none⟩) A2 c1 c2):=by rw[hW13];exact kx12
            have kk13:W13.heap[wo.heap.size]?=some (.cells #[.int .i64 k.1,.int .i64 x.lot] 163 (0,0)):=by rw[hW13];exact kk12
            have b13:Fr B sb ad w W13:=by rw[hW13];exact b12.drew
            have HW13:=Lib.hid hW13
            clear hW13
            obtain⟨w14,hrun,hs14,b14,g14⟩:=hs13.way (d:=d) hk.1 h1
            have hrg14:=hrg13.kept g14 (by simp;omega) (by simp;omega)
            have kx14:=(g14.block _ (Array.getElem?_eq_some_iff.1 kx13).1 (by simp;omega)).trans kx13
            obtain⟨hc13,hf13⟩:=blk_cells hs13.blk
            obtain⟨hck13,hfk13⟩:=blk_cells kk13
            go_wp2
            rw[HW11.out]
            refine still_all HW12.out (by kernel_rfl) (by kernel_rfl) ?_
            repeat still_step
            refine wpStill_nil ?_
            go_wp2
            refine still_tail HW13.out 6 (by kernel_rfl) (by kernel_rfl) ?_
            simp only[List.take_succ_cons,List.take_zero,List.drop_succ_cons,List.drop_zero]
            repeat still_step
            refine wpStill_nil ?_
            go_wp2
            go_roundw
            case rel=>exact⟨D2++[(k,d)],_,n10,HSN2.out,hrg14,by
             rw[List.foldl_append]
             show SM w14 B sb bu bl be bs ad2 {FP with stints:=S,eases:=mgE x.into x.lot (D2.foldl (mgE x.into x.lot) FP.eases) (k,d)}
             rw[HE0'.out,mgE_put HNE3.out HQ.out (by rw[HE.out];simpa using HD.out)]
             exact hs14,kx14,b13.grow g14 ⟨by omega,by omega⟩ (.inl (by omega))⟩
            case measure=>rw[hrg14.left_eq,HRG.out.left_eq];exact hlt10
           ·have hdq:=decide_eq_false hdd
            have HD:=Lib.hid hdd
            clear hdd
            go_wp2
            rw[HW11.out]
            refine still_all HW12.out (by kernel_rfl) (by kernel_rfl) ?_
            repeat still_step
            refine wpStill_nil ?_
            go_wp2
            go_roundw
            case rel=>exact⟨D2++[(k,d)],_,n10,HSN2.out,hrg12,by
             rw[List.foldl_append]
             show SM W12 B sb bu bl be bs ad2 {FP with stints:=S,eases:=mgE x.into x.lot (D2.foldl (mgE x.into x.lot) FP.eases) (k,d)}
             rw[HE0'.out,mgE_keep HNE3.out HQ.out (by rw[HE.out];simpa using HD.out)]
             exact hs12,kx12,b12⟩
            case measure=>rw[hrg12.left_eq,HRG.out.left_eq];exact hlt10
     ·intro k v w10 n10 hk hlx hv hrg10 hlt10 hg10 hs10 hen
      have HV:=Lib.hid hv
      have HSN2:=Lib.hid (HSN.out.step hv hlx)
      have kx10:=(hg10.block _ hl9 (by simp;omega)).trans kx9
      have b10:Fr B sb ad w w10:=b9.grow hg10 ⟨by omega,by omega⟩ (.inr (.inl (by omega)))
      have hs10':=hs9.kept hg10 (by omega) (fun n p hq=>by have:=HLT.out n p hq;omega)
      obtain⟨W9,hW9⟩: ∃W:World,W=(w10.alloc (.cells #[.int .i64 k.1,.int .i64 k.2] 163)).alloc (.cells #[.int .i64 v.1,.int .i64 v.2] 171):=⟨_,rfl⟩
      have bA:Below w10.heap.size w10 W9:=by rw[hW9];exact((Below.refl _ _).alloc (Nat.le_refl _) _).alloc (by simp) _
      have kk:W9.heap[wr.heap.size]?=some (.cells #[.int .i64 k.1,.int .i64 k.2] 163 (0,0)):=by rw[hW9];exact(Below.heap_alloc _ _ _ (by simp[hs10])).trans (heap_at hs10)
      have kv:W9.heap[wr.heap.size+1]?=some (.cells #[.int .i64 v.1,.int .i64 v.2] 171 (0,0)):=by rw[hW9];exact heap_at (by simp[hs10])
      have kxA:=(bA.block _ (by omega)).trans kx10
      have hsA:=hs10'.below bA
      have hrgA:=hrg10.same (w':=W9) (bA.block _ hrg10.fm.lt) (bA.block _ hrg10.lt)
      have bB:Fr B sb ad w W9:=b10.next bA (by omega) (by omega)
      have HW9:=Lib.hid hW9.symm
      have hl9':wr.heap.size<W9.heap.size:=(Array.getElem?_eq_some_iff.1 kk).1
      obtain⟨hcx8,hfx8⟩:=blk_cells kx10
      have hl8:w.heap.size<w10.heap.size:=by omega
      have HRG:=Lib.hid hrg
      clear hv hlx hW9 hs9 hs10' kx9 kx10 hrg hrg10
      by_cases hkl:k.1=f
      ·have hq1:(k.1==f)=true:=by simpa using hkl
       have HKL:=Lib.hid hkl
       clear hkl
       obtain⟨W10,hW10⟩: ∃W:World,W=W9.drew:=⟨_,rfl⟩
       have hsD:=hsA.drew
       rw[←hW10]at hsD
       have hrgD:RG ekP okP W10 w6.heap.size w7.heap.size (fG FP.stints) (fun q=>left q&& !decide (q=k)) n10:=by rw[hW10];exact hrgA
       have kxD:W10.heap[w.heap.size]?=some (oDl x (some ⟨b0i,o0i,none⟩) A2 c1 c2):=by rw[hW10];exact kxA
       have kkD:W10.heap[wr.heap.size]?=some (.cells #[.int .i64 k.1,.int .i64 k.2] 163 (0,0)):=by rw[hW10];exact kk
       have kvD:W10.heap[wr.heap.size+1]?=some (.cells #[.int .i64 v.1,.int .i64 v.2] 171 (0,0)):=by rw[hW10];exact kv
       have bD:Fr B sb ad w W10:=by rw[hW10];exact bB.drew
       have HW10:=Lib.hid hW10
       clear hW10
       obtain⟨w11,hrun,hs11,b11,g11⟩:=hsD.stint (n:=v.1) (d:=v.2) h1 hk.2
       have hrg11:=hrgD.kept g11 (by simp;omega) (by simp;omega)
       have kx11:=(g11.block _ (Array.getElem?_eq_some_iff.1 kxD).1 (by simp;omega)).trans kxD
       obtain⟨hcD,hfD⟩:=blk_cells hsD.blk
       obtain⟨hckD,hfkD⟩:=blk_cells kkD
       obtain⟨hcvD,hfvD⟩:=blk_cells kvD
       obtain⟨hcxD,hfxD⟩:=blk_cells kxD
       go_wp2
       rw[HW9.out]
       refine still_tail HW10.out 10 (by kernel_rfl) (by kernel_rfl) ?_
       simp only[List.take_succ_cons,List.take_zero,List.drop_succ_cons,List.drop_zero]
       repeat still_step
       refine wpStill_nil ?_
       go_wp2
       go_roundw
       case rel=>exact⟨D++[(k,v)],_,n10,HSN2.out,hrg11,by
        rw[List.foldl_append]
        show SM w11 B sb bu bl be bs ad2 {FP with stints:=mgS f x.lot (D.foldl (mgS f x.lot) FP.stints) (k,v)}
        rw[show mgS f x.lot (D.foldl (mgS f x.lot) FP.stints) (k,v)=(fun q=>if q=(x.lot,k.2)then some v else D.foldl (mgS f x.lot) FP.stints q) from if_pos HKL.out]
        exact hs11,kx11,bD.grow g11 ⟨by omega,by omega⟩ (.inl (by omega))⟩
       case measure=>rw[hrg11.left_eq,HRG.out.left_eq];exact hlt10
      ·have hq1:(k.1==f)=false:=by simpa using hkl
       have HKL:=Lib.hid hkl
       clear hkl
       go_wp2
       rw[HW9.out]
       go_roundw
       case rel=>exact⟨D++[(k,v)],_,n10,HSN2.out,hrgA,by
        rw[List.foldl_append]
        show SM W9 B sb bu bl be bs ad2 {FP with stints:=mgS f x.lot (D.foldl (mgS f x.lot) FP.stints) (k,v)}
        rw[show mgS f x.lot (D.foldl (mgS f x.lot) FP.stints) (k,v)=D.foldl (mgS f x.lot) FP.stints from if_neg HKL.out]
        exact hsA,kxA,bB⟩
       case measure=>rw[hrgA.left_eq,HRG.out.left_eq];exact hlt10
end
end Go.Proofs.YtcffonnijhhhiaaGreatDoor
