/- Part U19 of the proof: Lo Ss Wo Sw Wp Wq Rp. -/
import Derived.Test.YtcffonnijhhhiaaGreatDoorProg
import Derived.WalkKit
import Derived.WalkLawsBesides
import Derived.WalkSpells
import Derived.Handy
import Derived.Lib.Hide
import Derived.Great.BuildSlice
import Derived.Deep.QuietTactic
import Derived.BigQuiet
import Derived.Deep.RegionHeld3
import Derived.Deep.DeepCutAuto
import Derived.Shelf.Strconv.Itoa3
import Derived.Shelf.Strings.Split
import Derived.Shelf.LaysM
import Derived.Ground.NamesProg
import Derived.Lib.AtoiAll
import Derived.Lib.Split
import Derived.Test.YtcffonnijhhhiaaGreatDoorU18
import Derived.Test.YtcffonnijhhhiaaGreatDoorU10
import Derived.Test.YtcffonnijhhhiaaGreatDoorU01
import Derived.Test.YtcffonnijhhhiaaGreatDoorU05
import Derived.Test.YtcffonnijhhhiaaGreatDoorU00
set_option linter.all false
set_option linter.unusedSimpArgs false
set_option linter.unusedVariables false
set_option linter.unusedSectionVars false
namespace Go.Proofs.YtcffonnijhhhiaaGreatDoor
open Go Go.RowKit Go.Maps Mp
attribute [-simp] Prod.forall Prod.exists
theorem sorted_unique {α:Type}{R:α→α→Prop}(ir: ∀a b,R a b→R b a→False){l m:List α}(hl:l.Pairwise R)(hm:m.Pairwise R)(h: ∀k,k∈l↔k∈m):l=m:=by
 induction l generalizing m with
 |nil=>
  cases m with
  |nil=>rfl
  |cons b m=>have:=(h b).2 (by simp);simp at this
 |cons a l ih=>
  cases m with
  |nil=>have:=(h a).1 (by simp);simp at this
  |cons b m=>
   obtain⟨l1,l2⟩:=List.pairwise_cons.1 hl
   obtain⟨m1,m2⟩:=List.pairwise_cons.1 hm
   have e:a=b:=by
    rcases List.mem_cons.1 ((h a).1 (by simp))with e|e
    ·exact e
    ·rcases List.mem_cons.1 ((h b).2 (by simp))with e'|e'
     ·exact e'.symm
     ·exact(ir _ _ (m1 a e) (l1 b e')).elim
   subst e
   rw[ih l2 m2 fun k=>⟨fun hk=> ?_,fun hk=> ?_⟩]
   ·rcases List.mem_cons.1 ((h k).1 (by simp[hk]))with e|e
    ·subst e;exact(ir _ _ (l1 k hk) (l1 k hk)).elim
    ·exact e
   ·rcases List.mem_cons.1 ((h k).2 (by simp[hk]))with e|e
    ·subst e;exact(ir _ _ (m1 k hk) (m1 k hk)).elim
    ·exact e
theorem asc_lt {l : List Int} (h : Rt.asc l) : l.Pairwise (· < ·) := by
 induction l with
 |nil=>exact .nil
 |cons a l ih=>exact .cons h.1 (ih h.2)
theorem asc2_lt {l:List (Int×Int)}(h:Rt.asc2 l):l.Pairwise Rt.before:=by
 induction l with
 |nil=>exact .nil
 |cons a l ih=>exact .cons h.1 (ih h.2)
theorem asc_keys {l m : List Int} (hl : l.Pairwise (· < ·)) (hm : Rt.asc m) (h : ∀ k, k ∈ l ↔ k ∈ m) : l = m := sorted_unique (R := (· < ·)) (fun a b h1 h2 => by omega) hl (asc_lt hm) h
theorem asc2_keys {l m:List (Int×Int)}(hl:l.Pairwise Rt.before)(hm:Rt.asc2 m)(h: ∀k,k∈l↔k∈m):l=m:=sorted_unique (R:=Rt.before) (fun a b h1 h2=>by unfold Rt.before at*;omega) hl (asc2_lt hm) h
theorem part_mem (l : List (Int × Int)) (o : Int) : (partOf l o).isSome = true ↔ o ∈ l.map (·.1) := by
 unfold partOf
 rw[Option.isSome_map,List.find?_isSome]
 constructor
 ·rintro⟨p,hp,e⟩
  simp only[beq_iff_eq]at e
  exact List.mem_map.2 ⟨p,hp,e⟩
 ·intro h
  obtain⟨p,hp,e⟩:=List.mem_map.1 h
  exact⟨p,hp,by simpa using e⟩
theorem part_at {l : List (Int × Int)} (h : Rt.asc (l.map (·.1))) {p : Int × Int} (hp : p ∈ l) : partOf l p.1 = some p.2 := by
 induction l with
 |nil=>cases hp
 |cons q l ih=>
  unfold partOf
  rw[List.find?_cons]
  rcases List.mem_cons.1 hp with rfl|hp
  ·simp
  ·have h1:q.1<p.1:=h.1 p.1 (List.mem_map_of_mem hp)
   have:(q.1==p.1)=false:=by simp;omega
   rw[this]
   exact ih h.2 hp
theorem fm_ok {K:Type}{ek:K→Value}{ok:K→Prop}{w:World}{b:Nat}{f:K→Option Value}(h:FM ek ok w b f)(hi: ∀ {a b},ek a=ek b→a=b){k:K}(hk:(f k).isSome=true):ok k:=by
 obtain⟨es,c,_,E⟩:=h
 obtain⟨v,hv⟩:=Option.isSome_iff_exists.1 hk
 obtain⟨x,hx,h1,_⟩:=E.get k v hv
 obtain⟨j,hj,h2,_⟩:=E.mem x hx
 rw[hi (h1.symm.trans h2)]
 exact hj
theorem SM.plot {w:World}{B sb bu bl be bs:Nat}{ad:Int→Option (Nat×Nat)}{s:Rt.St}(h:SM w B sb bu bl be bs ad (view s)){n:Int}{x:Rt.Lot}(hx:Rt.lotOf s.roll.lots n=some x):
  okI n∧ ∃p:Nat×Nat,ad n=some p∧sb<p.1∧sb<p.2∧w.heap[p.1]?=some (oLt x.size p.2)∧FM ekI okI w p.2 (fI (partOf x.held)):=by
 have hl:(view s).lots n=some (lotV x):=by unfold view;simp only[hx,Option.map_some]
 cases hp:ad n with
 |none=>rw[h.no n hp]at hl;cases hl
 |some p=>
  obtain⟨L,h1,h2,h3,h4,h5⟩:=h.each n p hp
  rw[hl]at h1
  cases h1
  refine⟨fm_ok h.lots kI.inj (by unfold fL;rw[hp];rfl),p,rfl,h2,h3,h4,h5⟩
attribute [-go_sem] loadVar storeVar Builtin.append_
theorem lk_lots (a:Addr)(w:World):(loadVar 128 a).run Tryz.prog w=(load a).run Tryz.prog w:=lv_scalar Tryz.underlying128 rfl a w
theorem lk_parts (a:Addr)(w:World):(loadVar 134 a).run Tryz.prog w=(load a).run Tryz.prog w:=lv_scalar Tryz.underlying134 rfl a w
theorem lk_holds (a:Addr)(w:World):(loadVar 52 a).run Tryz.prog w=(load a).run Tryz.prog w:=lv_scalar Tryz.underlying52 rfl a w
theorem lk_mE (a:Addr)(w:World):(loadVar 129 a).run Tryz.prog w=(load a).run Tryz.prog w:=lv_scalar Tryz.underlying129 rfl a w
theorem lk_mS (a:Addr)(w:World):(loadVar 130 a).run Tryz.prog w=(load a).run Tryz.prog w:=lv_scalar Tryz.underlying130 rfl a w
theorem lk_sL (a:Addr)(w:World):(loadVar 46 a).run Tryz.prog w=(load a).run Tryz.prog w:=lv_scalar Tryz.underlying46 rfl a w
theorem lk_sE (a:Addr)(w:World):(loadVar 47 a).run Tryz.prog w=(load a).run Tryz.prog w:=lv_scalar Tryz.underlying47 rfl a w
theorem lk_sS (a:Addr)(w:World):(loadVar 48 a).run Tryz.prog w=(load a).run Tryz.prog w:=lv_scalar Tryz.underlying48 rfl a w
theorem st_slice {ty:TypeId}(hs: ∀w,(Go.sizeOf ty).run Tryz.prog w=.ok 1 w){w:World}{g j:Nat}{t:TypeId}{cs:Array Value}{A:Option Addr}{n c:Nat}(hg:w.heap[g]?=some (.cells cs t (0,0)))(hj:j<cs.size):(storeVar ty ⟨g,j,none⟩ (.slice A n c)).run Tryz.prog w=.ok () (w.setCell ⟨g,j,none⟩ (.slice A n c)):=by
 obtain⟨hc,hf⟩:=blk_cells hg
 have h1:=hc j
 rw[Array.getElem?_eq_getElem hj]at h1
 have h2:=hf j
 have h3:=hs w
 simp[go_sem,storeVar,h1,h2,h3]
theorem own_cells {w:World}{n₀ n c k:Nat}{T:TypeId}{sz:Nat}{A:Option Addr}{xs:List Value}(h:w.ownsRow n₀ T sz (.slice A n c) k xs): ∀a,A=some a→ ∃cs,w.heap[a.block]?=some (.cells cs T (0,0)):=by
 rintro a rfl
 rcases h.2 with ⟨h2,_⟩|⟨g,cap,cur,h2,_,hg,_⟩
 ·cases h2
 ·cases h2
  exact⟨_,hg⟩
attribute [local go_sem] lk_int lk_lots lk_parts lk_holds
set_option maxRecDepth 100000 in
set_option maxHeartbeats 4000000 in
theorem lot_a {w:World}{B sb bu bl be bs:Nat}{ad:Int→Option (Nat×Nat)}{s:Rt.St}(h:SM w B sb bu bl be bs ad (view s)){n:Int}{x:Rt.Lot}(hx:Rt.lotOf s.roll.lots n=some x)(hh:Rt.Held x.held):
  Calls Tryz.prog 132 #[.pointer (some ⟨sb,0,none⟩),.int .i64 n] w fun e w'=> ∃A c,e=.returned (.agg #[.int .i64 n,.int .i64 x.size,.slice A x.held.length c])∧Seg encH 2 w' w'.heap.size A x.held∧x.held.length≤c∧From w.heap.size A∧Below w.heap.size w w'∧ ∀a,A=some a→ ∃cs,w'.heap[a.block]?=some (.cells cs 59 (0,0)):=by
 obtain⟨hok,p,hp,hp1,hp2,hpb,hpf⟩:=h.plot hx
 have hz:=h.lt
 have hzp:=(Array.getElem?_eq_some_iff.1 hpb).1
 have hzf:=hpf.lt
 have b0:Below w.heap.size w (w.alloc (.cells zcL 54)):=by go_grown
 have h0:=h.below b0
 have hl:=h0.lLot hok.i64
 rw[hp]at hl
 simp only[Option.map_some]at hl
 obtain⟨hc0,hf0⟩:=blk_cells h0.blk
 obtain⟨hcq,hfq⟩:=blk_cells ((b0.block _ hzp).trans hpb)
 have k1:((w.alloc (.cells zcL 54)).alloc (.cells zcL 54)).heap[w.heap.size+1]?=some (.cells zcL 54 (0,0)):=heap_at (by simp)
 have k0:((w.alloc (.cells zcL 54)).alloc (.cells zcL 54)).heap[w.heap.size]?=some (.cells zcL 54 (0,0)):=(Below.heap_alloc _ _ _ (by simp)).trans (heap_alloc_new w _)
 obtain⟨W2,st2,k2,g2⟩:=st_row _ (w.heap.size+1) 54 54 zcL #[.int .i64 n,.int .i64 x.size,.slice none 0 0] k1 info_lot rfl (by simp[Value.oneCell'])
 have b2:Below w.heap.size w W2:=Below.grown (by go_grown) g2 (by simp;omega) (fun k e=>by cases e;omega)
 have z2:w.heap.size+2≤W2.heap.size:=by have:=g2.size;simp at this;omega
 have k02:W2.heap[w.heap.size]?=some (.cells zcL 54 (0,0)):=(g2.block _ (by simp;omega) (by simp)).trans k0
 have h2:=h.below b2
 have hl2:=h2.lLot hok.i64
 rw[hp]at hl2
 simp only[Option.map_some]at hl2
 have pb2:=(b2.block _ hzp).trans hpb
 obtain⟨hcs,hfs⟩:=blk_cells h2.blk
 obtain⟨hcp,hfp⟩:=blk_cells pb2
 have hsr:=sorted_N (g:=partOf x.held) (hpf.same (b2.block _ hzf))
 have HPF:=Lib.hid hpf
 have H:=Lib.hid h
 have HP:=Lib.hid hp
 clear k1 k0 h2 h0 b0 hpf h hp
 go_enter Tryz.func132,Tryz.ntmps132
 go_wp2_with fail
 refine hsr.mono ?_
 clear hsr
 rintro e w3 ⟨l,A,c,hlt,hmem,rfl,hseg,b3,hfr,_,_,_⟩
 have hkeys : l = x.held.map (·.1) := asc_keys hlt.out hh.asc fun k => (hmem.out k).trans (part_mem _ _)
 subst hkeys
 have hk3:w3.heap[w.heap.size+1]?=some (.cells #[.int .i64 n,.int .i64 x.size,.slice none 0 0] 54 (0,0)):=(b3.block _ (by omega)).trans k2
 have bw3:Below w.heap.size w w3:=b2.trans (b3.mono (by omega))
 have z3:=b3.size
 have hlen:x.held.length≤1000001:=by
  have := len_okI (l := x.held.map (·.1)) (List.nodup_iff_pairwise_ne.2 (hlt.out.imp (fun h e => by omega))) (fun o ho => fm_ok HPF.out kI.inj (by
   show((partOf x.held o).map _).isSome=true
   rw[Option.isSome_map]
   exact(part_mem _ _).2 ho))
  simpa using this
 clear hcs hfs hcp hfp hl2 hl hc0 hf0 hcq hfq st2 hlt hmem k2
 have HSG:=Lib.hid hseg
 clear hseg
 go_wp2
 go_loopw [30] (fun i wr=> ∃(k:Nat) (v:Value),k≤x.held.length∧i=.int .i64 k∧Hid (wr.heap[w.heap.size+1]?=some (.cells #[.int .i64 n,.int .i64 x.size,v] 54 (0,0)))∧Hid (wr.ownsRow w3.heap.size 59 2 v k ((x.held.take k).flatMap encH))∧w3.grownBy wr (some (w.heap.size+1))) (fun i _=>x.held.length-(intOf i).toNat)
 case atStart=>exact⟨0,_,by omega,rfl,Lib.hid hk3,Lib.hid (World.ownsRow_nil _ _ _ _),⟨rfl,rfl,rfl,Nat.le_refl _,fun _ _ _=>rfl⟩⟩
 case round=>
  obtain⟨k,v,hk,rfl,HB,HO,hg⟩:=hrel
  have zg:=hg.size
  by_cases hlt:k<x.held.length
  ·obtain⟨b,off,hA,hbb,q0⟩:=Ints.at1 HSG.out (k:=k) (by simpa using hlt)
   have hb2:=hfr _ hA
   simp only at hb2
   rw[List.getElem_map]at q0
   subst hA
   obtain⟨q,hq⟩: ∃q,x.held[k]=q:=⟨_,rfl⟩
   rw[hq]at q0
   have hpart:=part_at hh.asc (hq▸List.getElem_mem hlt)
   have q1:wr.cell? ⟨b,off+k,none⟩=some (.int .i64 q.1):=(World.cell?_of_block (hg.block b hbb (by simp;omega))).trans q0
   clear q0
   obtain⟨W,hW⟩: ∃W:World,W=wr.drew:=⟨_,rfl⟩
   have gW:w3.grownBy W (some (w.heap.size+1)):=by rw[hW];exact⟨hg.os,hg.tape,hg.output,hg.size,hg.block⟩
   have bW:Below w.heap.size w W:=bw3.grown gW bw3.size (fun k e=>by cases e;omega)
   have kW:W.heap[w.heap.size+1]?=some (.cells #[.int .i64 n,.int .i64 x.size,v] 54 (0,0)):=by rw[hW];exact HB.out
   have oW:W.ownsRow w3.heap.size 59 2 v k ((x.held.take k).flatMap encH):=by rw[hW];exact HO.out
   have zW:=gW.size
   have hqo:okI q.1:=fm_ok HPF.out kI.inj (k:=q.1) (by show((partOf x.held q.1).map _).isSome=true;rw[hpart];rfl)
   have HS:=Lib.hid (show ∀V:World,w3.grownBy V (some (w.heap.size+1))→(fun V=>V.cell? ⟨sb,1,none⟩=some (.map (some bl))∧(Instr.lookup 128 (.map (some bl)) (.int .i64 n) false).run Tryz.prog V=.ok (.pointer (some ⟨p.1,0,none⟩)) V∧V.cell? ⟨p.1,1,none⟩=some (.map (some p.2))∧(Instr.lookup 134 (.map (some p.2)) (.int .i64 q.1) false).run Tryz.prog V=.ok (.int .i64 q.2) V) V from fun V gV=>by
    have bV:Below w.heap.size w V:=bw3.grown gV bw3.size (fun k e=>by cases e;omega)
    have hS:=H.out.below bV
    have hl:=hS.lLot hok.i64
    rw[HP.out]at hl
    have hlk:=((HPF.out.same (bV.block _ hzf)).lookup kI Tryz.underlying134 (zero_int V) (keyI hqo.i64.1 hqo.i64.2)).1
    have e9:(fI (partOf x.held) q.1).getD (.int .i64 0)=.int .i64 q.2:=by unfold fI;rw[hpart];rfl
    rw[e9]at hlk
    exact⟨(blk_cells hS.blk).1 1,hl,(blk_cells ((bV.block _ hzp).trans hpb)).1 1,hlk⟩)
   have etk:x.held.take (k+1)=x.held.take k++[q]:=by rw[List.take_succ_eq_append_getElem hlt,hq]
   have elk:(x.held.take k).length=k:=by rw[List.length_take];omega
   have oW2:W.ownsRow w3.heap.size 59 2 v (x.held.take k).length ((x.held.take k).flatMap encH):=by rw[elk];exact oW
   obtain⟨g',c',w5,hrun,ho5,hb5,_⟩:=own_push layH oW2 q (rowH q) rfl (by omega) (by decide) (by omega)
   have el:(x.held.take k++[q]).length=k+1:=by rw[List.length_append,elk];rfl
   rw[el]at hrun ho5
   rw[←etk]at ho5
   have kw5:=(hb5.block _ (by omega)).trans kW
   have st6:=st_slice (A:=some ⟨g',0,none⟩) (n:=k+1) (c:=c') (j:=2) Tryz.sizeOf52 kw5 (by simp)
   obtain⟨W6,hW6⟩: ∃W6,W6=w5.setCell ⟨w.heap.size+1,2,none⟩ (.slice (some ⟨g',0,none⟩) (k+1) c'):=⟨_,rfl⟩
   rw[←hW6]at st6
   have g6:w5.grownBy W6 (some (w.heap.size+1)):=by rw[hW6];exact gsc w5 ⟨w.heap.size+1,2,none⟩ _
   have k6:W6.heap[w.heap.size+1]?=some (.cells #[.int .i64 n,.int .i64 x.size,.slice (some ⟨g',0,none⟩) (k+1) c'] 54 (0,0)):=by rw[hW6];exact hsc (j:=2) _ kw5
   have o6:=ho5.kept g6 (.inr fun e=>by
    have h7:=(ho5.lt g' rfl).1
    have h8:g'=w.heap.size+1:=Option.some.inj e
    omega)
   have gg6:w3.grownBy W6 (some (w.heap.size+1)):=⟨g6.os.trans (hb5.os.trans gW.os),g6.tape.trans (hb5.tape.trans gW.tape),g6.output.trans (hb5.output.trans gW.output),Nat.le_trans gW.size (Nat.le_trans hb5.size g6.size),fun i hi hne=>(g6.block i (by have:=hb5.size;omega) hne).trans ((hb5.block i hi).trans (gW.block i hi hne))⟩
   have HW:=Lib.hid hW
   have HK6:=Lib.hid k6
   have HO6:=Lib.hid o6
   have q3:=(blk_cells kW).1 2
   obtain⟨WA,hWA⟩: ∃WA:World,WA=W.alloc (.cells #[.int .i64 q.1,.int .i64 q.2] 59):=⟨_,rfl⟩
   have bA:Below W.heap.size W WA:=by rw[hWA];exact(Below.refl _ _).alloc (Nat.le_refl _) _
   have qA:WA.cell? ⟨w.heap.size+1,2,none⟩=some v:=(bA.cell (p:=⟨w.heap.size+1,2,none⟩) (show w.heap.size+1<W.heap.size by omega)).trans q3
   have gA:=grown_up gW bA
   have g5:w3.grownBy w5 (some (w.heap.size+1)):=⟨hb5.os.trans gW.os,hb5.tape.trans gW.tape,hb5.output.trans gW.output,Nat.le_trans gW.size hb5.size,fun i hi hne=>(hb5.block i hi).trans (gW.block i hi hne)⟩
   rw[←hWA]at hrun
   have HWA:=Lib.hid hWA
   clear hW hW6 hWA k6 o6 ho5 oW oW2 etk elk el hpart hq kw5
   go_wp2
   refine wp_region_held_drew (S:=fun V=>V.cell? ⟨sb,1,none⟩=some (.map (some bl))∧(Instr.lookup 128 (.map (some bl)) (.int .i64 n) false).run Tryz.prog V=.ok (.pointer (some ⟨p.1,0,none⟩)) V∧V.cell? ⟨p.1,1,none⟩=some (.map (some p.2))∧(Instr.lookup 134 (.map (some p.2)) (.int .i64 q.1) false).run Tryz.prog V=.ok (.int .i64 q.2) V) (by kernel_rfl) (by rw[←HW.out];exact HS.out _ gW) (fun hHeld=> ?_)
   rw[←HW.out]at hHeld ⊢
   refine takeH 0 (some 34) (v:= ?v1) rfl rfl (by kernel_rfl) (by kernel_rfl) (by kernel_rfl) (fun _ _ _ h=>h) (Or.inl ⟨by rfl,fun W hW=> ?hy1⟩) (by assumption) ?hr1
   case hy1=>(try dsimp only at hW);go_simp;try with_reducible rfl
   try simp only[Act.put,List.setIfInBounds_toArray,List.set_cons_zero,List.set_cons_succ]
   refine takeH 2 (some 36) (v:= ?v2) rfl rfl (by kernel_rfl) (by kernel_rfl) (by kernel_rfl) (fun _ _ _ h=>h) (Or.inl ⟨by rfl,fun W hW=> ?hy2⟩) (by assumption) ?hr2
   case hy2=>(try dsimp only at hW);go_simp;try with_reducible rfl
   try simp only[Act.put,List.setIfInBounds_toArray,List.set_cons_zero,List.set_cons_succ]
   refine takeH 3 (some 37) (v:= ?v3) rfl rfl (by kernel_rfl) (by kernel_rfl) (by kernel_rfl) (fun _ _ _ h=>h) (Or.inl ⟨by rfl,fun W hW=> ?hy3⟩) (by assumption) ?hr3
   case hy3=>(try dsimp only at hW);go_simp;try with_reducible rfl
   try simp only[Act.put,List.setIfInBounds_toArray,List.set_cons_zero,List.set_cons_succ]
   refine takeH 4 (some 38) (v:= ?v4) rfl rfl (by kernel_rfl) (by kernel_rfl) (by kernel_rfl) (fun _ _ _ h=>h) (Or.inl ⟨by rfl,fun W hW=> ?hy4⟩) (by assumption) ?hr4
   case hy4=>(try dsimp only at hW);go_simp;try with_reducible rfl
   try simp only[Act.put,List.setIfInBounds_toArray,List.set_cons_zero,List.set_cons_succ]
   refine takeH 5 (some 39) (v:= ?v5) rfl rfl (by kernel_rfl) (by kernel_rfl) (by kernel_rfl) (fun _ _ _ h=>h) (Or.inl ⟨by rfl,fun W hW=> ?hy5⟩) (by assumption) ?hr5
   case hy5=>(try dsimp only at hW);go_simp;try with_reducible rfl
   try simp only[Act.put,List.setIfInBounds_toArray,List.set_cons_zero,List.set_cons_succ]
   refine takeH 6 (some 40) (v:= ?v6) rfl rfl (by kernel_rfl) (by kernel_rfl) (by kernel_rfl) (fun _ _ _ h=>h) (Or.inl ⟨by rfl,fun W hW=> ?hy6⟩) (by assumption) ?hr6
   case hy6=>(try dsimp only at hW);go_simp;try with_reducible rfl
   try simp only[Act.put,List.setIfInBounds_toArray,List.set_cons_zero,List.set_cons_succ]
   refine takeH 7 (some 41) (v:= ?v7) rfl rfl (by kernel_rfl) (by kernel_rfl) (by kernel_rfl) (fun _ _ _ h=>h) (Or.inl ⟨by rfl,fun W hW=> ?hy7⟩) (by assumption) ?hr7
   case hy7=>(try dsimp only at hW);go_simp;try with_reducible rfl
   try simp only[Act.put,List.setIfInBounds_toArray,List.set_cons_zero,List.set_cons_succ]
   refine takeH 8 (some 42) (v:= ?v8) rfl rfl (by kernel_rfl) (by kernel_rfl) (by kernel_rfl) (fun _ _ _ h=>h) (Or.inl ⟨by rfl,fun W hW=> ?hy8⟩) (by assumption) ?hr8
   case hy8=>(try dsimp only at hW);go_simp;try with_reducible rfl
   try simp only[Act.put,List.setIfInBounds_toArray,List.set_cons_zero,List.set_cons_succ]
   refine takeH 9 (some 43) (v:= ?v9) rfl rfl (by kernel_rfl) (by kernel_rfl) (by kernel_rfl) (fun _ _ _ h=>h) (Or.inl ⟨by rfl,fun W hW=> ?hy9⟩) (by assumption) ?hr9
   case hy9=>(try dsimp only at hW);go_simp;try with_reducible rfl
   try simp only[Act.put,List.setIfInBounds_toArray,List.set_cons_zero,List.set_cons_succ]
   refine takeH 10 (some 44) (v:= ?v10) rfl rfl (by kernel_rfl) (by kernel_rfl) (by kernel_rfl) (fun _ _ _ h=>h) (Or.inl ⟨by rfl,fun W hW=> ?hy10⟩) (by assumption) ?hr10
   case hy10=>(try dsimp only at hW);go_simp;try with_reducible rfl
   try simp only[Act.put,List.setIfInBounds_toArray,List.set_cons_zero,List.set_cons_succ]
   refine takeH 11 (some 45) (v:= ?v11) rfl rfl (by kernel_rfl) (by kernel_rfl) (by kernel_rfl) (fun _ _ _ h=>h) (Or.inl ⟨by rfl,fun W hW=> ?hy11⟩) (by assumption) ?hr11
   case hy11=>(try dsimp only at hW);go_simp;try with_reducible rfl
   try simp only[Act.put,List.setIfInBounds_toArray,List.set_cons_zero,List.set_cons_succ]
   refine takeH 12 (some 46) (v:= ?v12) rfl rfl (by kernel_rfl) (by kernel_rfl) (by kernel_rfl) (fun _ _ _ h=>h) (Or.inl ⟨by rfl,fun W hW=> ?hy12⟩) (by assumption) ?hr12
   case hy12=>(try dsimp only at hW);go_simp;try with_reducible rfl
   try simp only[Act.put,List.setIfInBounds_toArray,List.set_cons_zero,List.set_cons_succ]
   refine takeH 13 (some 47) (v:= ?v13) rfl rfl (by kernel_rfl) (by kernel_rfl) (by kernel_rfl) (fun _ _ _ h=>h) (Or.inl ⟨by rfl,fun W hW=> ?hy13⟩) (by assumption) ?hr13
   case hy13=>(try dsimp only at hW);go_simp;try with_reducible rfl
   try simp only[Act.put,List.setIfInBounds_toArray,List.set_cons_zero,List.set_cons_succ]
   refine takeH 14 (some 48) (v:= ?v14) rfl rfl (by kernel_rfl) (by kernel_rfl) (by kernel_rfl) (fun _ _ _ h=>h) (Or.inl ⟨by rfl,fun W hW=> ?hy14⟩) (by assumption) ?hr14
   case hy14=>(try dsimp only at hW);go_simp;try with_reducible rfl
   try simp only[Act.put,List.setIfInBounds_toArray,List.set_cons_zero,List.set_cons_succ]
   refine wpAnyH_ready (rs:=[1,15]) (by kernel_rfl) (by simp) ?_
   refine readyH (some 35) rfl rfl (fun K hK=> ?_) (readyH (some 49) rfl rfl (fun K hK=> ?_) AllReadyH.nil)
   ·clear hHeld
    go_simp
    refine hK _ _ (HS.out _ gW) (fun hHeld=> ?_)
    clear hK K
    try simp only[Act.put,List.setIfInBounds_toArray,List.set_cons_zero,List.set_cons_succ]
    refine wpAnyH_ready (rs:=[15]) (by kernel_rfl) (by simp) ?_
    refine readyH (some 49) rfl rfl (fun K hK=> ?_) AllReadyH.nil
    go_simp
    rw[←HWA.out]
    refine hK _ _ (HS.out _ gA) (fun hHeld=> ?_)
    clear hK K
    try simp only[Act.put,List.setIfInBounds_toArray,List.set_cons_zero,List.set_cons_succ]
    refine wpAnyH_ready (rs:=[16]) (by kernel_rfl) (by simp) ?_
    refine readyH (some 50) rfl rfl (fun K hK=> ?_) AllReadyH.nil
    go_simp
    refine hK _ _ (HS.out _ g5) (fun hHeld=> ?_)
    clear hK K
    try simp only[Act.put,List.setIfInBounds_toArray,List.set_cons_zero,List.set_cons_succ]
    refine takeH 17 (some 51) (v:= ?v15) rfl rfl (by kernel_rfl) (by kernel_rfl) (by kernel_rfl) (fun _ _ _ h=>h) (Or.inl ⟨by rfl,fun W hW=> ?hy15⟩) (by assumption) ?hr15
    case hy15=>(try dsimp only at hW);go_simp;try with_reducible rfl
    try simp only[Act.put,List.setIfInBounds_toArray,List.set_cons_zero,List.set_cons_succ]
    refine wpAnyH_ready (rs:=[18]) (by kernel_rfl) (by simp) ?_
    refine readyH none rfl rfl (fun K hK=> ?_) AllReadyH.nil
    go_simp
    refine hK _ _ (HS.out _ gg6) (fun hHeld=> ?_)
    clear hK K
    try simp only[Act.put,List.setIfInBounds_toArray,List.set_cons_zero,List.set_cons_succ]
    refine wpAnyH_done (by kernel_rfl) ?_ _
    go_wp2
    go_roundw
    case rel=>exact⟨k+1,_,by omega,by go_num,HK6,HO6,gg6⟩
    case measure=>first|(simp[intOf];done)|(simp[intOf];omega)
   ·clear hHeld
    go_simp
    rw[←HWA.out]
    refine hK _ _ (HS.out _ gA) (fun hHeld=> ?_)
    clear hK K
    try simp only[Act.put,List.setIfInBounds_toArray,List.set_cons_zero,List.set_cons_succ]
    refine wpAnyH_ready (rs:=[1]) (by kernel_rfl) (by simp) ?_
    refine readyH (some 35) rfl rfl (fun K hK=> ?_) AllReadyH.nil
    go_simp
    refine hK _ _ (HS.out _ gA) (fun hHeld=> ?_)
    clear hK K
    try simp only[Act.put,List.setIfInBounds_toArray,List.set_cons_zero,List.set_cons_succ]
    refine wpAnyH_ready (rs:=[16]) (by kernel_rfl) (by simp) ?_
    refine readyH (some 50) rfl rfl (fun K hK=> ?_) AllReadyH.nil
    go_simp
    refine hK _ _ (HS.out _ g5) (fun hHeld=> ?_)
    clear hK K
    try simp only[Act.put,List.setIfInBounds_toArray,List.set_cons_zero,List.set_cons_succ]
    refine takeH 17 (some 51) (v:= ?v16) rfl rfl (by kernel_rfl) (by kernel_rfl) (by kernel_rfl) (fun _ _ _ h=>h) (Or.inl ⟨by rfl,fun W hW=> ?hy16⟩) (by assumption) ?hr16
    case hy16=>(try dsimp only at hW);go_simp;try with_reducible rfl
    try simp only[Act.put,List.setIfInBounds_toArray,List.set_cons_zero,List.set_cons_succ]
    refine wpAnyH_ready (rs:=[18]) (by kernel_rfl) (by simp) ?_
    refine readyH none rfl rfl (fun K hK=> ?_) AllReadyH.nil
    go_simp
    refine hK _ _ (HS.out _ gg6) (fun hHeld=> ?_)
    clear hK K
    try simp only[Act.put,List.setIfInBounds_toArray,List.set_cons_zero,List.set_cons_succ]
    refine wpAnyH_done (by kernel_rfl) ?_ _
    go_wp2
    go_roundw
    case rel=>exact⟨k+1,_,by omega,by go_num,HK6,HO6,gg6⟩
    case measure=>first|(simp[intOf];done)|(simp[intOf];omega)
  ·obtain rfl:k=x.held.length:=by omega
   have ho:=HO.out
   rw[List.take_length]at ho
   obtain⟨A',c',rfl,_⟩:=own_seg layH ho
   have l5:=ld_row HB.out Tryz.underlying54 rfl info_lot
   have k8:wr.heap[w.heap.size]?=some (.cells zcL 54 (0,0)):=(hg.block _ (by omega) (by simp)).trans ((b3.block _ (by omega)).trans k02)
   obtain⟨W7,st7,k7,g7⟩:=st_row wr w.heap.size 54 54 zcL #[.int .i64 n,.int .i64 x.size,.slice A' x.held.length c'] k8 info_lot rfl (by simp[Value.oneCell'])
   have l7:=ld_row k7 Tryz.underlying54 rfl info_lot
   have o7:=ho.kept g7 (by
    cases e:(Value.slice A' x.held.length c').ownBlock with
    |none=>exact .inl rfl
    |some g=>
     right
     have:=(ho.lt g e).1
     simp
     omega)
   obtain⟨A2,c2,e2,hs2,hc2,hf2⟩:=own_seg layH o7
   cases e2
   have b7:Below w.heap.size w W7:=(bw3.grown hg bw3.size (fun k e=>by cases e;omega)).grown g7 (by omega) (fun k e=>by cases e;exact Nat.le_refl _)
   have HS:=Lib.hid hs2
   have HC:=Lib.hid (own_cells o7)
   clear ho HO o7 hs2 HB
   go_wp2
   refine bodyPost_ret (v:=.agg #[.int .i64 n,.int .i64 x.size,.slice A' x.held.length c']) (by simp[results,Tryz.results132,go_sem,l7]) rfl ?_
   exact⟨A',c',rfl,HS.out,hc2,fun a ha=>by have:=hf2 a ha;omega,b7,HC.out⟩
end Go.Proofs.YtcffonnijhhhiaaGreatDoor
namespace Go.Proofs.YtcffonnijhhhiaaGreatDoor
open Go Go.RowKit Go.Maps Mp Go.Shelf
theorem sorted_le (l:List Int):SortedOf (fun x y:Int=>x≤y) l (l.mergeSort fun x y=>decide (x≤y)):=by
 refine⟨List.mergeSort_perm _ _,(List.pairwise_mergeSort (fun x y z h1 h2=> ?_) (fun x y=> ?_) l).imp fun {x y} h=>by simpa using h,by simp⟩
 ·simp only[decide_eq_true_eq]at*;omega
 ·simp only[Bool.or_eq_true,decide_eq_true_eq];omega
theorem sortS_a {n₀:Nat}(A:Option Addr)(c:Nat)(l:List Int)(w:World)(ho:w.ownsRow n₀ 3 1 (.slice A l.length c) l.length (l.flatMap encInt))(hm:l.length≤3000000000000):
  Calls Tryz.prog 134 #[.slice A l.length c] w fun e w' => e = .returned (.tuple #[]) ∧ ∃ l', SortedOf (fun x y : Int => x ≤ y) l l' ∧ w'.ownsRow n₀ 3 1 (.slice A l'.length c) l'.length (l'.flatMap encInt) ∧ w.grownBy w' (A.map (·.block)) := by
 rcases ho.2 with ⟨h2,h3⟩|⟨g,cap,cur,h2,hb,hg,hle,hmx,hcs,htk⟩
 ·cases l with
  |cons x l=>simp at h3
  |nil=>
   cases h2
   refine(Tryz.slices_Sort_int_none none 0 w).mono ?_
   rintro e w' ⟨rfl,rfl⟩
   exact⟨rfl,[],⟨List.Perm.refl _,.nil,rfl⟩,World.ownsRow_nil _ _ _ _,⟨rfl,rfl,rfl,Nat.le_refl _,fun _ _ _=>rfl⟩⟩
 ·cases h2
  have hblk:g<w.heap.size:=(Array.getElem?_eq_some_iff.1 hg).1
  have hH:Sort.Holds (Value.int .i64) w g 0 l.toArray:=Go.holds_of_blockI hg (by
   rw[Nat.mul_one]at htk
   rw[htk,flat_int])
  refine(Tryz.slices_Sort_int g 0 c l w hH hblk (by omega)).mono ?_
  rintro e w' ⟨rfl,m,os,rfl⟩
  have hs:=sorted_le l
  generalize (l.mergeSort fun x y=>decide (x≤y))=l' at hs ⊢
  have hlen:=hs.2.2
  have:=Go.ownsRow_sortedI (n:=m) (os:=os) (ss:=l) (ts:=l') hlen hb hg hle hmx hcs
  refine⟨rfl,l',hs,?_,Go.grownBy_sortedI _⟩
  rw[flat_int,hlen]
  exact this
end Go.Proofs.YtcffonnijhhhiaaGreatDoor
namespace Go.Proofs.Rt
def words :List (List UInt8):=[[],[101,110,116,101,114],[103,114,97,110,116],[100,105,118,105,100,101],[109,101,114,103,101],[119,97,121],[114,101,108,101,97,115,101],[115,116,105,110,116],[101,110,100]]
def word (k:Nat):List UInt8:=words.getD k []
end Go.Proofs.Rt
namespace Go.Proofs.YtcffonnijhhhiaaGreatDoor
open Go Go.RowKit
theorem idx_word (k:Nat)(hk:k≤8)(w:World):(Instr.index 176 (.agg #[.string {data:= #[]},.string {data:= #[101,110,116,101,114]},.string {data:= #[103,114,97,110,116]},.string {data:= #[100,105,118,105,100,101]},.string {data:= #[109,101,114,103,101]},
  .string {data:= #[119,97,121]},.string {data:= #[114,101,108,101,97,115,101]},.string {data:= #[115,116,105,110,116]},.string {data:= #[101,110,100]}]) (.int .u8 (k:Int))).run Tryz.prog w=.ok (.string ⟨(Rt.word k).toArray⟩) w:=by
 obtain rfl|rfl|rfl|rfl|rfl|rfl|rfl|rfl|rfl:k=0∨k=1∨k=2∨k=3∨k=4∨k=5∨k=6∨k=7∨k=8:=by omega
 all_goals kernel_rfl
set_option maxRecDepth 100000 in
set_option maxHeartbeats 1000000 in
theorem word_a (k:Nat)(hk:k≤8)(w:World):Calls Tryz.prog 87 #[.int .u8 k] w fun e w'=>e=.returned (.string ⟨(Rt.word k).toArray⟩)∧w'=w:=by
 have hix:=idx_word k hk w
 go_enter Tryz.func87,Tryz.ntmps87
 go_wp2
 go_ret
 exact⟨rfl,rfl⟩
end Go.Proofs.YtcffonnijhhhiaaGreatDoor
namespace Go.Proofs
open Go.Shelf
def Tryz.laysM171_ren :Go.Shelf.Ren:=⟨fun|171=>86|243=>157|246=>204|283=>243|284=>244|285=>245|286=>246|129=>239|317=>276|318=>277|319=>278|320=>279|337=>308|338=>309|n=>n,fun|3=>3|9=>9|2=>2|4=>4|171=>260|0=>0|53=>256|37=>179|5=>5|173=>262|212=>287|51=>254|20=>20|213=>288|46=>208|232=>332|233=>333|n=>n,fun|17=>2|18=>6|19=>7|n=>n⟩
theorem Tryz.laysM171 :Go.Proofs.LaysM.n171 Tryz.prog Tryz.laysM171_ren:= {
 mixed:=by kernel_rfl
 f129:=Tryz.func239.trans (congrArg some (by kernel_rfl))
 f171:=Tryz.func86.trans (congrArg some (by kernel_rfl))
 f243:=Tryz.func157.trans (congrArg some (by kernel_rfl))
 f246:=Tryz.func204.trans (congrArg some (by kernel_rfl))
 f283:=Tryz.func243.trans (congrArg some (by kernel_rfl))
 f284:=Tryz.func244.trans (congrArg some (by kernel_rfl))
 f285:=Tryz.func245.trans (congrArg some (by kernel_rfl))
 f286:=Tryz.func246.trans (congrArg some (by kernel_rfl))
 f317:=Tryz.func276.trans (congrArg some (by kernel_rfl))
 f318:=Tryz.func277.trans (congrArg some (by kernel_rfl))
 f319:=Tryz.func278.trans (congrArg some (by kernel_rfl))
 f320:=Tryz.func279.trans (congrArg some (by kernel_rfl))
 f337:=Tryz.func308.trans (congrArg some (by kernel_rfl))
 f338:=Tryz.func309.trans (congrArg some (by kernel_rfl))
 t0:=Tryz.underlying0
 a0:=Tryz.isAgg0
 z0:=Tryz.sizeOf0
 v0:=Tryz.zeroValue0
 t2:=Tryz.underlying2
 a2:=Tryz.isAgg2
 z2:=Tryz.sizeOf2
 v2:=Tryz.zeroValue2
 t3:=Tryz.underlying3
 a3:=Tryz.isAgg3
 z3:=Tryz.sizeOf3
 v3:=Tryz.zeroValue3
 t4:=Tryz.underlying4
 a4:=Tryz.isAgg4
 z4:=Tryz.sizeOf4
 v4:=Tryz.zeroValue4
 t5:=Tryz.underlying5
 a5:=Tryz.isAgg5
 z5:=Tryz.sizeOf5
 v5:=Tryz.zeroValue5
 t9:=Tryz.underlying9
 a9:=Tryz.isAgg9
 z9:=Tryz.sizeOf9
 v9:=Tryz.zeroValue9
 t20:=Tryz.underlying20
 a20:=Tryz.isAgg20
 z20:=Tryz.sizeOf20
 v20:=Tryz.zeroValue20
 t37:=Tryz.underlying179
 a37:=Tryz.isAgg179
 z37:=Tryz.sizeOf179
 v37:=Tryz.zeroValue179
 t46:=Tryz.underlying208
 a46:=Tryz.isAgg208
 z46:=Tryz.sizeOf208
 v46:=Tryz.zeroValue208
 t51:=Tryz.underlying254
 a51:=Tryz.isAgg254
 z51:=Tryz.sizeOf254
 v51:=Tryz.zeroValue254
 t53:=Tryz.underlying256
 a53:=Tryz.isAgg256
 z53:=Tryz.sizeOf256
 v53:=Tryz.zeroValue256
 t171:=Tryz.underlying260
 a171:=Tryz.isAgg260
 z171:=Tryz.sizeOf260
 v171:=Tryz.zeroValue260
 t173:=Tryz.underlying262
 a173:=Tryz.isAgg262
 z173:=Tryz.sizeOf262
 v173:=Tryz.zeroValue262
 t212:=Tryz.underlying287
 a212:=Tryz.isAgg287
 z212:=Tryz.sizeOf287
 v212:=Tryz.zeroValue287
 t213:=Tryz.underlying288
 a213:=Tryz.isAgg288
 z213:=Tryz.sizeOf288
 t232:=Tryz.underlying332
 a232:=Tryz.isAgg332
 z232:=Tryz.sizeOf332
 v232:=Tryz.zeroValue332
 t233:=Tryz.underlying333
 a233:=Tryz.isAgg333
 z233:=Tryz.sizeOf333
 v233:=Tryz.zeroValue333
 g17:=by kernel_rfl
 g18:=by kernel_rfl
 g19:=by kernel_rfl
 i0:=by kernel_rfl
 i2:=by kernel_rfl
 i3:=by kernel_rfl
 i4:=by kernel_rfl
 i5:=by kernel_rfl
 i9:=by kernel_rfl
 i20:=by kernel_rfl
 i37:=by kernel_rfl
 i46:=by kernel_rfl
 i51:=by kernel_rfl
 i53:=by kernel_rfl
 i171:=by kernel_rfl
 i173:=by kernel_rfl
 i212:=by kernel_rfl
 i232:=by kernel_rfl
 i233:=by kernel_rfl
 m17:=by kernel_rfl
 m18:=by kernel_rfl
 m19:=by kernel_rfl}
open Go.RowKit Go.Sort Go.Lib in
theorem Tryz.strconv_Itoa (n:Int)(h0: -9223372036854775808≤n)(h1:n≤9223372036854775807)(w:World)(htab:Lib.TabIs Tryz.prog w "internal/strconv.uint64pow10" .u64 Lib.pow10Tab):
  Calls Tryz.prog 86 #[.int .i64 n] w fun e w'=>e=.returned (.string ⟨(Lib.itoa n).toArray⟩)∧ ∃k os,w'=grow (w.drewN k) os:=Any.strconv_Itoa Tryz.laysM171 n h0 h1 w htab
def Tryz.lays146_ren :Go.Shelf.Ren:=⟨fun|146=>91|221=>160|268=>205|138=>206|143=>207|195=>247|197=>248|218=>249|219=>250|260=>280|217=>281|225=>282|224=>283|267=>284|266=>310|314=>311|n=>n,fun|9=>9|31=>89|3=>3|4=>4|0=>0|105=>264|21=>21|5=>5|46=>208|119=>313|139=>316|138=>315|146=>317|51=>254|n=>n,fun|1=>3|3=>4|4=>5|n=>n⟩
theorem Tryz.lays146 :Go.Proofs.Lays.n146 Tryz.prog Tryz.lays146_ren:= {
 mixed:=by kernel_rfl
 f138:=Tryz.func206.trans (congrArg some (by kernel_rfl))
 f143:=Tryz.func207.trans (congrArg some (by kernel_rfl))
 f146:=Tryz.func91.trans (congrArg some (by kernel_rfl))
 f195:=Tryz.func247.trans (congrArg some (by kernel_rfl))
 f197:=Tryz.func248.trans (congrArg some (by kernel_rfl))
 f217:=Tryz.func281.trans (congrArg some (by kernel_rfl))
 f218:=Tryz.func249.trans (congrArg some (by kernel_rfl))
 f219:=Tryz.func250.trans (congrArg some (by kernel_rfl))
 f221:=Tryz.func160.trans (congrArg some (by kernel_rfl))
 f224:=Tryz.func283.trans (congrArg some (by kernel_rfl))
 f225:=Tryz.func282.trans (congrArg some (by kernel_rfl))
 f260:=Tryz.func280.trans (congrArg some (by kernel_rfl))
 f266:=Tryz.func310.trans (congrArg some (by kernel_rfl))
 f267:=Tryz.func284.trans (congrArg some (by kernel_rfl))
 f268:=Tryz.func205.trans (congrArg some (by kernel_rfl))
 f314:=Tryz.func311.trans (congrArg some (by kernel_rfl))
 t0:=Tryz.underlying0
 a0:=Tryz.isAgg0
 z0:=Tryz.sizeOf0
 v0:=Tryz.zeroValue0
 t3:=Tryz.underlying3
 a3:=Tryz.isAgg3
 z3:=Tryz.sizeOf3
 v3:=Tryz.zeroValue3
 t4:=Tryz.underlying4
 a4:=Tryz.isAgg4
 z4:=Tryz.sizeOf4
 v4:=Tryz.zeroValue4
 t5:=Tryz.underlying5
 a5:=Tryz.isAgg5
 z5:=Tryz.sizeOf5
 v5:=Tryz.zeroValue5
 t9:=Tryz.underlying9
 a9:=Tryz.isAgg9
 z9:=Tryz.sizeOf9
 v9:=Tryz.zeroValue9
 t21:=Tryz.underlying21
 a21:=Tryz.isAgg21
 z21:=Tryz.sizeOf21
 v21:=Tryz.zeroValue21
 t31:=Tryz.underlying89
 a31:=Tryz.isAgg89
 z31:=Tryz.sizeOf89
 v31:=Tryz.zeroValue89
 t46:=Tryz.underlying208
 a46:=Tryz.isAgg208
 z46:=Tryz.sizeOf208
 v46:=Tryz.zeroValue208
 t51:=Tryz.underlying254
 a51:=Tryz.isAgg254
 z51:=Tryz.sizeOf254
 v51:=Tryz.zeroValue254
 t105:=Tryz.underlying264
 a105:=Tryz.isAgg264
 z105:=Tryz.sizeOf264
 v105:=Tryz.zeroValue264
 t119:=Tryz.underlying313
 a119:=Tryz.isAgg313
 z119:=Tryz.sizeOf313
 t138:=Tryz.underlying315
 a138:=Tryz.isAgg315
 z138:=Tryz.sizeOf315
 v138:=Tryz.zeroValue315
 t139:=Tryz.underlying316
 a139:=Tryz.isAgg316
 z139:=Tryz.sizeOf316
 v139:=Tryz.zeroValue316
 t146:=Tryz.underlying317
 a146:=Tryz.isAgg317
 z146:=Tryz.sizeOf317
 v146:=Tryz.zeroValue317
 g1:=by kernel_rfl
 g3:=by kernel_rfl
 g4:=by kernel_rfl}
open Go.RowKit Go.Lib in
theorem Tryz.strings_Split (s sep:ByteArray)(m:Int)(w:World)(hs:s.size<4294967281)(hm:w.cell? ⟨3,0,none⟩=some (.int .i64 m))(h1:1≤sep.size):
  Calls Tryz.prog 91 #[.string s,.string sep] w fun e w'=>
   e=.returned (.slice (some ⟨w.heap.size,0,none⟩) (Lib.countB s sep+1) (Lib.countB s sep+1))∧w'=w.alloc (.cells ((Lib.splitB sep 0 (Lib.countB s sep) s).map Value.string).toArray 9):=Any.strings_Split Tryz.lays146 (by kernel_rfl) s sep m w hs hm h1
end Go.Proofs
namespace Go.Proofs.Rt
def pairs :List Int→List Int→List Int
 |a::l,b::m=>a::b::pairs l m
 |_,_=>[]
theorem pairs_snoc {l m:List Int}(h:l.length=m.length)(a b:Int):pairs (l++[a]) (m++[b])=pairs l m++[a,b]:=by
 induction l generalizing m with
 |nil=>
  cases m with
  |nil=>rfl
  |cons _ _=>cases h
 |cons x l ih=>
  cases m with
  |nil=>cases h
  |cons y m=>simp only[List.cons_append,pairs,ih (by simpa using h)]
def nums (x:Deal):List Int:=x.lot::(if x.kind=1∨x.kind=7 then [x.to,x.size]else if x.kind=2 then [x.fr,x.to,x.parts]else if x.kind=3 then pairs x.into x.sizes else if x.kind=4 then x.into
 else if x.kind=5∨x.kind=6 then [x.other]else if x.kind=8 then [x.to]else [])
def head (x:Deal):List UInt8:=Lib.itoa x.id++[32]++Lib.itoa x.day++[32]++word x.kind
def row (x:Deal):List UInt8:=head x++(nums x).flatMap fun n=>[32]++Lib.itoa n
end Go.Proofs.Rt
namespace Go.Proofs.Rt
theorem pairs_mem : ∀ {l m:List Int} {n:Int},n∈pairs l m→n∈l∨n∈m
 |a::l,b::m,n,h=>by
  simp only[pairs,List.mem_cons]at h
  rcases h with rfl|rfl|h
  ·simp
  ·simp
  ·rcases pairs_mem h with h|h<;>simp[h]
 | [],_,_,h=>by simp[pairs]at h
 |_::_,[],_,h=>by simp[pairs]at h
theorem pairs_len : ∀(l m:List Int),(pairs l m).length≤2*l.length
 |a::l,b::m=>by have:=pairs_len l m;simp only[pairs,List.length_cons];omega
 | [],_=>by simp[pairs]
 |_::_,[]=>by simp[pairs]
structure NumsIn (x:Deal):Prop where
 k1:1≤x.kind
 k8:x.kind≤8
 li:x.into.length≤10
 same:x.kind=3→x.sizes.length=x.into.length
 len:(nums x).length≤21
 each: ∀n∈nums x,0≤n∧n≤10000000000
 id:0≤x.id∧x.id≤1000000
 day:0≤x.day∧x.day≤100000
theorem inR_iff' {n a b:Int}:inR n a b=true↔a≤n∧n≤b:=by simp[inR]
theorem nums_in {x:Deal}(h:formed x=true):NumsIn x:=by
 obtain⟨id,day,kind,lot,other,fr,tt,parts,size,into,sizes⟩:=x
 have hk:kind=1∨kind=2∨kind=3∨kind=4∨kind=5∨kind=6∨kind=7∨kind=8:=by
  rcases kind with _|_|_|_|_|_|_|_|_|n
  ·simp[formed]at h
  all_goals first|omega|skip
  simp[formed]at h
 obtain rfl|rfl|rfl|rfl|rfl|rfl|rfl|rfl:=hk
 all_goals simp only[formed,isId,only,Bool.and_eq_true,inR_iff',Bool.true_or,Bool.false_or,beq_iff_eq,true_and,and_true]at h
 all_goals try rw[lotsOk_iff]at h
 case inr.inr.inl=>
  obtain⟨⟨⟨h1,h2⟩,h3⟩,⟨⟨h4,⟨h5,h5'⟩,h6,h7⟩,h8⟩,h9⟩:=h
  rw[List.all_eq_true]at h9
  have hl:=pairs_len into sizes
  refine⟨by simp,by simp,h5',fun _=>h8,?_,?_,by dsimp only;omega,by dsimp only;omega⟩
  ·simp only[nums];simp;omega
  ·intro n hn
   simp only[nums]at hn
   simp at hn
   rcases hn with rfl|hn
   ·constructor<;>omega
   ·rcases pairs_mem hn with hn|hn
    ·have:=h6 n hn;constructor<;>omega
    ·have:=h9 n hn;rw[inR_iff']at this;constructor<;>omega
 case inr.inr.inr.inl=>
  obtain⟨⟨⟨h1,h2⟩,h3⟩,h4,⟨h5,h5'⟩,h6,h7⟩:=h
  refine⟨by simp,by simp,h5',by simp,?_,?_,by dsimp only;omega,by dsimp only;omega⟩
  ·simp only[nums];simp;omega
  ·intro n hn
   simp only[nums]at hn
   simp at hn
   rcases hn with rfl|hn
   ·constructor<;>omega
   ·have:=h6 n hn;constructor<;>omega
 all_goals
  refine⟨by simp,by simp,by simp[h],by simp,by simp[nums],?_,by dsimp only;omega,by dsimp only;omega⟩
  intro n hn
  simp only[nums]at hn
  simp at hn
  try simp at h
  omega
end Go.Proofs.Rt
namespace Go.Proofs.Rt
def isNum (l:List UInt8):Option Int:=match Go.Lib.atoiAll l with| .ok v=>some v|_=>none
def num (l:List UInt8):Int:=(isNum l).getD 0
def fine (w:List (List UInt8)):Bool:=(List.range w.length).all fun j=>j==2||(isNum (w.getD j [])).isSome
def kindTo (wd:List UInt8):Nat→Nat
 |0=>0
 |k+1=>if word (k+1)=wd then k+1 else kindTo wd k
def odd :List Int→List Int×List Int
 |a::b::l=>(a::(odd l).1,b::(odd l).2)
 |_=>([],[])
def made (ns:List Int)(k:Nat):Deal:=
 ⟨ns.getD 0 0,ns.getD 1 0,k,ns.getD 3 0,if k=5∨k=6 then (ns.drop 4).getD 0 0 else 0,if k=2 then (ns.drop 4).getD 0 0 else 0,
  if k=1∨k=7∨k=8 then (ns.drop 4).getD 0 0 else if k=2 then (ns.drop 4).getD 1 0 else 0,if k=2 then (ns.drop 4).getD 2 0 else 0,if k=1∨k=7 then (ns.drop 4).getD 1 0 else 0,
  if k=3 then (odd (ns.drop 4)).1 else if k=4 then ns.drop 4 else [],if k=3 then (odd (ns.drop 4)).2 else []⟩
def noDeal :Deal:=⟨0,0,0,0,0,0,0,0,0,[],[]⟩
def readW (w:List (List UInt8)):Deal:=made (w.map num) (kindTo (w.getD 2 []) 8)
def readOk (s:List UInt8)(w:List (List UInt8)):Bool:=decide (4≤w.length)&&decide (w.length≤24)&&fine w&&formed (readW w)&&decide (row (readW w)=s)
def read (s:List UInt8):Deal×Int:=if readOk s (Go.Lib.split s [32])then (readW (Go.Lib.split s [32]),0)else (noDeal,4)
theorem kindTo_le (wd:List UInt8): ∀k,kindTo wd k≤k
 |0=>Nat.le_refl _
 |k+1=>by
  unfold kindTo
  split
  ·exact Nat.le_refl _
  ·exact Nat.le_succ_of_le (kindTo_le wd k)
theorem getD_congr {a b:List Int}(h: ∀i,i≠2→a[i]?=b[i]?){i:Nat}(hi:i≠2):a.getD i 0=b.getD i 0:=by
 rw[List.getD_eq_getElem?_getD,List.getD_eq_getElem?_getD,h i hi]
theorem made_congr {a b:List Int}(h: ∀i,i≠2→a[i]?=b[i]?)(k:Nat):made a k=made b k:=by
 have hd:a.drop 4=b.drop 4:=by
  apply List.ext_getElem?
  intro i
  rw[List.getElem?_drop,List.getElem?_drop,h _ (by omega)]
 unfold made
 rw[hd,getD_congr h (i:=0) (by decide),getD_congr h (i:=1) (by decide),getD_congr h (i:=3) (by decide)]
theorem odd_len : ∀l,(odd l).1.length=(odd l).2.length∧2*(odd l).1.length≤l.length
 | []=>by simp[odd]
 | [_]=>by simp[odd]
 |a::b::l=>by
  have:=odd_len l
  simp only[odd,List.length_cons]
  omega
theorem odd_next : ∀(j:Nat) (l:List Int),2*j+1<l.length→(odd (l.take (2*(j+1)))).1=(odd (l.take (2*j))).1++[l.getD (2*j) 0]∧(odd (l.take (2*(j+1)))).2=(odd (l.take (2*j))).2++[l.getD (2*j+1) 0]
 |_,[],h=>by simp at h
 |_,[_],h=>by simp at h
 |0,a::b::l,_=>by simp[odd]
 |j+1,a::b::l,h=>by
  have ih:=odd_next j l (by simp at h;omega)
  rw[show 2*(j+1+1)=2*(j+1)+1+1 by omega,show 2*(j+1)=2*j+1+1 by omega]
  simp only[List.take_succ_cons,odd]
  rw[show 2*j+1+1=2*(j+1) by omega,ih.1,ih.2]
  simp[show 2*(j+1)=2*j+1+1 by omega]
theorem odd_all : ∀(j:Nat) (l:List Int),l.length≤2*j+1→odd (l.take (2*j))=odd l
 |_,[],_=>by simp
 |0,[_],_=>by simp[odd]
 |j+1,[_],_=>by rw[show 2*(j+1)=2*j+1+1 by omega];simp
 |0,a::b::l,h=>by simp at h
 |j+1,a::b::l,h=>by
  have ih:=odd_all j l (by simp at h;omega)
  rw[show 2*(j+1)=2*j+1+1 by omega]
  simp only[List.take_succ_cons,odd,ih]
theorem fine_iff {w:List (List UInt8)}:fine w=true↔ ∀j,j<w.length→j≠2→(isNum (w.getD j [])).isSome=true:=by
 unfold fine
 simp only[List.all_eq_true,List.mem_range,Bool.or_eq_true,beq_iff_eq]
 exact⟨fun h j hj h2=>(h j hj).resolve_left h2,fun h j hj=>(Decidable.em (j=2)).imp_right fun h2=>h j hj h2⟩
end Go.Proofs.Rt
