/- Part U26 of the proof: Sq Pr Gw Cc. -/
import Derived.Test.YtcffonnijhhhiaaGreatDoorProg
import Derived.WalkKit
import Derived.WalkLawsBesides
import Derived.WalkSpells
import Derived.Handy
import Derived.Lib.Hide
import Derived.Great.BuildSlice
import Derived.Deep.QuietTactic
import Derived.BigQuiet
import Derived.Deep.RegionHeld3
import Derived.Deep.DeepCutAuto
import Derived.Shelf.Spec.SlicesGrow
import Derived.Ground.Names8Prog
import Derived.Laws.OwnMore
import Derived.Test.YtcffonnijhhhiaaGreatDoorU24
import Derived.Test.YtcffonnijhhhiaaGreatDoorU25
import Derived.Test.YtcffonnijhhhiaaGreatDoorU15
import Derived.Test.YtcffonnijhhhiaaGreatDoorU23
set_option linter.all false
set_option linter.unusedSimpArgs false
set_option linter.unusedVariables false
set_option linter.unusedSectionVars false
namespace Go.Proofs.Rt
structure Few (r:Roll):Prop where
 lots:r.lots.length≤2000000
 eases:r.eases.length≤3000000000000
 stints:r.stints.length≤3000000000000
 held: ∀p∈r.lots,p.held.length≤2000000
end Go.Proofs.Rt
namespace Go.Proofs.YtcffonnijhhhiaaGreatDoor
open Go Go.RowKit Go.Maps Mp
attribute [-simp] Prod.forall Prod.exists
attribute [-go_sem] loadVar storeVar run_equalIn_agg Builtin.append_
attribute [local go_sem] lk_int lk_sL lk_sE lk_sS
abbrev rowR (r:Rt.Roll)(A1 A2 A3:Option Addr)(c1 c2 c3:Nat):Array Value:= #[.slice A1 r.lots.length c1,.slice A2 r.eases.length c2,.slice A3 r.stints.length c3]
section
variable {w w' : World} {A1 A2 A3 : Option Addr} {L : List Lp} {r : Rt.Roll}
theorem Rol.up (h:Rol w w.heap.size A1 A2 A3 L r)(hb:Below w.heap.size w w'):Rol w' w'.heap.size A1 A2 A3 L r:=
 ⟨h.lots.up hb,h.is,h.eases.up hb,h.stints.up hb⟩
theorem Rol.llen (h:Rol w w.heap.size A1 A2 A3 L r):L.length=r.lots.length:=by rw[←h.is];simp
theorem Rol.held (h:Rol w w.heap.size A1 A2 A3 L r)(hf:Rt.Few r){p:Lp}(hp:p∈L):p.x.held.length≤2000000:=hf.held _ (by rw[←h.is];exact List.mem_map_of_mem hp)
end
set_option maxRecDepth 100000 in
set_option maxHeartbeats 2000000 in
theorem sameR_a (A1 A2 A3 B1 B2 B3:Option Addr)(c1 c2 c3 d1 d2 d3:Nat)(L M:List Lp)(r s:Rt.Roll)(w:World)(hr:Rol w w.heap.size A1 A2 A3 L r)(hs:Rol w w.heap.size B1 B2 B3 M s)(fr:Rt.Few r)(fs:Rt.Few s):
  Calls Tryz.prog 42 #[.agg (rowR r A1 A2 A3 c1 c2 c3),.agg (rowR s B1 B2 B3 d1 d2 d3)] w fun e w'=>e=.returned (.bool (Rt.sameR r s))∧Below w.heap.size w w':=by
 have b1:Below w.heap.size w ((w.alloc (.cells (rowR r A1 A2 A3 c1 c2 c3) 50 (0,0))).alloc (.cells (rowR s B1 B2 B3 d1 d2 d3) 50 (0,0))):=by go_grown
 have k1:((w.alloc (.cells (rowR r A1 A2 A3 c1 c2 c3) 50 (0,0))).alloc (.cells (rowR s B1 B2 B3 d1 d2 d3) 50 (0,0))).heap[w.heap.size]?=some (.cells (rowR r A1 A2 A3 c1 c2 c3) 50 (0,0)):=by rw[Below.heap_alloc _ _ _ (by simp)];exact heap_at rfl
 have k2:((w.alloc (.cells (rowR r A1 A2 A3 c1 c2 c3) 50 (0,0))).alloc (.cells (rowR s B1 B2 B3 d1 d2 d3) 50 (0,0))).heap[w.heap.size+1]?=some (.cells (rowR s B1 B2 B3 d1 d2 d3) 50 (0,0)):=heap_at (by simp)
 obtain⟨W,hW⟩: ∃W,(w.alloc (.cells (rowR r A1 A2 A3 c1 c2 c3) 50 (0,0))).alloc (.cells (rowR s B1 B2 B3 d1 d2 d3) 50 (0,0))=W:=⟨_,rfl⟩
 rw[hW]at b1 k1 k2
 have hr1:=hr.up b1
 have hs1:=hs.up b1
 have e1:=eqf_L A1 B1 c1 d1 L M 110 (fun p q=>Rt.sameL p.x q.x) W hr1.lots.seg hs1.lots.seg (by rw[hr.llen];have:=fr.lots;omega) (by rw[hs.llen];have:=fs.lots;omega) (enters_of Tryz.func110 (by kernel_rfl) rfl)
  (fun p hp q hq V hV=>sameLot_a p q V (((hr1.lots.each p hp).1.below hV).more hV.size) (((hs1.lots.each q hq).1.below hV).more hV.size) (hr1.held fr hp) (hs1.held fs hq))
 have e2: ∀V,Below W.heap.size W V→_:=fun V hV=>eqf_E A2 B2 c2 d2 r.eases s.eases 112 Rt.sameE V ((hr1.eases.below hV).more hV.size) ((hs1.eases.below hV).more hV.size) fr.eases fs.eases (enters_of Tryz.func112 (by kernel_rfl) rfl) (fun p _ q _ V _=>sameEase_a p q V)
 have e3: ∀V,Below W.heap.size W V→_:=fun V hV=>eqf_S A3 B3 c3 d3 r.stints s.stints 114 Rt.sameS V ((hr1.stints.below hV).more hV.size) ((hs1.stints.below hV).more hV.size) fr.stints fs.stints (enters_of Tryz.func114 (by kernel_rfl) rfl) (fun p _ q _ V _=>sameStint_a p q V)
 rw[Rt.eqBy_map (p:=Rt.sameL) (f:=fun p:Lp=>p.x) (g:=fun p:Lp=>p.x)]at e1
 have hl1:L.map (fun p=>p.x)=r.lots:=hr.is
 have hl2:M.map (fun p=>p.x)=s.lots:=hs.is
 rw[hl1,hl2,hr.llen,hs.llen]at e1
 obtain⟨v,hv⟩: ∃v,Rt.sameR r s=v:=⟨_,rfl⟩
 rw[hv]
 unfold Rt.sameR at hv
 obtain⟨v1,hv1⟩: ∃v,Rt.eqBy Rt.sameL r.lots s.lots=v:=⟨_,rfl⟩
 obtain⟨v2,hv2⟩: ∃v,Rt.eqBy Rt.sameE r.eases s.eases=v:=⟨_,rfl⟩
 obtain⟨v3,hv3⟩: ∃v,Rt.eqBy Rt.sameS r.stints s.stints=v:=⟨_,rfl⟩
 rw[hv1]at e1 hv
 rw[hv2]at e2 hv
 rw[hv3]at e3 hv
 obtain⟨x1,_⟩:=blk_cells k1
 obtain⟨x2,_⟩:=blk_cells k2
 have hz1:=(Array.getElem?_eq_some_iff.1 k2).1
 subst hW
 have dd: ∀V,Below ((w.alloc (.cells (rowR r A1 A2 A3 c1 c2 c3) 50 (0,0))).alloc (.cells (rowR s B1 B2 B3 d1 d2 d3) 50 (0,0))).heap.size ((w.alloc (.cells (rowR r A1 A2 A3 c1 c2 c3) 50 (0,0))).alloc (.cells (rowR s B1 B2 B3 d1 d2 d3) 50 (0,0))) V→
   V.cell? ⟨w.heap.size,1,none⟩=some (.slice A2 r.eases.length c2)∧V.cell? ⟨w.heap.size+1,1,none⟩=some (.slice B2 s.eases.length d2)∧V.cell? ⟨w.heap.size,2,none⟩=some (.slice A3 r.stints.length c3)∧V.cell? ⟨w.heap.size+1,2,none⟩=some (.slice B3 s.stints.length d3):=fun V hV=>by
  have k1:=(hV.block _ (by omega)).trans k1
  have k2:=(hV.block _ hz1).trans k2
  exact⟨(blk_cells k1).1 1,(blk_cells k2).1 1,(blk_cells k1).1 2,(blk_cells k2).1 2⟩
 have y1:_=some (Value.slice A1 r.lots.length c1):=x1 0
 have y2:_=some (Value.slice B1 s.lots.length d1):=x2 0
 have E2:=Lib.hid e2
 have E3:=Lib.hid e3
 have DD:=Lib.hid dd
 have HV:=Lib.hid hv
 have B1:=Lib.hid b1
 clear x1 x2 k1 k2 e2 e3 dd hv b1 hr1 hs1 hr hs fr fs hl1 hl2 hv1 hv2 hv3
 go_enter Tryz.func42,Tryz.ntmps42
 go_wp2_with fail
 refine e1.mono ?_
 clear e1
 rintro e w2 ⟨rfl,b2⟩
 obtain⟨g1,g2,_,_⟩:=DD.out w2 b2
 have e2:=E2.out w2 b2
 cases v1 with
 |false=>
  obtain rfl:v=false:=HV.out.symm
  clear e2 g1 g2
  go_wp2
  go_ret
  exact⟨rfl,B1.out.trans (b2.mono B1.out.size)⟩
 |true=>
  go_wp2_with fail
  refine e2.mono ?_
  clear e2 g1 g2
  rintro e w3 ⟨rfl,b3⟩
  have b3':=b2.trans (b3.mono b2.size)
  obtain⟨_,_,g3,g4⟩:=DD.out w3 b3'
  have e3:=E3.out w3 b3'
  cases v2 with
  |false=>
   obtain rfl:v=false:=HV.out.symm
   clear e3 g3 g4
   go_wp2
   go_ret
   exact⟨rfl,B1.out.trans (b3'.mono B1.out.size)⟩
  |true=>
   obtain rfl:v=v3:=by have:=HV.out;simpa using this.symm
   go_wp2_with fail
   refine e3.mono ?_
   clear e3 g3 g4
   rintro e w4 ⟨rfl,b4⟩
   go_wp2
   go_ret
   exact⟨rfl,B1.out.trans ((b3'.trans (b4.mono b3'.size)).mono B1.out.size)⟩
end Go.Proofs.YtcffonnijhhhiaaGreatDoor
namespace Go.Proofs.Rt
def partR (r:Roll)(n:Int):Roll:=⟨r.lots.filter fun x=>x.number==n,r.eases.filter fun x=>x.over==n||x.of==n,r.stints.filter fun x=>x.lot==n⟩
end Go.Proofs.Rt
namespace Go.Proofs.YtcffonnijhhhiaaGreatDoor
open Go Go.RowKit Go.Maps Mp
attribute [-simp] Prod.forall Prod.exists
attribute [-go_sem] loadVar storeVar Builtin.append_
attribute [local go_sem] lk_int
section
variable {α : Type} {enc : α → List Value} {ST ET : TypeId} {z : Value} {size bytes : Nat}
theorem clone_law2 (L:Lay enc ST ET z size bytes){w:World}{l:List α}{a:Addr}{c:Nat}(h:Seg enc size w w.heap.size (some a) l)(hm:l.length≤3000000000000)(hb:bytes≤40):
  ∃A' c' w2,(Builtin.append_ #[ST,ST] ST #[.slice (some ⟨w.heap.size,0,none⟩) 0 0,.slice (some a) l.length c]).run Tryz.prog (w.alloc (.cells #[] ET))=.ok (.slice A' l.length c') w2∧
   Seg enc size w2 w2.heap.size A' l∧l.length≤c'∧From w.heap.size A'∧Below w.heap.size w w2∧(∀a',A'=some a'→ ∃cs,w2.heap[a'.block]?=some (.cells cs ET (0,0)))∧w2.ownsRow w.heap.size ET size (.slice A' l.length c') l.length (l.flatMap enc):=by
 obtain⟨i0,hi0,hz0,hz1,hz2⟩:=info_parts L.hi
 have hown0:(w.alloc (.cells #[] ET)).ownsRow w.heap.size ET size (.slice (some ⟨w.heap.size,0,none⟩) 0 0) 0 []:=
  ⟨by simp,.inr ⟨w.heap.size,0,#[],rfl,Nat.le_refl _,heap_alloc_new w _,Nat.le_refl _,by unfold maxLen;omega,by simp,by simp⟩⟩
 have hcell: ∀j u,(l.flatMap enc)[j]?=some u→(w.alloc (.cells #[] ET)).cell? (a.add j)=some u:=by
  intro j u hj
  rcases h with h|⟨b,off,hA,hbb,hc⟩
  ·subst h;simp at hj
  ·cases hA
   have hjl:j<l.length*size:=by rw[←flat_len enc size L.henc l];exact(List.getElem?_eq_some_iff.1 hj).1
   have hk:j/size<l.length:=Nat.div_lt_of_lt_mul (by rw[Nat.mul_comm];exact hjl)
   have hlt:j%size<size:=Nat.mod_lt _ L.hs
   have hv:(enc l[j/size])[j%size]?=some u:=by
    have hx:(enc l[j/size])[j%size]?=some ((enc l[j/size])[j%size]'(by rw[L.henc];exact hlt)):=List.getElem?_eq_getElem _
    have:=flat_at enc size L.henc (List.getElem?_eq_getElem hk) hx
    rw[show j/size*size+j%size=j by rw[Nat.mul_comm];exact Nat.div_add_mod j size,hj]at this
    rw[hx]
    exact this.symm
   rw[Go.WideShapes.add_plain]
   have:=hc (j/size) l[j/size] (List.getElem?_eq_getElem hk) (j%size) u hv
   rw[show off+j/size*size+j%size=off+j by have:=Nat.div_add_mod j size;rw[Nat.mul_comm]at this;omega]at this
   exact(World.cell?_of_block (Below.heap_alloc w _ b hbb)).trans this
 have hone: ∀u∈l.flatMap enc,u.oneCell'=true:=by
  intro u hu
  obtain⟨x,_,hx⟩:=List.mem_flatMap.1 hu
  exact L.hone x u hx
 obtain⟨v',w2,hrun,hown,hgrow,_,hob⟩:=run_append_own_at (P:=Tryz.prog) (w:=w.alloc (.cells #[] ET)) w.heap.size ST ST ET i0 _ size bytes L.ht hi0 hz0 hz1 hz2 L.hz L.hs _ 0 [] hown0 a l.length c (l.flatMap enc)
  (flat_len enc size L.henc l) hcell hone (by unfold maxLen;omega) (by
   rw[Nat.zero_add]
   exact Nat.le_trans (Nat.mul_le_mul hm hb) (by decide)) (by simp)
 rw[Nat.zero_add,List.nil_append]at hown
 obtain⟨A',c',rfl,hs,hc',hf⟩:=own_seg L hown
 refine⟨A',c',w2,hrun,hs,hc',hf,?_,fun a' ha'=> ?_,hown⟩
 rotate_left
 ·rcases hown.2 with ⟨h2,_⟩|⟨g,cap,cur,h2,_,hg,_⟩
  ·subst ha'
   cases h2
  ·subst ha'
   cases h2
   exact⟨_,hg⟩
 exact((Below.refl w.heap.size w).alloc (Nat.le_refl _) _).grown hgrow (by simp) fun j ej=>by
  cases ej
  exact Nat.le_refl _
end
theorem nilL (n c:Nat)(w:World):(binOp .eql 46 (.slice none n c) (.slice none 0 0)).run Tryz.prog w=.ok (.bool true) w:=by kernel_rfl
theorem notNilL (a:Addr)(n c:Nat)(w:World):(binOp .eql 46 (.slice (some a) n c) (.slice none 0 0)).run Tryz.prog w=.ok (.bool false) w:=by kernel_rfl
set_option maxRecDepth 100000 in
theorem cloneL_a (A:Option Addr)(c:Nat)(l:List Lp)(w:World)(h:Seg encL 3 w w.heap.size A l)(hm:l.length≤3000000000000):
  Calls Tryz.prog 194 #[.slice A l.length c] w fun e w'=> ∃A' c',e=.returned (.slice A' l.length c')∧Seg encL 3 w' w'.heap.size A' l∧l.length≤c'∧From w.heap.size A'∧Below w.heap.size w w'∧(∀a',A'=some a'→ ∃cs,w'.heap[a'.block]?=some (.cells cs 54 (0,0))):=by
 cases A with
 |none=>
  have h0:l=[]:=by
   rcases h with h|⟨b,off,hA,_⟩
   ·exact h
   ·cases hA
  subst h0
  have hq:=nilL 0 c w
  go_enter Tryz.func194,Tryz.ntmps194
  go_wp2
  go_ret
  exact⟨none,0,rfl,.inl rfl,Nat.le_refl _,fun _ h=>(by cases h),Below.refl _ _,fun _ h=>(by cases h)⟩
 |some a=>
  obtain⟨A',c',w2,hr,hs,hc',hf,hb,hk,_⟩:=clone_law2 layL (c:=c) h hm (by decide)
  have hq:=notNilL a l.length c w
  clear h
  go_enter Tryz.func194,Tryz.ntmps194
  go_wp2
  go_ret
  exact⟨A',c',rfl,hs,hc',hf,hb,hk⟩
theorem nilE (n c:Nat)(w:World):(binOp .eql 47 (.slice none n c) (.slice none 0 0)).run Tryz.prog w=.ok (.bool true) w:=by kernel_rfl
theorem notNilE (a:Addr)(n c:Nat)(w:World):(binOp .eql 47 (.slice (some a) n c) (.slice none 0 0)).run Tryz.prog w=.ok (.bool false) w:=by kernel_rfl
set_option maxRecDepth 100000 in
theorem cloneE_a (A:Option Addr)(c:Nat)(l:List Rt.Ease)(w:World)(h:Seg encE 3 w w.heap.size A l)(hm:l.length≤3000000000000):
  Calls Tryz.prog 197 #[.slice A l.length c] w fun e w'=> ∃A' c',e=.returned (.slice A' l.length c')∧Seg encE 3 w' w'.heap.size A' l∧l.length≤c'∧From w.heap.size A'∧Below w.heap.size w w'∧(∀a',A'=some a'→ ∃cs,w'.heap[a'.block]?=some (.cells cs 71 (0,0))):=by
 cases A with
 |none=>
  have h0:l=[]:=by
   rcases h with h|⟨b,off,hA,_⟩
   ·exact h
   ·cases hA
  subst h0
  have hq:=nilE 0 c w
  go_enter Tryz.func197,Tryz.ntmps197
  go_wp2
  go_ret
  exact⟨none,0,rfl,.inl rfl,Nat.le_refl _,fun _ h=>(by cases h),Below.refl _ _,fun _ h=>(by cases h)⟩
 |some a=>
  obtain⟨A',c',w2,hr,hs,hc',hf,hb,hk,_⟩:=clone_law2 layE (c:=c) h hm (by decide)
  have hq:=notNilE a l.length c w
  clear h
  go_enter Tryz.func197,Tryz.ntmps197
  go_wp2
  go_ret
  exact⟨A',c',rfl,hs,hc',hf,hb,hk⟩
theorem nilS (n c:Nat)(w:World):(binOp .eql 48 (.slice none n c) (.slice none 0 0)).run Tryz.prog w=.ok (.bool true) w:=by kernel_rfl
theorem notNilS (a:Addr)(n c:Nat)(w:World):(binOp .eql 48 (.slice (some a) n c) (.slice none 0 0)).run Tryz.prog w=.ok (.bool false) w:=by kernel_rfl
set_option maxRecDepth 100000 in
theorem cloneS_a (A:Option Addr)(c:Nat)(l:List Rt.Stint)(w:World)(h:Seg encS 4 w w.heap.size A l)(hm:l.length≤3000000000000):
  Calls Tryz.prog 200 #[.slice A l.length c] w fun e w'=> ∃A' c',e=.returned (.slice A' l.length c')∧Seg encS 4 w' w'.heap.size A' l∧l.length≤c'∧From w.heap.size A'∧Below w.heap.size w w'∧(∀a',A'=some a'→ ∃cs,w'.heap[a'.block]?=some (.cells cs 119 (0,0))):=by
 cases A with
 |none=>
  have h0:l=[]:=by
   rcases h with h|⟨b,off,hA,_⟩
   ·exact h
   ·cases hA
  subst h0
  have hq:=nilS 0 c w
  go_enter Tryz.func200,Tryz.ntmps200
  go_wp2
  go_ret
  exact⟨none,0,rfl,.inl rfl,Nat.le_refl _,fun _ h=>(by cases h),Below.refl _ _,fun _ h=>(by cases h)⟩
 |some a=>
  obtain⟨A',c',w2,hr,hs,hc',hf,hb,hk,_⟩:=clone_law2 layS (c:=c) h hm (by decide)
  have hq:=notNilS a l.length c w
  clear h
  go_enter Tryz.func200,Tryz.ntmps200
  go_wp2
  go_ret
  exact⟨A',c',rfl,hs,hc',hf,hb,hk⟩
set_option maxRecDepth 100000 in
theorem part1_a (x:Lp)(n:Int)(b:Nat)(w:World)(hb:w.heap[b]?=some (.cells #[.int .i64 n] 3 (0,0))):
  Calls Tryz.prog 195 (#[.agg (rowL x)]++ #[.pointer (some ⟨b,0,none⟩)]) w fun e w'=>e=.returned (.bool (!(x.x.number==n)))∧Below w.heap.size w w':=by
 have b1:Below w.heap.size w (w.alloc (.cells (rowL x) 54 (0,0))):=by go_grown
 obtain⟨c1,_⟩:=blk_cells (heap_alloc_new w (.cells (rowL x) 54))
 have d0:=c1 0
 have d1:=(blk_cells ((b1.block _ (Array.getElem?_eq_some_iff.1 hb).1).trans hb)).1 0
 clear c1
 go_enter Tryz.func195,Tryz.ntmps195
 go_wp2
 go_ret
 exact⟨rfl,b1⟩
set_option maxRecDepth 100000 in
theorem part3_a (x:Rt.Stint)(n:Int)(b:Nat)(w:World)(hb:w.heap[b]?=some (.cells #[.int .i64 n] 3 (0,0))):
  Calls Tryz.prog 201 (#[.agg (rowS x)]++ #[.pointer (some ⟨b,0,none⟩)]) w fun e w'=>e=.returned (.bool (!(x.lot==n)))∧Below w.heap.size w w':=by
 have b1:Below w.heap.size w (w.alloc (.cells (rowS x) 119 (0,0))):=by go_grown
 obtain⟨c1,_⟩:=blk_cells (heap_alloc_new w (.cells (rowS x) 119))
 have d0:=c1 0
 have d1:=(blk_cells ((b1.block _ (Array.getElem?_eq_some_iff.1 hb).1).trans hb)).1 0
 clear c1
 go_enter Tryz.func201,Tryz.ntmps201
 go_wp2
 go_ret
 exact⟨rfl,b1⟩
set_option maxRecDepth 100000 in
theorem part2_a (x:Rt.Ease)(n:Int)(b:Nat)(w:World)(hb:w.heap[b]?=some (.cells #[.int .i64 n] 3 (0,0))):
  Calls Tryz.prog 198 (#[.agg (rowE x)]++ #[.pointer (some ⟨b,0,none⟩)]) w fun e w'=>e=.returned (.bool (!(x.over==n||x.of==n)))∧Below w.heap.size w w':=by
 have b1:Below w.heap.size w (w.alloc (.cells (rowE x) 71 (0,0))):=by go_grown
 obtain⟨c1,_⟩:=blk_cells (heap_alloc_new w (.cells (rowE x) 71))
 have d0:_=some (Value.int .i64 x.over):=c1 0
 have d2:_=some (Value.int .i64 x.of):=c1 1
 have d1:=(blk_cells ((b1.block _ (Array.getElem?_eq_some_iff.1 hb).1).trans hb)).1 0
 clear c1
 cases h1:x.over==n with
 |true=>
  have q1:(x.over !=n)=false:=by simpa using h1
  clear h1
  go_enter Tryz.func198,Tryz.ntmps198
  go_wp2
  go_ret
  exact⟨rfl,b1⟩
 |false=>
  have q1:(x.over !=n)=true:=by simpa using h1
  clear h1
  go_enter Tryz.func198,Tryz.ntmps198
  go_wp2
  go_ret
  exact⟨rfl,b1⟩
end Go.Proofs.YtcffonnijhhhiaaGreatDoor
namespace Go.Proofs
open Go.Shelf
def Tryz.growL_ren :Go.Shelf.Ren:=⟨fun|4=>189|n=>n,fun|22=>46|25=>54|3=>3|4=>4|9=>9|20=>20|0=>0|n=>n,fun|n=>n⟩
theorem Tryz.growL :Go.Proofs.Lays8.n4 Tryz.prog Tryz.growL_ren:= {
 mixed:=by kernel_rfl
 f4:=⟨Tryz.f189.name,by decide,Tryz.func189.trans (congrArg some (by kernel_rfl))⟩
 t0:=Tryz.underlying0
 a0:=Tryz.isAgg0
 z0:=Tryz.sizeOf0
 v0:=Tryz.zeroValue0
 t3:=Tryz.underlying3
 a3:=Tryz.isAgg3
 z3:=Tryz.sizeOf3
 v3:=Tryz.zeroValue3
 t4:=Tryz.underlying4
 a4:=Tryz.isAgg4
 z4:=Tryz.sizeOf4
 v4:=Tryz.zeroValue4
 t9:=Tryz.underlying9
 a9:=Tryz.isAgg9
 z9:=Tryz.sizeOf9
 v9:=Tryz.zeroValue9
 t20:=Tryz.underlying20
 a20:=Tryz.isAgg20
 z20:=Tryz.sizeOf20
 v20:=Tryz.zeroValue20
 t22:=Tryz.underlying46
 a22:=Tryz.isAgg46
 z22:=Tryz.sizeOf46
 v22:=Tryz.zeroValue46}
end Go.Proofs
namespace Go.Proofs.YtcffonnijhhhiaaGreatDoor
open Go Go.RowKit Go.Maps Mp
attribute [-simp] Prod.forall Prod.exists
attribute [-go_sem] loadVar storeVar Builtin.append_
attribute [local go_sem] lk_sL
theorem growL_own (n:Nat)(w:World)(hn:n≤4000000):Calls Tryz.prog 189 #[.slice none 0 0,.int .i64 n] w fun e w'=> ∃v,e=.returned v∧w'.ownsRow w.heap.size 54 3 v ([]:List Lp).length (([]:List Lp).flatMap encL)∧Below w.heap.size w w':=by
 cases n with
 |zero=>
  refine(Any8.slices_Grow_room Tryz.growL none 0 0 0 w (Nat.le_refl _) (by omega) (by omega) (by omega)).mono ?_
  rintro e w' ⟨rfl,rfl⟩
  exact⟨_,rfl,World.ownsRow_nil _ _ _ _,Below.refl _ _⟩
 |succ n=>
  obtain⟨i0,hi0,hz0,hz1,hz2⟩:=info_parts layL.hi
  refine(Any8.slices_Grow_grow Tryz.growL i0 _ hi0 hz0 (by rw[hz1];decide) none 0 0 (n+1) [] w (Nat.le_refl _) (by omega) (by rw[hz2];omega) (by omega) (by simp) (fun _=>rfl) (fun a e=>by cases e)).mono ?_
  rintro e w' ⟨rfl,rfl⟩
  have h1:=grownCap_ge w (0+(n+1)) 0 54
  have h2:=grownCap_le_maxLen w (0+(n+1)) 0 54 (by unfold maxLen;omega)
  refine⟨_,rfl,⟨rfl,.inr ⟨w.heap.size,_,_,rfl,Nat.le_refl _,heap_alloc_new w.drew _,Nat.zero_le _,h2,?_,by simp⟩⟩,(below_drew (Below.refl _ _)).alloc (Nat.le_refl _) _⟩
  have e1:((grownCap w (0+(n+1)) 0 54:Nat))=(grownCap w (0+(n+1)) 0 (Tryz.growL_ren.t 25)):=rfl
  simp only[Array.size_append,size_zeroCells,List.size_toArray,List.length_nil]
  rw[←e1]
  show 0+(0+(n+1)-0)*3+(grownCap w (0+(n+1)) 0 54-(0+(n+1)))*3=grownCap w (0+(n+1)) 0 54*3
  omega
section
variable {α : Type} {enc : α → List Value} {ST ET : TypeId} {z : Value} {size bytes : Nat}
theorem own_cat (L:Lay enc ST ET z size bytes){n₀ c:Nat}{A:Option Addr}{W:World}{v:Value}{l r:List α}(hr:W.ownsRow n₀ ET size v l.length (l.flatMap enc))(hs:Seg enc size W W.heap.size A r)
  (hm:l.length+r.length≤4000000) (hb:bytes≤1000) (hn:n₀≤W.heap.size):
  ∃v' w2,(Builtin.append_ #[ST,ST] ST #[v,.slice A r.length c]).run Tryz.prog W=.ok v' w2∧w2.ownsRow n₀ ET size v' (l++r).length ((l++r).flatMap enc)∧Below n₀ W w2:=by
 obtain⟨i0,hi0,hz0,hz1,hz2⟩:=info_parts L.hi
 cases A with
 |none=>
  have h0:r=[]:=by
   rcases hs with h|⟨b,off,hA,_⟩
   ·exact h
   ·cases hA
  subst h0
  refine⟨v,W,?_,by simpa using hr,Below.refl _ _⟩
  rcases hr.2 with ⟨rfl,_⟩|⟨g,cap,cur,rfl,_,_,hnc,_⟩
  ·simp[Builtin.append_,run_underlying L.ht,sizeOf,typeInfo,hi0,Builtin.lenOf,Builtin.firstCells]
  ·simp[Builtin.append_,run_underlying L.ht,sizeOf,typeInfo,hi0,Builtin.lenOf,Builtin.firstCells,hnc,storeCells]
 |some a=>
  have hone: ∀u∈r.flatMap enc,u.oneCell'=true:=by
   intro u hu
   obtain⟨x,_,hx⟩:=List.mem_flatMap.1 hu
   exact L.hone x u hx
  have hcell: ∀j u,(r.flatMap enc)[j]?=some u→W.cell? (a.add j)=some u:=by
   intro j u hj
   have hs2:=hs
   rcases hs2 with h|⟨b,off,hA,_⟩
   ·subst h;simp at hj
   ·cases hA
    rw[Go.WideShapes.add_plain]
    exact seg_flat L.henc L.hs hs hj
  obtain⟨v',w2,hrun,hown,hgrow,_,hob⟩:=run_append_own_at (P:=Tryz.prog) (w:=W) n₀ ST ST ET i0 _ size bytes L.ht hi0 hz0 hz1 hz2 L.hz L.hs v l.length (l.flatMap enc) hr a r.length c (r.flatMap enc)
   (flat_len enc size L.henc r) hcell hone (by unfold maxLen;omega) (Nat.le_trans (Nat.mul_le_mul hm hb) (by decide)) hn
  rw[←List.flatMap_append,←List.length_append]at hown
  exact⟨v',w2,hrun,hown,(Below.refl n₀ W).grown hgrow hn fun j ej=>(hr.lt j ej).1⟩
end
set_option maxRecDepth 100000 in
set_option maxHeartbeats 4000000 in
theorem concat_a (g:Nat)(A B:Option Addr)(c d:Nat)(L M:List Lp)(w:World)(hg:w.heap[g]?=some (.cells #[.slice A L.length c,.slice B M.length d] 46 (0,0)))(hL:Seg encL 3 w w.heap.size A L)(hM:Seg encL 3 w w.heap.size B M)(h1:L.length≤2000000)(h2:M.length≤2000000):
  Calls Tryz.prog 133 #[.slice (some ⟨g,0,none⟩) 2 2] w fun e w'=> ∃A' c',e=.returned (.slice A' (L++M).length c')∧Seg encL 3 w' w'.heap.size A' (L++M)∧Below w.heap.size w w':=by
 have HG:Hid (∀W,Below w.heap.size w W→W.cell? ⟨g,0,none⟩=some (.slice A L.length c)∧W.cell? ⟨g,1,none⟩=some (.slice B M.length d)):=Lib.hid fun W hW=>by
  have:=(hW.block _ (Array.getElem?_eq_some_iff.1 hg).1).trans hg
  exact⟨(blk_cells this).1 0,(blk_cells this).1 1⟩
 have HL:=Lib.hid hL
 have HM:=Lib.hid hM
 obtain⟨T,hT⟩: ∃T,L.length+M.length=T:=⟨_,rfl⟩
 have hT3:T≤4000000:=by omega
 have HT:=Lib.hid hT
 have hTi:(L.length:Int)+(M.length:Int)=(T:Int):=by omega
 have hgr:=growL_own T w hT3
 have HB0:=Lib.hid (Below.refl w.heap.size w)
 obtain⟨f1,f2⟩:=HG.out w HB0.out
 clear hg hL hM hT
 go_enter Tryz.func133,Tryz.ntmps133
 go_wp2
 go_loop [3,11] (fun s i=>(i=.int .i64 0∧s=.int .i64 0)∨(i=.int .i64 1∧s=.int .i64 L.length)∨(i=.int .i64 2∧s=.int .i64 T)) (fun _ i=>2-(intOf i).toNat)
 case atStart=>exact .inl ⟨rfl,rfl⟩
 case round=>
  rcases hrel with ⟨rfl,rfl⟩|⟨rfl,rfl⟩|⟨rfl,rfl⟩
  ·go_wp2
   go_round
   case rel=>exact .inr (.inl ⟨by first|rfl|go_num,by first|rfl|go_num⟩)
   case measure=>simp[intOf]
  ·go_wp2
   go_round
   case rel=>exact .inr (.inr ⟨by first|rfl|go_num,by first|rfl|go_num⟩)
   case measure=>simp[intOf]
  ·go_wp2_with fail
   refine hgr.mono ?_
   clear hgr
   rintro e w1 ⟨v,rfl,ho,b1⟩
   have HO:=Lib.hid ho
   have HB1:=Lib.hid b1
   clear ho b1
   go_wp2
   go_loopw [6,27] (fun v i wr=>Hid (Below w.heap.size w wr)∧((i=.int .i64 0∧Hid (wr.ownsRow w.heap.size 54 3 v ([]:List Lp).length (([]:List Lp).flatMap encL)))∨(i=.int .i64 1∧Hid (wr.ownsRow w.heap.size 54 3 v L.length (L.flatMap encL)))∨(i=.int .i64 2∧Hid (wr.ownsRow w.heap.size 54 3 v (L++M).length ((L++M).flatMap encL))))) (fun _ i _=>2-(intOf i).toNat)
   case atStart=>exact⟨HB1,.inl ⟨rfl,HO⟩⟩
   case round=>
    obtain⟨HB,hrel⟩:=hrel
    obtain⟨g1,g2⟩:=HG.out _ HB.out
    rcases hrel with ⟨rfl,HO⟩|⟨rfl,HO⟩|⟨rfl,HO⟩
    ·obtain⟨v',w2,hrun,ho2,b2⟩:=own_cat layL (c:=c) HO.out ((HL.out.below HB.out).more HB.out.size) (by simp;omega) (by decide) HB.out.size
     have HO2:=Lib.hid ho2
     have HB2:=Lib.hid (HB.out.trans b2)
     clear ho2 b2
     go_wp2
     go_roundw
     case rel=>exact⟨HB2,.inr (.inl ⟨by first|rfl|go_num,HO2⟩)⟩
     case measure=>simp[intOf]
    ·obtain⟨v',w2,hrun,ho2,b2⟩:=own_cat layL (c:=d) HO.out ((HM.out.below HB.out).more HB.out.size) (by omega) (by decide) HB.out.size
     have HO2:=Lib.hid ho2
     have HB2:=Lib.hid (HB.out.trans b2)
     clear ho2 b2
     go_wp2
     go_roundw
     case rel=>exact⟨HB2,.inr (.inr ⟨by first|rfl|go_num,HO2⟩)⟩
     case measure=>simp[intOf]
    ·go_wp2
     go_ret
     obtain⟨A',c',rfl,hs,_,_⟩:=own_seg layL HO.out
     exact⟨A',c',rfl,hs,HB.out⟩
end Go.Proofs.YtcffonnijhhhiaaGreatDoor
