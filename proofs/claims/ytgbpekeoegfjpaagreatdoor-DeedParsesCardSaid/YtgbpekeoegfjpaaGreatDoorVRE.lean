/- Proved: parts of the walk. -/
import Derived.Test.YtgbpekeoegfjpaaGreatDoorVZ23
import Derived.Test.YtgbpekeoegfjpaaGreatDoorVRC
set_option maxRecDepth 100000
set_option maxHeartbeats 4000000
namespace Go.Proofs
open Tryz RowKit Shelf
variable (A1 A2 A3 A4 : Option Addr) (c1 c2 c3 c4 : Nat) (f : Pl.aL)
attribute [-go_sem] Builtin.append_ run_equalIn_agg
attribute [-go_sem] loadVar
attribute [local go_sem] bZ bH dU aT eB mU Iw
theorem yQ (a:Addr)(w:World):(loadVar 88 a).run prog w=(load a).run prog w:=fE underlying88 rfl a w
attribute [local go_sem] yQ
theorem DI (d:Nat)(v:Value)(R:Ending->World->Prop)(h6:d≠6)(c:List PanicEntry)(a:Act)(w:World)(h:bodyPostD prog Tryz.f88 R (.panic c) (a.put (some d) v) w):bodyPostD prog Tryz.f88 R (.panic c) a w:=by
 have e:results Tryz.f88 (a.put (some d) v).tmps=results Tryz.f88 a.tmps:=by
  simp only[results,results88,Act.put,List.mapM_toArray,List.mapM_cons,List.mapM_nil,Ip h6]
 exact nI (T:=(a.put (some d) v).tmps) (fun w=>by rw[e]) _ _ _ h
theorem HY.few {bd:Nat}{l:List (Pl.j6×Option Addr×Nat)}{W:World}{v:Value}(h:HY bd l W v):l.length<=maxLen:=by
 rcases h.row.2 with ⟨_,h2⟩|⟨g,cap,cur,_,_,_,h3,h4,_⟩
 ·omega
 ·omega
theorem last_at {bd:Nat}{l0:List (Pl.j6×Option Addr×Nat)}{d:Pl.j6}{p:Option Addr×Nat}{W:World}{v:Value}(h:HY bd (l0++[(d,p)]) W v):
  ∃ba cp,v=.slice (some ⟨ba,0,none⟩) (l0.length+1) cp∧ ∀W1,Below W.heap.size W W1->W1.cell? ⟨ba,l0.length*4+1,none⟩=some (.int .i64 d.year)∧W1.cell? ⟨ba,l0.length*4+3,none⟩=some (slv p d.calls.length)∧True:=by
 have hlen:(l0++[(d,p)]).length=l0.length+1:=by simp
 have hrow:=h.row
 rw[hlen]at hrow
 obtain⟨ba,cp,rfl⟩:=ownsRow_succ hrow
 refine⟨ba,cp,rfl,fun W1 hb=> ?_⟩
 have hcell: ∀j u,(x9 (d,p))[j]?=some u->W1.cell? ⟨ba,l0.length*4+j,none⟩=some u:=by
  intro j u hu
  have hf:=A9 x9 4 (fun _=>rfl) (l:=l0++[(d,p)]) (k:=l0.length) (x:=(d,p)) (by simp) hu
  have:=(own_below hrow hb).cells rfl _ u hf
  rwa[Go.WideShapes.add_plain,Nat.zero_add]at this
 exact⟨hcell 1 _ rfl,hcell 3 _ rfl,trivial⟩
theorem aBn (bd:Nat)(l:List (Pl.j6×Option Addr×Nat))(v:Value)(A:Option Addr)(c:Nat)(k:ByteArray)(ws:List ByteArray)(w:World)(CZ:Env w)(hD:HY bd l w v)(_h8:8<=bd)
  (hw:d9 w w.heap.size A (k::ws)) (hc:(k::ws).length<=c) (hs:dK (k::ws)) (hk:k≠Pl.CQ) (hform:Pl.form (k::ws)=none):
  Calls prog 88 #[.agg (fq A1 A2 A3 A4 c1 c2 c3 c4 f),.pointer (some ⟨bd,0,none⟩),.slice A (ws.length+1) c] w fun e w'=>aU bd (Dx bd v l) w w'∧e=.returned (.int .i64 4):=by
 have hbd:=hD.lt
 obtain⟨b,off,rfl,hb,q0⟩:=d9.gY hw (k:=0) (by simp)
 simp only[Nat.add_zero,List.getElem_cons_zero]at q0
 have e1:(0:Int)<((ws.length:Nat):Int)+1:=by omega
 have hkd:((k.toList==Pl.CQ.toList))=false:=by rw[dF];exact decide_eq_false hk
 have kf0:=heap_alloc2_old w (.cells (fq A1 A2 A3 A4 c1 c2 c3 c4 f) 28) (.cells #[.int .i64 0] 29)
 have ke:=heap_alloc2_new w (.cells (fq A1 A2 A3 A4 c1 c2 c3 c4 f) 28) (.cells #[.int .i64 0] 29)
 have hb0:Below w.heap.size w ((w.alloc (.cells (fq A1 A2 A3 A4 c1 c2 c3 c4 f) 28)).alloc (.cells #[.int .i64 0] 29)):=((Below.refl _ w).alloc (Nat.le_refl _) _).alloc (by simp) _
 have s0:DSt w ((w.alloc (.cells (fq A1 A2 A3 A4 c1 c2 c3 c4 f) 28)).alloc (.cells #[.int .i64 0] 29)):=⟨hb0,by simp,ke⟩
 have hz0:((w.alloc (.cells (fq A1 A2 A3 A4 c1 c2 c3 c4 f) 28)).alloc (.cells #[.int .i64 0] 29)).heap.size=w.heap.size+2:=by simp
 have hfm:=DN (some ⟨b,off,none⟩) c (k::ws) ((w.alloc (.cells (fq A1 A2 A3 A4 c1 c2 c3 c4 f) 28)).alloc (.cells #[.int .i64 0] 29)) (CZ.up s0.below) (hw.up s0.below) hc hs
 rw[hform]at hfm
 unfold Pl.CQ at hkd
 rw[show(⟨#[100,101,101,100]⟩:ByteArray).toList=[100,101,101,100] from by rw[ByteArray.toList_eq]]at hkd
 clear kf0 ke hb0
 go_enter_defers func88,ntmps88
 go_wp2_with (go_at_call 100;refine hfm.mono ?_;rintro e w1 ⟨hx,rfl⟩)
 have s9:=s0.up hx
 refine leaves_cons (f:=96) (args:= #[.pointer (some ⟨w.heap.size+1,0,none⟩)]) (by simp) (by simp[go_sem]) ?_
 refine(iY _ _ _ _ s9.ke).mono ?_
 rintro e u' w'' ⟨rfl,rfl,rfl⟩
 have JF:=heap_setCell_same _ (w.heap.size+1) 0 _ _ (.int .i64 4) s9.ke
 obtain⟨hce,hfe⟩:=ah JF
 exact⟨.int .i64 4,by simp[results,results88,go_sem,hce],s9.aAy (Nat.le_of_lt hbd) _,rfl⟩
theorem aA8 (bd:Nat)(l:List (Pl.j6×Option Addr×Nat))(v:Value)(A:Option Addr)(c:Nat)(k:ByteArray)(ws:List ByteArray)(w:World)(CZ:Env w)(hD:HY bd l w v)(_h8:8<=bd)
  (hw:d9 w w.heap.size A (k::ws)) (hc:(k::ws).length<=c) (hs:dK (k::ws)) (hk:k≠Pl.CQ) (x:Pl.kZ) (hform:Pl.form (k::ws)=some x) (hl:l.length=0):
  Calls prog 88 #[.agg (fq A1 A2 A3 A4 c1 c2 c3 c4 f),.pointer (some ⟨bd,0,none⟩),.slice A (ws.length+1) c] w fun e w'=>aU bd (Dx bd v l) w w'∧e=.returned (.int .i64 4):=by
 have hbd:=hD.lt
 obtain⟨b,off,rfl,hb,q0⟩:=d9.gY hw (k:=0) (by simp)
 simp only[Nat.add_zero,List.getElem_cons_zero]at q0
 have e1:(0:Int)<((ws.length:Nat):Int)+1:=by omega
 have hkd:((k.toList==Pl.CQ.toList))=false:=by rw[dF];exact decide_eq_false hk
 have kf0:=heap_alloc2_old w (.cells (fq A1 A2 A3 A4 c1 c2 c3 c4 f) 28) (.cells #[.int .i64 0] 29)
 have ke:=heap_alloc2_new w (.cells (fq A1 A2 A3 A4 c1 c2 c3 c4 f) 28) (.cells #[.int .i64 0] 29)
 have hb0:Below w.heap.size w ((w.alloc (.cells (fq A1 A2 A3 A4 c1 c2 c3 c4 f) 28)).alloc (.cells #[.int .i64 0] 29)):=((Below.refl _ w).alloc (Nat.le_refl _) _).alloc (by simp) _
 have s0:DSt w ((w.alloc (.cells (fq A1 A2 A3 A4 c1 c2 c3 c4 f) 28)).alloc (.cells #[.int .i64 0] 29)):=⟨hb0,by simp,ke⟩
 have hz0:((w.alloc (.cells (fq A1 A2 A3 A4 c1 c2 c3 c4 f) 28)).alloc (.cells #[.int .i64 0] 29)).heap.size=w.heap.size+2:=by simp
 have hfm:=DN (some ⟨b,off,none⟩) c (k::ws) ((w.alloc (.cells (fq A1 A2 A3 A4 c1 c2 c3 c4 f) 28)).alloc (.cells #[.int .i64 0] 29)) (CZ.up s0.below) (hw.up s0.below) hc hs
 rw[hform]at hfm
 unfold Pl.CQ at hkd
 rw[show(⟨#[100,101,101,100]⟩:ByteArray).toList=[100,101,101,100] from by rw[ByteArray.toList_eq]]at hkd
 obtain⟨Al,cl,hv,_,_,_⟩:=dQ Q5 hD.row
 subst hv
 rw[hl]at*
 clear kf0 ke hb0
 go_enter_defers func88,ntmps88
 go_wp2_with (first|(go_at_call 100;refine hfm.mono ?_;rintro e w1 ⟨hx,u,rfl,hF⟩;have s1:=s0.up hx;have hD1:=hD.below s1.below;obtain⟨hcb,ru⟩:=ah hD1.box)|(go_at_call 97;refine(bD _ _).mono ?_;rintro e w9 ⟨rfl,Lu⟩))
 have s9:=s1.up Lu
 refine leaves_cons (f:=96) (args:= #[.pointer (some ⟨w.heap.size+1,0,none⟩)]) (by simp) (by simp[go_sem]) ?_
 refine(iY _ _ _ _ s9.ke).mono ?_
 rintro e u' w'' ⟨rfl,rfl,rfl⟩
 have JF:=heap_setCell_same _ (w.heap.size+1) 0 _ _ (.int .i64 4) s9.ke
 obtain⟨hce,hfe⟩:=ah JF
 exact⟨.int .i64 4,by simp[results,results88,go_sem,hce],s9.aAy (Nat.le_of_lt hbd) _,rfl⟩
theorem aBo (bd:Nat)(l:List (Pl.j6×Option Addr×Nat))(v:Value)(A:Option Addr)(c:Nat)(k:ByteArray)(ws:List ByteArray)(w:World)(CZ:Env w)(hD:HY bd l w v)(_h8:8<=bd)
  (hw:d9 w w.heap.size A (k::ws)) (hc:(k::ws).length<=c) (hs:dK (k::ws)) (hk:k≠Pl.CQ) (x:Pl.kZ) (hform:Pl.form (k::ws)=some x) (l0:List (Pl.j6×Option Addr×Nat)) (d:Pl.j6) (p:Option Addr×Nat) (hl:l=l0++[(d,p)]) (h20:decide ((d.calls.length:Int)<20)=false):
  Calls prog 88 #[.agg (fq A1 A2 A3 A4 c1 c2 c3 c4 f),.pointer (some ⟨bd,0,none⟩),.slice A (ws.length+1) c] w fun e w'=>aU bd (Dx bd v l) w w'∧e=.returned (.int .i64 2):=by
 have hbd:=hD.lt
 obtain⟨b,off,rfl,hb,q0⟩:=d9.gY hw (k:=0) (by simp)
 simp only[Nat.add_zero,List.getElem_cons_zero]at q0
 have e1:(0:Int)<((ws.length:Nat):Int)+1:=by omega
 have hkd:((k.toList==Pl.CQ.toList))=false:=by rw[dF];exact decide_eq_false hk
 have kf0:=heap_alloc2_old w (.cells (fq A1 A2 A3 A4 c1 c2 c3 c4 f) 28) (.cells #[.int .i64 0] 29)
 have ke:=heap_alloc2_new w (.cells (fq A1 A2 A3 A4 c1 c2 c3 c4 f) 28) (.cells #[.int .i64 0] 29)
 have hb0:Below w.heap.size w ((w.alloc (.cells (fq A1 A2 A3 A4 c1 c2 c3 c4 f) 28)).alloc (.cells #[.int .i64 0] 29)):=((Below.refl _ w).alloc (Nat.le_refl _) _).alloc (by simp) _
 have s0:DSt w ((w.alloc (.cells (fq A1 A2 A3 A4 c1 c2 c3 c4 f) 28)).alloc (.cells #[.int .i64 0] 29)):=⟨hb0,by simp,ke⟩
 have hz0:((w.alloc (.cells (fq A1 A2 A3 A4 c1 c2 c3 c4 f) 28)).alloc (.cells #[.int .i64 0] 29)).heap.size=w.heap.size+2:=by simp
 have hfm:=DN (some ⟨b,off,none⟩) c (k::ws) ((w.alloc (.cells (fq A1 A2 A3 A4 c1 c2 c3 c4 f) 28)).alloc (.cells #[.int .i64 0] 29)) (CZ.up s0.below) (hw.up s0.below) hc hs
 rw[hform]at hfm
 unfold Pl.CQ at hkd
 rw[show(⟨#[100,101,101,100]⟩:ByteArray).toList=[100,101,101,100] from by rw[ByteArray.toList_eq]]at hkd
 subst hl
 obtain⟨ba,cp,rfl,hcell⟩:=last_at hD
 have XD:=hD.few
 rw[List.length_append,List.length_singleton]at XD
 unfold maxLen at XD
 have e2:(0:Int)<((l0.length+1:Nat):Int):=by omega
 have e3:IntKind.i64.wrap (((l0.length+1:Nat):Int)-1)=(l0.length:Int):=by rw[IntWalk.i64_in _ (by omega)];omega
 have e3':IntKind.i64.wrap ((l0.length:Int)+1-1)=(l0.length:Int):=by rw[IntWalk.i64_in _ (by omega)];omega
 have e3s:IntKind.i64.wrap (l0.length:Int)=(l0.length:Int):=IntWalk.i64_in _ (by omega)
 have e4:(0:Int)<=(l0.length:Int):=by omega
 have e5:(l0.length:Int)<((l0.length+1:Nat):Int):=by omega
 have e6:(l0.length:Int)<(l0.length:Int)+1:=by omega
 have tk1:True:=trivial
 clear kf0 ke hb0
 go_enter_defers func88,ntmps88
 go_wp2_with (first|(go_at_call 100;refine hfm.mono ?_;rintro e w1 ⟨hx,u,rfl,hF⟩;have s1:=s0.up hx;have hD1:=hD.below s1.below;obtain⟨hcb,ru⟩:=ah hD1.box)|(go_at_call 97;clear tk1;refine(uYs _ _).mono ?_;rintro e w' ⟨rfl,rfl⟩)|(go_at_call 97;refine(bD _ _).mono ?_;rintro e w9 ⟨rfl,Lu⟩))
 have s2:DSt w w1.drew:=s1.up ((Below.refl _ w1).drew)
 obtain⟨y1,y2,_⟩:=hcell _ s2.below
 unfold slv at y2
 go_region_held3 (fun W=>W.cell? ⟨bd,0,none⟩=some (.slice (some ⟨ba,0,none⟩) (l0.length+1) cp)) (exact(hcb 0)) (fail)
 go_wp2_with (first|(go_at_call 97;refine(bD _ _).mono ?_;rintro e w9 ⟨rfl,Lu⟩))
 have s9:=s2.up Lu
 refine leaves_cons (f:=96) (args:= #[.pointer (some ⟨w.heap.size+1,0,none⟩)]) (by simp) (by simp[go_sem]) ?_
 refine(iY _ _ _ _ s9.ke).mono ?_
 rintro e u' w'' ⟨rfl,rfl,rfl⟩
 have JF:=heap_setCell_same _ (w.heap.size+1) 0 _ _ (.int .i64 2) s9.ke
 obtain⟨hce,hfe⟩:=ah JF
 exact⟨.int .i64 2,by simp[results,results88,go_sem,hce],s9.aAy (Nat.le_of_lt hbd) _,rfl⟩
theorem aBC (bd:Nat)(l:List (Pl.j6×Option Addr×Nat))(v:Value)(A:Option Addr)(c:Nat)(k:ByteArray)(ws:List ByteArray)(w:World)(CZ:Env w)(hD:HY bd l w v)(_h8:8<=bd)
  (hw:d9 w w.heap.size A (k::ws)) (hc:(k::ws).length<=c) (hs:dK (k::ws)) (hk:k≠Pl.CQ) (x:Pl.kZ) (hform:Pl.form (k::ws)=some x) (l0:List (Pl.j6×Option Addr×Nat)) (d:Pl.j6) (p:Option Addr×Nat) (hl:l=l0++[(d,p)]) (h20:decide ((d.calls.length:Int)<20)=true) (E:Int) (hmd:Pl.jF f x d.year=.error E) (hf:bB w bd A1 A2 A3 A4 f) (hm:Small f) (hcp:dY c1 c2 c3 c4 f) (hE:Pl.aR f=0):
  Calls prog 88 #[.agg (fq A1 A2 A3 A4 c1 c2 c3 c4 f),.pointer (some ⟨bd,0,none⟩),.slice A (ws.length+1) c] w fun e w'=>aU bd (Dx bd v l) w w'∧e=.returned (.int .i64 E):=by
 have hbd:=hD.lt
 obtain⟨b,off,rfl,hb,q0⟩:=d9.gY hw (k:=0) (by simp)
 simp only[Nat.add_zero,List.getElem_cons_zero]at q0
 have e1:(0:Int)<((ws.length:Nat):Int)+1:=by omega
 have hkd:((k.toList==Pl.CQ.toList))=false:=by rw[dF];exact decide_eq_false hk
 have kf0:=heap_alloc2_old w (.cells (fq A1 A2 A3 A4 c1 c2 c3 c4 f) 28) (.cells #[.int .i64 0] 29)
 have ke:=heap_alloc2_new w (.cells (fq A1 A2 A3 A4 c1 c2 c3 c4 f) 28) (.cells #[.int .i64 0] 29)
 have hb0:Below w.heap.size w ((w.alloc (.cells (fq A1 A2 A3 A4 c1 c2 c3 c4 f) 28)).alloc (.cells #[.int .i64 0] 29)):=((Below.refl _ w).alloc (Nat.le_refl _) _).alloc (by simp) _
 have s0:DSt w ((w.alloc (.cells (fq A1 A2 A3 A4 c1 c2 c3 c4 f) 28)).alloc (.cells #[.int .i64 0] 29)):=⟨hb0,by simp,ke⟩
 have hz0:((w.alloc (.cells (fq A1 A2 A3 A4 c1 c2 c3 c4 f) 28)).alloc (.cells #[.int .i64 0] 29)).heap.size=w.heap.size+2:=by simp
 have hfm:=DN (some ⟨b,off,none⟩) c (k::ws) ((w.alloc (.cells (fq A1 A2 A3 A4 c1 c2 c3 c4 f) 28)).alloc (.cells #[.int .i64 0] 29)) (CZ.up s0.below) (hw.up s0.below) hc hs
 rw[hform]at hfm
 unfold Pl.CQ at hkd
 rw[show(⟨#[100,101,101,100]⟩:ByteArray).toList=[100,101,101,100] from by rw[ByteArray.toList_eq]]at hkd
 have aCp:d.calls.length<=100000:=by simp at h20;omega
 subst hl
 obtain⟨ba,cp,rfl,_,_,hcell,happ⟩:=aAJ hD ⟨0,0,0,0,0,0,0,Pl.bF.zero⟩ (by omega)
 have XD:=hD.few
 rw[List.length_append,List.length_singleton]at XD
 unfold maxLen at XD
 have e2:(0:Int)<((l0.length+1:Nat):Int):=by omega
 have e3:IntKind.i64.wrap (((l0.length+1:Nat):Int)-1)=(l0.length:Int):=by rw[IntWalk.i64_in _ (by omega)];omega
 have e3':IntKind.i64.wrap ((l0.length:Int)+1-1)=(l0.length:Int):=by rw[IntWalk.i64_in _ (by omega)];omega
 have e3s:IntKind.i64.wrap (l0.length:Int)=(l0.length:Int):=IntWalk.i64_in _ (by omega)
 have e4:(0:Int)<=(l0.length:Int):=by omega
 have e5:(l0.length:Int)<((l0.length+1:Nat):Int):=by omega
 have e6:(l0.length:Int)<(l0.length:Int)+1:=by omega
 have HM:=Lib.hid hmd
 clear hmd happ
 clear ke hb0
 have hx5:=Jy hform
 have HE:=Lib.hid hE
 clear hE hform
 go_enter_defers func88,ntmps88
 go_wp2_with (first|(go_at_call 100;refine hfm.mono ?_;rintro e w1 ⟨hx,u,rfl,hF⟩;have s1:=s0.up hx;have kf1:=(hx.block _ (by omega)).trans kf0;have hD1:=hD.below s1.below;obtain⟨hcb,ru⟩:=ah hD1.box)|(go_at_call 97;refine(uYs _ _).mono ?_;rintro e w' ⟨rfl,rfl⟩))
 have s2:DSt w w1.drew:=s1.up ((Below.refl _ w1).drew)
 have kf2:w1.drew.heap[w.heap.size]?=_:=kf1
 obtain⟨y1,y2,_⟩:=hcell _ s2.below
 unfold slv at y2
 go_region_held3 (fun W=>W.cell? ⟨bd,0,none⟩=some (.slice (some ⟨ba,0,none⟩) (l0.length+1) cp)) (exact(hcb 0)) (fail)
 go_wp2_with (go_at_call 97;refine(uYs _ _).mono ?_;rintro e w' ⟨rfl,rfl⟩)
 have VW:=s1.sz
 clear hcb ru hD1 s1 kf1
 refine wp_region_held_drew (S:=fun W=>(loadVar 28 ⟨w.heap.size,0,none⟩).run prog W=.ok (.agg (fq A1 A2 A3 A4 c1 c2 c3 c4 f)) W∧W.cell? ⟨ba,l0.length*4+1,none⟩=some (.int .i64 d.year)∧W.cell? ⟨ba,l0.length*4+3,none⟩=some (.slice p.1 d.calls.length p.2)) (by kernel_rfl) ⟨ak kf2 underlying28 rfl av,y1,y2⟩ (fun hHeld=> ?_)
 have s3:DSt w w1.drew.drew:=s2.up ((Below.refl _ _).drew)
 have hb3:Below w1.heap.size w1 w1.drew.drew:=((Below.refl _ w1).drew).drew
 have hz3:w1.drew.drew.heap.size=w1.heap.size:=rfl
 clear s2 kf2 y1 y2
 generalize w1.drew.drew=W3 at*
 refine cK 0 (some 81) (v:= ?v1) rfl rfl (by kernel_rfl) (by kernel_rfl) (by kernel_rfl) (fun c a w h=>DI 81 _ _ (by decide) c a w h) (Or.inl ⟨by rfl,fun W hW=> ?hy1⟩) (by assumption) ?hr1
 case hy1=>(try dsimp only at hW);go_simp;try with_reducible rfl
 try simp only[au]
 refine cK 1 (some 82) (v:= ?v2) rfl rfl (by kernel_rfl) (by kernel_rfl) (by kernel_rfl) (fun c a w h=>DI 82 _ _ (by decide) c a w h) (Or.inl ⟨by rfl,fun W hW=> ?hy2⟩) (by assumption) ?hr2
 case hy2=>(try dsimp only at hW);go_simp;try with_reducible rfl
 try simp only[au]
 refine cK 2 (some 83) (v:= ?v3) rfl rfl (by kernel_rfl) (by kernel_rfl) (by kernel_rfl) (fun c a w h=>DI 83 _ _ (by decide) c a w h) (Or.inl ⟨by rfl,fun W hW=> ?hy3⟩) (by assumption) ?hr3
 case hy3=>(try dsimp only at hW);go_simp;try with_reducible rfl
 try simp only[au]
 refine cK 3 (some 84) (v:= ?v4) rfl rfl (by kernel_rfl) (by kernel_rfl) (by kernel_rfl) (fun c a w h=>DI 84 _ _ (by decide) c a w h) (Or.inl ⟨by rfl,fun W hW=> ?hy4⟩) (by assumption) ?hr4
 case hy4=>(try dsimp only at hW);go_simp;try with_reducible rfl
 try simp only[au]
 refine cK 4 (some 85) (v:= ?v5) rfl rfl (by kernel_rfl) (by kernel_rfl) (by kernel_rfl) (fun c a w h=>DI 85 _ _ (by decide) c a w h) (Or.inl ⟨by rfl,fun W hW=> ?UG⟩) (by assumption) ?Z0
 case UG=>(try dsimp only at hW);go_simp;try with_reducible rfl
 try simp only[au]
 refine cK 5 (some 86) (v:= ?v6) rfl rfl (by kernel_rfl) (by kernel_rfl) (by kernel_rfl) (fun c a w h=>DI 86 _ _ (by decide) c a w h) (Or.inl ⟨by rfl,fun W hW=> ?YS⟩) (by assumption) ?Z4
 case YS=>(try dsimp only at hW);go_simp;try with_reducible rfl
 try simp only[au]
 refine cK 6 (some 87) (v:= ?v7) rfl rfl (by kernel_rfl) (by kernel_rfl) (by kernel_rfl) (fun c a w h=>DI 87 _ _ (by decide) c a w h) (Or.inl ⟨by rfl,fun W hW=> ?YT⟩) (by assumption) ?Z5
 case YT=>(try dsimp only at hW);go_simp;try with_reducible rfl
 try simp only[au]
 refine cK 7 (some 88) (v:= ?v8) rfl rfl (by kernel_rfl) (by kernel_rfl) (by kernel_rfl) (fun c a w h=>DI 88 _ _ (by decide) c a w h) (Or.inl ⟨by rfl,fun W hW=> ?YU⟩) (by assumption) ?Z6
 case YU=>(try dsimp only at hW);go_simp;try with_reducible rfl
 try simp only[au]
 refine cK 8 (some 89) (v:= ?v9) rfl rfl (by kernel_rfl) (by kernel_rfl) (by kernel_rfl) (fun c a w h=>DI 89 _ _ (by decide) c a w h) (Or.inl ⟨by rfl,fun W hW=> ?YV⟩) (by assumption) ?Z7
 case YV=>(try dsimp only at hW);go_simp;try with_reducible rfl
 try simp only[au]
 refine cK 9 (some 90) (v:= ?v10) rfl rfl (by kernel_rfl) (by kernel_rfl) (by kernel_rfl) (fun c a w h=>DI 90 _ _ (by decide) c a w h) (Or.inl ⟨by rfl,fun W hW=> ?VI⟩) (by assumption) ?YW
 case VI=>(try dsimp only at hW);go_simp;try with_reducible rfl
 try simp only[au]
 refine cK 10 (some 91) (v:= ?v11) rfl rfl (by kernel_rfl) (by kernel_rfl) (by kernel_rfl) (fun c a w h=>DI 91 _ _ (by decide) c a w h) (Or.inl ⟨by rfl,fun W hW=> ?VJ⟩) (by assumption) ?YX
 case VJ=>(try dsimp only at hW);go_simp;try with_reducible rfl
 try simp only[au]
 refine wpAnyH_ready (rs:=[11]) (by kernel_rfl) (by simp) ?_
 refine aI (some 92) rfl rfl (fun K hK=> ?_) AllReadyH.nil
 go_simp
 refine(Rb A1 A2 A3 A4 c1 c2 c3 c4 f (w.heap.size+2) w1.heap.size u x d.year W3 (hz0▸hF.up hb3) (by omega) (by omega) ((hf.below (s3.below.mono (by omega))).more (by omega)) (by omega) hm hcp HE.out).mono ?_
 rintro e w4 ⟨hx4,K6⟩
 rw[HM.out]at K6
 subst K6
 have s9:DSt w w4:=⟨s3.below.trans (hx4.mono (by omega)),Nat.le_trans s3.sz hx4.size,(hx4.block _ (by omega)).trans s3.ke⟩
 refine leaves_cons (f:=96) (args:= #[.pointer (some ⟨w.heap.size+1,0,none⟩)]) (by simp) (by simp[go_sem]) ?_
 refine(iY _ _ _ _ s9.ke).mono ?_
 rintro e u' w'' ⟨rfl,rfl,rfl⟩
 have JF:=heap_setCell_same _ (w.heap.size+1) 0 _ _ (.int .i64 E) s9.ke
 obtain⟨hce,hfe⟩:=ah JF
 exact⟨.int .i64 E,by simp[results,results88,go_sem,hce],s9.aAy (Nat.le_of_lt hbd) _,rfl⟩
theorem aBO (bd:Nat)(l:List (Pl.j6×Option Addr×Nat))(v:Value)(A:Option Addr)(c:Nat)(k:ByteArray)(ws:List ByteArray)(w:World)(CZ:Env w)(hD:HY bd l w v)(_h8:8<=bd)
  (hw:d9 w w.heap.size A (k::ws)) (hc:(k::ws).length<=c) (hs:dK (k::ws)) (hk:k≠Pl.CQ) (x:Pl.kZ) (hform:Pl.form (k::ws)=some x) (l0:List (Pl.j6×Option Addr×Nat)) (d:Pl.j6) (p:Option Addr×Nat) (hl:l=l0++[(d,p)]) (h20:decide ((d.calls.length:Int)<20)=true) (c0:Pl.aZ) (hmd:Pl.jF f x d.year=.ok c0) (hf:bB w bd A1 A2 A3 A4 f) (hm:Small f) (hcp:dY c1 c2 c3 c4 f) (hE:Pl.aR f=0):
  Calls prog 88 #[.agg (fq A1 A2 A3 A4 c1 c2 c3 c4 f),.pointer (some ⟨bd,0,none⟩),.slice A (ws.length+1) c] w fun e w'=>aBY bd l v w (.ok (l0.map (·.1)++[{d with calls:=d.calls++[c0]}])) e w':=by
 have hbd:=hD.lt
 obtain⟨b,off,rfl,hb,q0⟩:=d9.gY hw (k:=0) (by simp)
 simp only[Nat.add_zero,List.getElem_cons_zero]at q0
 have e1:(0:Int)<((ws.length:Nat):Int)+1:=by omega
 have hkd:((k.toList==Pl.CQ.toList))=false:=by rw[dF];exact decide_eq_false hk
 have kf0:=heap_alloc2_old w (.cells (fq A1 A2 A3 A4 c1 c2 c3 c4 f) 28) (.cells #[.int .i64 0] 29)
 have ke:=heap_alloc2_new w (.cells (fq A1 A2 A3 A4 c1 c2 c3 c4 f) 28) (.cells #[.int .i64 0] 29)
 have hb0:Below w.heap.size w ((w.alloc (.cells (fq A1 A2 A3 A4 c1 c2 c3 c4 f) 28)).alloc (.cells #[.int .i64 0] 29)):=((Below.refl _ w).alloc (Nat.le_refl _) _).alloc (by simp) _
 have s0:DSt w ((w.alloc (.cells (fq A1 A2 A3 A4 c1 c2 c3 c4 f) 28)).alloc (.cells #[.int .i64 0] 29)):=⟨hb0,by simp,ke⟩
 have hz0:((w.alloc (.cells (fq A1 A2 A3 A4 c1 c2 c3 c4 f) 28)).alloc (.cells #[.int .i64 0] 29)).heap.size=w.heap.size+2:=by simp
 have hfm:=DN (some ⟨b,off,none⟩) c (k::ws) ((w.alloc (.cells (fq A1 A2 A3 A4 c1 c2 c3 c4 f) 28)).alloc (.cells #[.int .i64 0] 29)) (CZ.up s0.below) (hw.up s0.below) hc hs
 rw[hform]at hfm
 unfold Pl.CQ at hkd
 rw[show(⟨#[100,101,101,100]⟩:ByteArray).toList=[100,101,101,100] from by rw[ByteArray.toList_eq]]at hkd
 have aCp:d.calls.length<=100000:=by simp at h20;omega
 subst hl
 obtain⟨ba,cp,rfl,_,_,hcell,happ⟩:=aAJ hD c0 (by omega)
 have XD:=hD.few
 rw[List.length_append,List.length_singleton]at XD
 unfold maxLen at XD
 have e2:(0:Int)<((l0.length+1:Nat):Int):=by omega
 have e3:IntKind.i64.wrap (((l0.length+1:Nat):Int)-1)=(l0.length:Int):=by rw[IntWalk.i64_in _ (by omega)];omega
 have e3':IntKind.i64.wrap ((l0.length:Int)+1-1)=(l0.length:Int):=by rw[IntWalk.i64_in _ (by omega)];omega
 have e3s:IntKind.i64.wrap (l0.length:Int)=(l0.length:Int):=IntWalk.i64_in _ (by omega)
 have e4:(0:Int)<=(l0.length:Int):=by omega
 have e5:(l0.length:Int)<((l0.length+1:Nat):Int):=by omega
 have e6:(l0.length:Int)<(l0.length:Int)+1:=by omega
 have HM:=Lib.hid hmd
 clear hmd
 clear ke hb0
 have hx5:=Jy hform
 have HE:=Lib.hid hE
 clear hE hform
 go_enter_defers func88,ntmps88
 go_wp2_with (first|(go_at_call 100;refine hfm.mono ?_;rintro e w1 ⟨hx,u,rfl,hF⟩;have s1:=s0.up hx;have kf1:=(hx.block _ (by omega)).trans kf0;have hD1:=hD.below s1.below;obtain⟨hcb,ru⟩:=ah hD1.box)|(go_at_call 97;refine(uYs _ _).mono ?_;rintro e w' ⟨rfl,rfl⟩))
 have s2:DSt w w1.drew:=s1.up ((Below.refl _ w1).drew)
 have kf2:w1.drew.heap[w.heap.size]?=_:=kf1
 obtain⟨y1,y2,_⟩:=hcell _ s2.below
 unfold slv at y2
 go_region_held3 (fun W=>W.cell? ⟨bd,0,none⟩=some (.slice (some ⟨ba,0,none⟩) (l0.length+1) cp)) (exact(hcb 0)) (fail)
 go_wp2_with (go_at_call 97;refine(uYs _ _).mono ?_;rintro e w' ⟨rfl,rfl⟩)
 have VW:=s1.sz
 clear hcb ru hD1 s1 kf1
 have aCI:=fun W1 hb=>happ W1 hb
 have s3:DSt w w1.drew.drew:=s2.up ((Below.refl _ _).drew)
 obtain⟨z1,z2,_⟩:=hcell _ s3.below
 unfold slv at z2
 have hl2:=ak (show w1.drew.drew.heap[w.heap.size]?=_ from kf2) underlying28 rfl av
 have hnx: ∀i,Dx bd (.slice (some ⟨ba,0,none⟩) (l0.length+1) cp) (l0++[(d,p)]) i->i<w.heap.size:=fun i hi=>(hD.dx hi).2
 have E_:=Rb A1 A2 A3 A4 c1 c2 c3 c4 f (w.heap.size+2) w1.heap.size u x d.year w1.drew.drew (hz0▸hF.up (((Below.refl _ w1).drew).drew)) (Nat.le_refl _) (by omega) ((hf.below (s3.below.mono (by omega))).more (by omega)) VW hm hcp HE.out
 rw[HM.out]at E_
 have kf3:w1.drew.drew.heap[w.heap.size]?=_:=kf2
 have hz3:w1.drew.drew.heap.size=w1.heap.size:=rfl
 have hbp: ∀i,blk p=some i->i<w.heap.size:=fun i hi=>hnx i (.inr (.inr ⟨(d,p),by simp,hi⟩))
 refine wp_region_held_drew (S:=fun W=>(loadVar 28 ⟨w.heap.size,0,none⟩).run prog W=.ok (.agg (fq A1 A2 A3 A4 c1 c2 c3 c4 f)) W∧W.cell? ⟨ba,l0.length*4+1,none⟩=some (.int .i64 d.year)) (by kernel_rfl) ⟨ak kf2 underlying28 rfl av,y1⟩ (fun hHeld=> ?_)
 clear s2 kf2 y1 y2 hF hl2
 generalize w1.drew.drew=W3 at*
 refine cK 0 (some 81) (v:= ?v12) rfl rfl (by kernel_rfl) (by kernel_rfl) (by kernel_rfl) (fun c a w h=>DI 81 _ _ (by decide) c a w h) (Or.inl ⟨by rfl,fun W hW=> ?VK⟩) (by assumption) ?YZ
 case VK=>(try dsimp only at hW);go_simp;try with_reducible rfl
 try simp only[au]
 refine cK 1 (some 82) (v:= ?v13) rfl rfl (by kernel_rfl) (by kernel_rfl) (by kernel_rfl) (fun c a w h=>DI 82 _ _ (by decide) c a w h) (Or.inl ⟨by rfl,fun W hW=> ?VL⟩) (by assumption) ?Y0
 case VL=>(try dsimp only at hW);go_simp;try with_reducible rfl
 try simp only[au]
 refine cK 2 (some 83) (v:= ?v14) rfl rfl (by kernel_rfl) (by kernel_rfl) (by kernel_rfl) (fun c a w h=>DI 83 _ _ (by decide) c a w h) (Or.inl ⟨by rfl,fun W hW=> ?VN⟩) (by assumption) ?Y1
 case VN=>(try dsimp only at hW);go_simp;try with_reducible rfl
 try simp only[au]
 refine cK 3 (some 84) (v:= ?v15) rfl rfl (by kernel_rfl) (by kernel_rfl) (by kernel_rfl) (fun c a w h=>DI 84 _ _ (by decide) c a w h) (Or.inl ⟨by rfl,fun W hW=> ?VO⟩) (by assumption) ?Y2
 case VO=>(try dsimp only at hW);go_simp;try with_reducible rfl
 try simp only[au]
 refine cK 5 (some 86) (v:= ?v16) rfl rfl (by kernel_rfl) (by kernel_rfl) (by kernel_rfl) (fun c a w h=>DI 86 _ _ (by decide) c a w h) (Or.inl ⟨by rfl,fun W hW=> ?aCq⟩) (by assumption) ?aCM
 case aCq=>(try dsimp only at hW);go_simp;try with_reducible rfl
 try simp only[au]
 refine cK 6 (some 87) (v:= ?v17) rfl rfl (by kernel_rfl) (by kernel_rfl) (by kernel_rfl) (fun c a w h=>DI 87 _ _ (by decide) c a w h) (Or.inl ⟨by rfl,fun W hW=> ?aCr⟩) (by assumption) ?aCN
 case aCr=>(try dsimp only at hW);go_simp;try with_reducible rfl
 try simp only[au]
 refine cK 7 (some 88) (v:= ?v18) rfl rfl (by kernel_rfl) (by kernel_rfl) (by kernel_rfl) (fun c a w h=>DI 88 _ _ (by decide) c a w h) (Or.inl ⟨by rfl,fun W hW=> ?aCs⟩) (by assumption) ?aCO
 case aCs=>(try dsimp only at hW);go_simp;try with_reducible rfl
 try simp only[au]
 refine cK 8 (some 89) (v:= ?v19) rfl rfl (by kernel_rfl) (by kernel_rfl) (by kernel_rfl) (fun c a w h=>DI 89 _ _ (by decide) c a w h) (Or.inl ⟨by rfl,fun W hW=> ?aCt⟩) (by assumption) ?aCP
 case aCt=>(try dsimp only at hW);go_simp;try with_reducible rfl
 try simp only[au]
 refine cK 9 (some 90) (v:= ?v20) rfl rfl (by kernel_rfl) (by kernel_rfl) (by kernel_rfl) (fun c a w h=>DI 90 _ _ (by decide) c a w h) (Or.inl ⟨by rfl,fun W hW=> ?aCu⟩) (by assumption) ?aCQ
 case aCu=>(try dsimp only at hW);go_simp;try with_reducible rfl
 try simp only[au]
 refine cK 10 (some 91) (v:= ?v21) rfl rfl (by kernel_rfl) (by kernel_rfl) (by kernel_rfl) (fun c a w h=>DI 91 _ _ (by decide) c a w h) (Or.inl ⟨by rfl,fun W hW=> ?aCv⟩) (by assumption) ?aCR
 case aCv=>(try dsimp only at hW);go_simp;try with_reducible rfl
 try simp only[au]
 refine wpAnyH_ready (rs:=[4,11]) (by kernel_rfl) (by simp) ?_
 refine aI (some 85) rfl rfl (fun K hK=> ?_) (aI (some 92) rfl rfl (fun K hK=> ?_) AllReadyH.nil)
 ·have y4:=z2
  go_simp
  refine hK.out _ _ ⟨ak kf3 underlying28 rfl av,z1⟩ (fun hHeld=> ?_)
  clear hK K
  try simp only[au]
  refine wpAnyH_ready (rs:=[11]) (by kernel_rfl) (by simp) ?_
  refine aI (some 92) rfl rfl (fun K hK=> ?_) AllReadyH.nil
  go_simp
  refine E_.mono ?_
  rintro e w4 ⟨hx4,rfl⟩
  have s4:DSt w w4:=⟨s3.below.trans (hx4.mono (by omega)),Nat.le_trans s3.sz hx4.size,(hx4.block _ (by omega)).trans s3.ke⟩
  have VR:=(hx4.block _ (by omega)).trans kf3
  obtain⟨v1,v2,_⟩:=hcell w4 s4.below
  unfold slv at v2
  refine hK.out _ _ ⟨ak VR underlying28 rfl av,v1⟩ (fun hHeld=> ?_)
  clear hK K
  try simp only[au]
  refine wpAnyH_ready (rs:=[12]) (by kernel_rfl) (by simp) ?_
  refine aI (some 93) rfl rfl (fun K hK=> ?_) AllReadyH.nil
  go_simp
  have s5:=s4.alloc (.cells (kq c0) 48)
  obtain⟨u1,u2,_⟩:=hcell _ s5.below
  unfold slv at u2
  have UD:=(Below.heap_alloc w4 (.cells (kq c0) 48) _ (lO VR)).trans VR
  refine hK.out _ _ ⟨ak UD underlying28 rfl av,u1⟩ (fun hHeld=> ?_)
  clear hK K
  try simp only[au]
  obtain⟨g',cap',w6,hrun,hc6,hf6,YS,Ws,hD6,hb6,aBZ,hN6⟩:=happ w4 s4.below
  have hrun:(Builtin.append_ #[88,88] 88 #[.slice p.1 d.calls.length p.2,.slice (some ⟨w4.heap.size,0,none⟩) 1 1]).run prog (w4.alloc (.cells (kq c0) 48))=.ok (.slice (some ⟨g',0,none⟩) (d.calls.length+1) cap') w6:=hrun
  have D6:=Lib.hid hD6
  have N6:=Lib.hid hN6
  have hs4:=s4.sz
  have Yu:=(Ws.block _ (by omega) (fun e=>by have:=hbp _ e.symm;omega)).trans VR
  have Yv:=(Ws.block _ (by omega) (fun e=>by have:=hbp _ e.symm;omega)).trans s4.ke
  clear hD6 hN6 happ
  unfold slv at hc6
  refine wpAnyH_ready (rs:=[13]) (by kernel_rfl) (by simp) ?_
  refine aI (some 94) rfl rfl (fun K hK=> ?_) AllReadyH.nil
  go_simp
  refine hK.out _ _ ⟨ak Yu underlying28 rfl av,YS⟩ (fun hHeld=> ?_)
  clear hK K
  try simp only[au]
  refine wpAnyH_ready (rs:=[14]) (by kernel_rfl) (by simp) ?_
  refine aI (some 95) rfl rfl (fun K hK=> ?_) AllReadyH.nil
  go_simp
  refine hK.out _ _ ⟨ak Yu underlying28 rfl av,YS⟩ (fun hHeld=> ?_)
  clear hK K
  try simp only[au]
  refine wpAnyH_ready (rs:=[15]) (by kernel_rfl) (by simp) ?_
  refine aI (some 96) rfl rfl (fun K hK=> ?_) AllReadyH.nil
  go_simp
  refine hK.out _ _ ⟨ak Yu underlying28 rfl av,YS⟩ (fun hHeld=> ?_)
  clear hK K
  try simp only[au]
  have hba:ba<w.heap.size:=hnx ba (.inr (.inl rfl))
  have kf7:=(Below.heap_setCell w6 ⟨ba,l0.length*4+3,none⟩ (.slice (some ⟨g',0,none⟩) (d.calls.length+1) cap') w.heap.size (by simp;omega)).trans Yu
  have ke7:=(Below.heap_setCell w6 ⟨ba,l0.length*4+3,none⟩ (.slice (some ⟨g',0,none⟩) (d.calls.length+1) cap') (w.heap.size+1) (by simp;omega)).trans Yv
  have YT:(w6.setCell ⟨ba,l0.length*4+3,none⟩ (.slice (some ⟨g',0,none⟩) (d.calls.length+1) cap')).cell? ⟨ba,l0.length*4+1,none⟩=some (.int .i64 d.year):=(World.cell?_setCell_other w6 _ _ _ (by simp)).trans YS
  refine wpAnyH_ready (rs:=[16]) (by kernel_rfl) (by simp) ?_
  refine aI none rfl rfl (fun K hK=> ?_) AllReadyH.nil
  go_simp
  refine hK.out _ _ ⟨ak kf7 underlying28 rfl av,YT⟩ (fun hHeld=> ?_)
  clear hK K
  try simp only[au]
  refine wpAnyH_done (by kernel_rfl) ?_ _
  obtain⟨hce,hfe⟩:=ah ke7
  go_wp2_with fail
  refine leaves_cons (f:=96) (args:= #[.pointer (some ⟨w.heap.size+1,0,none⟩)]) (by simp) (by simp[go_sem]) ?_
  refine(oV _ _).mono ?_
  rintro e u' w'' ⟨rfl,rfl,rfl⟩
  have ke8:=heap_setCell_same _ (w.heap.size+1) 0 _ _ (.int .i64 0) ke7
  obtain⟨aBD,aCd⟩:=ah ke8
  simp[Leaves,settle,results,results88,go_sem,aBD]
  refine⟨⟨hb6.b.setCell (p:=⟨w.heap.size+1,0,none⟩) (by simp;omega) _,fun i hi hx=>(Below.heap_setCell _ _ _ _ (by simp;omega)).trans (hb6.k i hi hx)⟩,rfl,_,_,?_,D6.out.kept (cB _ _ _ _) (fun e=> ?_),fun i hi=> ?_⟩
  ·simp
  ·rcases N6.out _ e with h|h
   ·have:=hnx _ h;omega
   ·omega
  ·rcases N6.out i hi with h|h
   ·exact .inl h
   ·exact .inr (by omega)
 ·skip
  go_simp
  refine E_.mono ?_
  rintro e w4 ⟨hx4,rfl⟩
  have s4:DSt w w4:=⟨s3.below.trans (hx4.mono (by omega)),Nat.le_trans s3.sz hx4.size,(hx4.block _ (by omega)).trans s3.ke⟩
  have VR:=(hx4.block _ (by omega)).trans kf3
  obtain⟨v1,v2,_⟩:=hcell w4 s4.below
  unfold slv at v2
  refine hK.out _ _ ⟨ak VR underlying28 rfl av,v1⟩ (fun hHeld=> ?_)
  clear hK K
  try simp only[au]
  refine wpAnyH_ready (rs:=[4,12]) (by kernel_rfl) (by simp) ?_
  refine aI (some 85) rfl rfl (fun K hK=> ?_) (aI (some 93) rfl rfl (fun K hK=> ?_) AllReadyH.nil)
  ·skip
   go_simp
   refine hK.out _ _ ⟨ak VR underlying28 rfl av,v1⟩ (fun hHeld=> ?_)
   clear hK K
   try simp only[au]
   refine wpAnyH_ready (rs:=[12]) (by kernel_rfl) (by simp) ?_
   refine aI (some 93) rfl rfl (fun K hK=> ?_) AllReadyH.nil
   go_simp
   have s5:=s4.alloc (.cells (kq c0) 48)
   obtain⟨u1,u2,_⟩:=hcell _ s5.below
   unfold slv at u2
   have UD:=(Below.heap_alloc w4 (.cells (kq c0) 48) _ (lO VR)).trans VR
   refine hK.out _ _ ⟨ak UD underlying28 rfl av,u1⟩ (fun hHeld=> ?_)
   clear hK K
   try simp only[au]
   obtain⟨g',cap',w6,hrun,hc6,hf6,YS,Ws,hD6,hb6,aBZ,hN6⟩:=happ w4 s4.below
   have hrun:(Builtin.append_ #[88,88] 88 #[.slice p.1 d.calls.length p.2,.slice (some ⟨w4.heap.size,0,none⟩) 1 1]).run prog (w4.alloc (.cells (kq c0) 48))=.ok (.slice (some ⟨g',0,none⟩) (d.calls.length+1) cap') w6:=hrun
   have D6:=Lib.hid hD6
   have N6:=Lib.hid hN6
   have hs4:=s4.sz
   have Yu:=(Ws.block _ (by omega) (fun e=>by have:=hbp _ e.symm;omega)).trans VR
   have Yv:=(Ws.block _ (by omega) (fun e=>by have:=hbp _ e.symm;omega)).trans s4.ke
   clear hD6 hN6 happ
   unfold slv at hc6
   refine wpAnyH_ready (rs:=[13]) (by kernel_rfl) (by simp) ?_
   refine aI (some 94) rfl rfl (fun K hK=> ?_) AllReadyH.nil
   go_simp
   refine hK.out _ _ ⟨ak Yu underlying28 rfl av,YS⟩ (fun hHeld=> ?_)
   clear hK K
   try simp only[au]
   refine wpAnyH_ready (rs:=[14]) (by kernel_rfl) (by simp) ?_
   refine aI (some 95) rfl rfl (fun K hK=> ?_) AllReadyH.nil
   go_simp
   refine hK.out _ _ ⟨ak Yu underlying28 rfl av,YS⟩ (fun hHeld=> ?_)
   clear hK K
   try simp only[au]
   refine wpAnyH_ready (rs:=[15]) (by kernel_rfl) (by simp) ?_
   refine aI (some 96) rfl rfl (fun K hK=> ?_) AllReadyH.nil
   go_simp
   refine hK.out _ _ ⟨ak Yu underlying28 rfl av,YS⟩ (fun hHeld=> ?_)
   clear hK K
   try simp only[au]
   have hba:ba<w.heap.size:=hnx ba (.inr (.inl rfl))
   have kf7:=(Below.heap_setCell w6 ⟨ba,l0.length*4+3,none⟩ (.slice (some ⟨g',0,none⟩) (d.calls.length+1) cap') w.heap.size (by simp;omega)).trans Yu
   have ke7:=(Below.heap_setCell w6 ⟨ba,l0.length*4+3,none⟩ (.slice (some ⟨g',0,none⟩) (d.calls.length+1) cap') (w.heap.size+1) (by simp;omega)).trans Yv
   have YT:(w6.setCell ⟨ba,l0.length*4+3,none⟩ (.slice (some ⟨g',0,none⟩) (d.calls.length+1) cap')).cell? ⟨ba,l0.length*4+1,none⟩=some (.int .i64 d.year):=(World.cell?_setCell_other w6 _ _ _ (by simp)).trans YS
   refine wpAnyH_ready (rs:=[16]) (by kernel_rfl) (by simp) ?_
   refine aI none rfl rfl (fun K hK=> ?_) AllReadyH.nil
   go_simp
   refine hK.out _ _ ⟨ak kf7 underlying28 rfl av,YT⟩ (fun hHeld=> ?_)
   clear hK K
   try simp only[au]
   refine wpAnyH_done (by kernel_rfl) ?_ _
   obtain⟨hce,hfe⟩:=ah ke7
   go_wp2_with fail
   refine leaves_cons (f:=96) (args:= #[.pointer (some ⟨w.heap.size+1,0,none⟩)]) (by simp) (by simp[go_sem]) ?_
   refine(oV _ _).mono ?_
   rintro e u' w'' ⟨rfl,rfl,rfl⟩
   have ke8:=heap_setCell_same _ (w.heap.size+1) 0 _ _ (.int .i64 0) ke7
   obtain⟨aBD,aCd⟩:=ah ke8
   simp[Leaves,settle,results,results88,go_sem,aBD]
   refine⟨⟨hb6.b.setCell (p:=⟨w.heap.size+1,0,none⟩) (by simp;omega) _,fun i hi hx=>(Below.heap_setCell _ _ _ _ (by simp;omega)).trans (hb6.k i hi hx)⟩,rfl,_,_,?_,D6.out.kept (cB _ _ _ _) (fun e=> ?_),fun i hi=> ?_⟩
   ·simp
   ·rcases N6.out _ e with h|h
    ·have:=hnx _ h;omega
    ·omega
   ·rcases N6.out i hi with h|h
    ·exact .inl h
    ·exact .inr (by omega)
  ·skip
   go_simp
   have s5:=s4.alloc (.cells (kq c0) 48)
   obtain⟨u1,u2,_⟩:=hcell _ s5.below
   unfold slv at u2
   have UD:=(Below.heap_alloc w4 (.cells (kq c0) 48) _ (lO VR)).trans VR
   refine hK.out _ _ ⟨ak UD underlying28 rfl av,u1⟩ (fun hHeld=> ?_)
   clear hK K
   try simp only[au]
   refine wpAnyH_ready (rs:=[4]) (by kernel_rfl) (by simp) ?_
   refine aI (some 85) rfl rfl (fun K hK=> ?_) AllReadyH.nil
   go_simp
   refine hK.out _ _ ⟨ak UD underlying28 rfl av,u1⟩ (fun hHeld=> ?_)
   clear hK K
   try simp only[au]
   obtain⟨g',cap',w6,hrun,hc6,hf6,YS,Ws,hD6,hb6,aBZ,hN6⟩:=happ w4 s4.below
   have hrun:(Builtin.append_ #[88,88] 88 #[.slice p.1 d.calls.length p.2,.slice (some ⟨w4.heap.size,0,none⟩) 1 1]).run prog (w4.alloc (.cells (kq c0) 48))=.ok (.slice (some ⟨g',0,none⟩) (d.calls.length+1) cap') w6:=hrun
   have D6:=Lib.hid hD6
   have N6:=Lib.hid hN6
   have hs4:=s4.sz
   have Yu:=(Ws.block _ (by omega) (fun e=>by have:=hbp _ e.symm;omega)).trans VR
   have Yv:=(Ws.block _ (by omega) (fun e=>by have:=hbp _ e.symm;omega)).trans s4.ke
   clear hD6 hN6 happ
   unfold slv at hc6
   refine wpAnyH_ready (rs:=[13]) (by kernel_rfl) (by simp) ?_
   refine aI (some 94) rfl rfl (fun K hK=> ?_) AllReadyH.nil
   go_simp
   refine hK.out _ _ ⟨ak Yu underlying28 rfl av,YS⟩ (fun hHeld=> ?_)
   clear hK K
   try simp only[au]
   refine wpAnyH_ready (rs:=[14]) (by kernel_rfl) (by simp) ?_
   refine aI (some 95) rfl rfl (fun K hK=> ?_) AllReadyH.nil
   go_simp
   refine hK.out _ _ ⟨ak Yu underlying28 rfl av,YS⟩ (fun hHeld=> ?_)
   clear hK K
   try simp only[au]
   refine wpAnyH_ready (rs:=[15]) (by kernel_rfl) (by simp) ?_
   refine aI (some 96) rfl rfl (fun K hK=> ?_) AllReadyH.nil
   go_simp
   refine hK.out _ _ ⟨ak Yu underlying28 rfl av,YS⟩ (fun hHeld=> ?_)
   clear hK K
   try simp only[au]
   have hba:ba<w.heap.size:=hnx ba (.inr (.inl rfl))
   have kf7:=(Below.heap_setCell w6 ⟨ba,l0.length*4+3,none⟩ (.slice (some ⟨g',0,none⟩) (d.calls.length+1) cap') w.heap.size (by simp;omega)).trans Yu
   have ke7:=(Below.heap_setCell w6 ⟨ba,l0.length*4+3,none⟩ (.slice (some ⟨g',0,none⟩) (d.calls.length+1) cap') (w.heap.size+1) (by simp;omega)).trans Yv
   have YT:(w6.setCell ⟨ba,l0.length*4+3,none⟩ (.slice (some ⟨g',0,none⟩) (d.calls.length+1) cap')).cell? ⟨ba,l0.length*4+1,none⟩=some (.int .i64 d.year):=(World.cell?_setCell_other w6 _ _ _ (by simp)).trans YS
   refine wpAnyH_ready (rs:=[16]) (by kernel_rfl) (by simp) ?_
   refine aI none rfl rfl (fun K hK=> ?_) AllReadyH.nil
   go_simp
   refine hK.out _ _ ⟨ak kf7 underlying28 rfl av,YT⟩ (fun hHeld=> ?_)
   clear hK K
   try simp only[au]
   refine wpAnyH_done (by kernel_rfl) ?_ _
   obtain⟨hce,hfe⟩:=ah ke7
   go_wp2_with fail
   refine leaves_cons (f:=96) (args:= #[.pointer (some ⟨w.heap.size+1,0,none⟩)]) (by simp) (by simp[go_sem]) ?_
   refine(oV _ _).mono ?_
   rintro e u' w'' ⟨rfl,rfl,rfl⟩
   have ke8:=heap_setCell_same _ (w.heap.size+1) 0 _ _ (.int .i64 0) ke7
   obtain⟨aBD,aCd⟩:=ah ke8
   simp[Leaves,settle,results,results88,go_sem,aBD]
   refine⟨⟨hb6.b.setCell (p:=⟨w.heap.size+1,0,none⟩) (by simp;omega) _,fun i hi hx=>(Below.heap_setCell _ _ _ _ (by simp;omega)).trans (hb6.k i hi hx)⟩,rfl,_,_,?_,D6.out.kept (cB _ _ _ _) (fun e=> ?_),fun i hi=> ?_⟩
   ·simp
   ·rcases N6.out _ e with h|h
    ·have:=hnx _ h;omega
    ·omega
   ·rcases N6.out i hi with h|h
    ·exact .inl h
    ·exact .inr (by omega)
namespace Pl
variable (A1 A2 A3 A4 : Option Addr) (c1 c2 c3 c4 : Nat) (f : Pl.aL)
theorem aAq (f:aL)(all:List j6)(ws:List ByteArray):dn f all (CQ::ws)=match (aP ws).bind fun p=>(Go.Proofs.bN p.2).bind fun q=>(Go.Proofs.bN q.2).bind fun s=>if s.2=[]then some (p.1,q.1,s.1)else Option.none with
  |some (n,y,r)=>if 60<=all.length then .error 2 else if ¬(1<=y∧y<=3000∧0<=r∧r<=1000)then .error 1 else if all.any (fun d=>decide (d.name=n))=true then .error 6 else .ok (all++[⟨n,y,r,[]⟩])
  |Option.none=> .error 4:=by
 unfold dn
 rw[if_pos (show(CQ::ws).head?=some CQ from rfl)]
 match ws with
 | []=>rfl
 | [a]=>cases h:isName a<;>simp[aP,Go.Proofs.bN,h]
 | [a,b]=>cases h:isName a<;>cases h2:bV b<;>simp[aP,Go.Proofs.bN,h,h2]
 | [a,b,c]=>cases h:isName a<;>cases h2:bV b<;>cases h3:bV c<;>simp[aP,Go.Proofs.bN,h,h2,h3]
 |a::b::c::d::e=>cases h:isName a<;>cases h2:bV b<;>cases h3:bV c<;>simp[aP,Go.Proofs.bN,h,h2,h3]
theorem aBP {f:aL}{all:List j6}{k:ByteArray}{ws:List ByteArray}(hk:k≠CQ):dn f all (k::ws)=match form (k::ws)with
  |Option.none=> .error 4
  | some x=>match all.getLast? with
   |Option.none=> .error 4
   |some d=>if 20<=d.calls.length then .error 2 else match jF f x d.year with
    | .error e=> .error e
    | .ok c=> .ok (all.dropLast++[{d with calls:=d.calls++[c]}]):=by
 unfold dn
 rw[if_neg (by simpa using hk)]
 rfl
end Pl
theorem aA9 (bd:Nat) (l:List (Pl.j6×Option Addr×Nat)) (v:Value) (A:Option Addr) (c:Nat) (ws:List ByteArray) (w:World) (CZ:Env w) (hD:HY bd l w v) (h8:8<=bd)
  (hw:d9 w w.heap.size A ws) (hc:ws.length<=c) (hs:dK ws) (hne:ws≠ []) (hf:bB w bd A1 A2 A3 A4 f) (hm:Small f) (hcp:dY c1 c2 c3 c4 f) (hE:Pl.aR f=0):
  Calls prog 88 #[.agg (fq A1 A2 A3 A4 c1 c2 c3 c4 f),.pointer (some ⟨bd,0,none⟩),.slice A ws.length c] w (aBY bd l v w (Pl.dn f (l.map (·.1)) ws)):=by
 cases ws with
 |nil=>exact absurd rfl hne
 |cons k ws=>
 obtain⟨_,_,hs1⟩:=hs.tail
 by_cases hk:k=Pl.CQ
 ·subst hk
  cases h1:aP ws with
  | none=>
   rw[Pl.aAq,h1]
   by_cases hn:ws=[]
   ·subst hn
    exact(aBy A1 A2 A3 A4 c1 c2 c3 c4 f bd l v A c w CZ hD h8 hw (by simpa using hc)).mono fun _ _ h=>h
   ·exact(aBk A1 A2 A3 A4 c1 c2 c3 c4 f bd l v A c ws w CZ hD h8 hw (by simpa using hc) hs1 h1 hn).mono fun _ _ h=>h
  | some p=>
   obtain⟨a,r⟩:=p
   cases h2:bN r with
   |none=>
    have hr:Pl.dn f (l.map (·.1)) (Pl.CQ::ws)=.error 4:=by rw[Pl.aAq,h1];simp[h2]
    rw[hr]
    exact(aBl A1 A2 A3 A4 c1 c2 c3 c4 f bd l v A c ws w CZ hD h8 hw (by simpa using hc) hs1 a r h1 h2).mono fun _ _ h=>h
   | some q=>
    obtain⟨y,r2⟩:=q
    cases h3:bN r2 with
    |none=>
     have hr:Pl.dn f (l.map (·.1)) (Pl.CQ::ws)=.error 4:=by rw[Pl.aAq,h1];simp[h2,h3]
     rw[hr]
     exact(aBm A1 A2 A3 A4 c1 c2 c3 c4 f bd l v A c ws w CZ hD h8 hw (by simpa using hc) hs1 a r r2 y h1 h2 h3).mono fun _ _ h=>h
    | some q3=>
     obtain⟨z,r3⟩:=q3
     cases r3 with
     |cons x r3=>
      have hr:Pl.dn f (l.map (·.1)) (Pl.CQ::ws)=.error 4:=by rw[Pl.aAq,h1];simp[h2,h3]
      rw[hr]
      exact(aBz A1 A2 A3 A4 c1 c2 c3 c4 f bd l v A c ws w CZ hD h8 hw (by simpa using hc) hs1 a x r r2 r3 y z h1 h2 h3).mono fun _ _ h=>h
     | nil=>
      have hr:Pl.dn f (l.map (·.1)) (Pl.CQ::ws)=if 60<=l.length then .error 2 else if ¬(1<=y∧y<=3000∧0<=z∧z<=1000)then .error 1 else if (l.any fun x=>decide (x.1.name=a))=true then .error 6 else .ok (l.map (·.1)++[⟨a,y,z,[]⟩]):=by
       have ha:(l.map (·.1)).any (fun d=>decide (d.name=a))=l.any fun x=>decide (x.1.name=a):=by rw[List.any_map];rfl
       rw[Pl.aAq,h1];simp[h2,h3];first|rw[ha]|(split;rfl;split;rfl;rw[ha])
      rw[hr]
      have hir:(Pl.bQ y 1 3000&&Pl.bQ z 0 1000)=decide (1<=y∧y<=3000∧0<=z∧z<=1000):=by unfold Pl.bQ;rw[Bool.eq_iff_iff];simp;omega
      by_cases h4:60<=l.length
      ·rw[if_pos h4]
       exact(aBA A1 A2 A3 A4 c1 c2 c3 c4 f bd l v A c ws w CZ hD h8 hw (by simpa using hc) hs1 a r r2 y z h1 h2 h3 (by simp;omega)).mono fun _ _ h=>h
      rw[if_neg h4]
      by_cases h5:1<=y∧y<=3000∧0<=z∧z<=1000
      ·rw[if_neg (fun h=>h h5)]
       cases h6:(l.any fun x=>decide (x.1.name=a))with
       |true=>
        rw[if_pos rfl]
        exact(aA7 A1 A2 A3 A4 c1 c2 c3 c4 f bd l v A c ws w CZ hD h8 hw (by simpa using hc) hs1 a r r2 y z h1 h2 h3 (by simp;omega) (by rw[hir];exact decide_eq_true h5) h6).mono fun _ _ h=>h
       |false=>
        rw[if_neg (by simp)]
        exact aBN A1 A2 A3 A4 c1 c2 c3 c4 f bd l v A c ws w CZ hD h8 hw (by simpa using hc) hs1 a r r2 y z h1 h2 h3 (by simp;omega) (by rw[hir];exact decide_eq_true h5) h6
      ·rw[if_pos h5]
       exact(aBB A1 A2 A3 A4 c1 c2 c3 c4 f bd l v A c ws w CZ hD h8 hw (by simpa using hc) hs1 a r r2 y z h1 h2 h3 (by simp;omega) (by rw[hir];exact decide_eq_false h5)).mono fun _ _ h=>h
 ·rw [Pl.aBP hk]
  cases hfo:Pl.form (k::ws)with
  |none=>exact(aBn A1 A2 A3 A4 c1 c2 c3 c4 f bd l v A c k ws w CZ hD h8 hw hc hs hk hfo).mono fun _ _ h=>h
  | some x=>
   rcases List.eq_nil_or_concat l with hl|⟨l0,⟨d,p⟩,hl⟩
   ·subst hl
    exact(aA8 A1 A2 A3 A4 c1 c2 c3 c4 f bd [] v A c k ws w CZ hD h8 hw hc hs hk x hfo rfl).mono fun _ _ h=>h
   ·rw[List.concat_eq_append]at hl
    have hg:(l.map (·.1)).getLast?=some d:=by rw[hl];simp
    have hd:(l.map (·.1)).dropLast=l0.map (·.1):=by rw[hl];simp
    rw[hg,hd]
    simp only
    by_cases h20:20<=d.calls.length
    ·rw[if_pos h20]
     exact(aBo A1 A2 A3 A4 c1 c2 c3 c4 f bd l v A c k ws w CZ hD h8 hw hc hs hk x hfo l0 d p hl (by simp;omega)).mono fun _ _ h=>h
    ·rw[if_neg h20]
     cases hmd:Pl.jF f x d.year with
     |error E=>exact(aBC A1 A2 A3 A4 c1 c2 c3 c4 f bd l v A c k ws w CZ hD h8 hw hc hs hk x hfo l0 d p hl (by simp;omega) E hmd hf hm hcp hE).mono fun _ _ h=>h
     |ok c0=>exact aBO A1 A2 A3 A4 c1 c2 c3 c4 f bd l v A c k ws w CZ hD h8 hw hc hs hk x hfo l0 d p hl (by simp;omega) c0 hmd hf hm hcp hE
