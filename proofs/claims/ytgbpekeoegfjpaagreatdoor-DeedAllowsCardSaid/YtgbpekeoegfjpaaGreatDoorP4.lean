/- FCa, PlW, Pm1, BA, PlY, GE, LayB, Pma, JC, JFs, JF, FD, Pmb, JI, JIa, JK, JD, JH, JL in one text. -/
import Derived.Test.YtgbpekeoegfjpaaGreatDoorProg
import Derived.WalkKit
import Derived.WalkLawsBesides
import Derived.WalkSpells
import Derived.Handy
import Derived.Lib.Hide
import Derived.Great.BuildSlice
import Derived.Deep.QuietTactic
import Derived.BigQuiet
import Derived.Deep.RegionHeld3
import Derived.Deep.DeepCutAuto
import Derived.Test.YtgbpekeoegfjpaaGreatDoorP3a
import Derived.Test.YtgbpekeoegfjpaaGreatDoorZ24
import Derived.Test.YtgbpekeoegfjpaaGreatDoorZ02
import Derived.Test.YtgbpekeoegfjpaaGreatDoorZ01
import Derived.Test.YtgbpekeoegfjpaaGreatDoorP3x
import Derived.Test.YtgbpekeoegfjpaaGreatDoorZ00
import Derived.Test.YtgbpekeoegfjpaaGreatDoorZ04
import Derived.Test.YtgbpekeoegfjpaaGreatDoorP3c
import Derived.Shelf.SlSortCmp.WholeK
import Derived.Shelf.SlicesG.Cmp
import Derived.Shelf.SlicesQ.Equal
import Derived.Shelf.SlGeneric
import Derived.Ground.SlsfProg
import Derived.Ground.SlgcProg
import Derived.Ground.SlgqProg
import Derived.Sort.Statements
import Derived.Test.YtgbpekeoegfjpaaGreatDoorP3d
import Derived.Test.YtgbpekeoegfjpaaGreatDoorZ05
import Derived.Test.YtgbpekeoegfjpaaGreatDoorZ22
namespace Go.Proofs.YtgbpekeoegfjpaaGreatDoor
open Go.RowKit
attribute [-go_sem] run_equalIn_agg storeVar loadVar
attribute [local go_sem] lv_int lv_bool lv_u8 lv_string lv_strings lv_stas lv_pars lv_vars
theorem Pl.inB_yes {x a b:Int}:Pl.inB x a b=true↔a<=x∧x<=b:=by unfold Pl.inB;simp
end Go.Proofs.YtgbpekeoegfjpaaGreatDoor
namespace Go.Proofs.YtgbpekeoegfjpaaGreatDoor
namespace Pl
theorem bounds_pts {f:Fld}{c:Cal}{r:Int}(ht:c.tab f.st.length f.li.length): ∀b∈boundsC f c r,b.fr<1+f.li.length*f.st.length∧b.till<1+f.li.length*f.st.length:=by
 intro b hb
 unfold boundsC at hb
 obtain⟨x,hx,hb⟩:=List.mem_flatMap.1 hb
 have:=spans_pts ht x hx
 simp only[spB,List.mem_cons,List.not_mem_nil,or_false]at hb
 rcases hb with rfl|rfl
 ·exact this
 ·exact⟨this.2,this.1⟩
theorem drawnB_ranged {S L:Nat}{y:List Int}(h:drawnB S L y=true): ∀n∈y,0<=n∧n<=100000:=by
 unfold drawnB at h
 simp only[Bool.and_eq_true]at h
 exact rangedB_iff.1 h.2.2.1
theorem drawnB_zero {S L:Nat}{y:List Int}(h:drawnB S L y=true):at0 y 0=0:=by
 unfold drawnB at h
 simp only[Bool.and_eq_true,decide_eq_true_eq]at h
 exact h.2.1
end Pl
namespace Pl
def le4 (a b:Bd):Prop:=a.fr<b.fr∨(a.fr=b.fr∧(a.till<b.till∨(a.till=b.till∧(a.most<b.most∨(a.most=b.most∧a.record<=b.record)))))
theorem le4_refl (a:Bd):le4 a a:=.inr ⟨rfl,.inr ⟨rfl,.inr ⟨rfl,Int.le_refl _⟩⟩⟩
theorem le4_trans (a b c:Bd)(h:le4 a b)(k:le4 b c):le4 a c:=by unfold le4 at*;omega
theorem le4_anti (a b:Bd)(h:le4 a b)(k:le4 b a):a=b:=by
 unfold le4 at*
 obtain⟨a1,a2,a3,a4⟩:=a
 obtain⟨b1,b2,b3,b4⟩:=b
 simp only at h k
 simp only[Bd.mk.injEq]
 omega
theorem sorted_same {l l' m m':List Bd}(hp:l'.Perm l)(hs:l'.Pairwise le4)(hq:m'.Perm m)(ht:m'.Pairwise le4):Lib.compact l'=Lib.compact m'↔ ∀x,x∈l↔x∈m:=by
 constructor
 ·intro h x
  rw[<-hp.mem_iff,<-hq.mem_iff,<-compact_mem l',<-compact_mem m',h]
 ·intro h
  refine strict_eq (R:=fun x y=>le4 x y∧x≠y) (fun a h=>h.2 rfl) (fun a b h k=>h.2 (le4_anti a b h.1 k.1)) (compact_sorted le4 le4_refl le4_trans le4_anti _ hs) (compact_sorted le4 le4_refl le4_trans le4_anti _ ht) fun x=> ?_
  rw[compact_mem,compact_mem,hp.mem_iff,hq.mem_iff]
  exact h x
def partB (a b:List Bd):Bool:=a.all fun x=>b.any fun y=>decide (x=y)
def sameL (a b:List Bd):Bool:=partB a b&&partB b a
theorem partB_iff {a b:List Bd}:partB a b=true↔ ∀x∈a,x∈b:=by
 unfold partB
 rw[List.all_eq_true]
 constructor
 ·intro h x hx
  have:=h x hx
  rw[List.any_eq_true]at this
  obtain⟨y,hy,e⟩:=this
  rw[of_decide_eq_true e];exact hy
 ·intro h x hx
  rw[List.any_eq_true]
  exact⟨x,h x hx,by simp⟩
theorem sameL_iff {a b:List Bd}:sameL a b=true↔ ∀x,x∈a↔x∈b:=by
 unfold sameL
 rw[Bool.and_eq_true,partB_iff,partB_iff]
 exact⟨fun h x=>⟨h.1 x,h.2 x⟩,fun h=>⟨fun x hx=>(h x).1 hx,fun x hx=>(h x).2 hx⟩⟩
theorem sorted_sameL {l l' m m':List Bd}(hp:l'.Perm l)(hs:l'.Pairwise le4)(hq:m'.Perm m)(ht:m'.Pairwise le4):decide (Lib.compact l'=Lib.compact m')=sameL l m:=by
 rw[Bool.eq_iff_iff,decide_eq_true_eq,sameL_iff]
 exact sorted_same hp hs hq ht
def cmp3 (a b:Bd):Int:=if Lib.compareInt a.fr b.fr≠0 then Lib.compareInt a.fr b.fr else if Lib.compareInt a.till b.till≠0 then Lib.compareInt a.till b.till else Lib.compareInt a.most b.most
theorem cmp3_lt (a b:Bd):cmp3 a b<0↔(a.fr<b.fr∨(a.fr=b.fr∧(a.till<b.till∨(a.till=b.till∧a.most<b.most)))):=by
 unfold cmp3 Lib.compareInt
 repeat' split
 all_goals omega
theorem cmp3_le {a b:Bd}(h: ¬cmp3 b a<0)(ha:a.record=b.record):le4 a b:=by
 rw[cmp3_lt]at h
 unfold le4
 omega
theorem boundsC_rec {f:Fld}{c:Cal}{r:Int}: ∀b∈boundsC f c r,b.record=r:=by
 intro b hb
 unfold boundsC at hb
 obtain⟨x,_,hb⟩:=List.mem_flatMap.1 hb
 simp only[spB,List.mem_cons,List.not_mem_nil,or_false]at hb
 rcases hb with rfl|rfl<;>rfl
/-! ### The way back -/
end Pl
open Go.RowKit
theorem squared_b (dx dy:Int)(w:World)(h0: -100000<=dx)(h1:dx<=100000)(h2: -100000<=dy)(h3:dy<=100000):
  Calls Tryz.prog 342 (i2 dx dy) w fun e w'=>e=.returned (.int .i64 (100000000*(dx*dx+dy*dy)))∧w=w':=by
 have a0:=Pl.sq_nonneg dx
 have a1:=(Pl.mul_abs_of h0 h1 h0 h1).2
 have b0:=Pl.sq_nonneg dy
 have b1:=(Pl.mul_abs_of h2 h3 h2 h3).2
 go_enter Tryz.func342,Tryz.ntmps342
 go_wp2
 go_ret
 exact⟨rfl,rfl⟩
set_option maxHeartbeats 2000000 in
theorem misfit_b (b n l y x s east dx dy lo hi:Int)(w:World)(hlo:Hid (Pl.mid b east-n=lo))(hhi:Hid (Pl.mid b east+n=hi))(ho:Pl.courseOk b n l y x s=true)(he0: -60<=east)(he1:east<=60)(hd0:1<=dx)(hd1:dx<=100000)(hy0: -100000<=dy)(hy1:dy<=100000):
  Calls Tryz.prog 303 #[.agg (i6 b n l y x s),.int .i64 east,.int .i64 dx,.int .i64 dy] w fun e w'=>e=.returned (.int .u8 (Pl.misfit lo hi dx (Pl.near l x s) (Pl.far l x s) dy))∧Below w.heap.size w w':=by
 obtain⟨⟨g0,g1⟩,⟨g2,g3⟩,⟨g4,g5⟩,⟨g6,g7⟩,⟨g8,g9⟩,g10,g11⟩:=Pl.Crs.ok_iff (c:=⟨b,n,l,y,x,s⟩) ho
 clear ho
 simp only[]at g0 g1 g2 g3 g4 g5 g6 g7 g8 g9 g10 g11
 have hm:=Pl.mid_bd b east
 have r0: -120<=lo:=by have:=hlo.out;omega
 have r1:hi<=300:=by have:=hhi.out;omega
 clear hm
 obtain⟨⟨l0,l1⟩,l2,l3⟩:=Pl.len_bd g4 g5 g8 g9 g10 g11
 obtain⟨p0,p1⟩:=Pl.mul_le_of l0 l1 l0 l1
 obtain⟨p2,p3⟩:=Pl.mul_le_of l2 l3 l2 l3
 obtain⟨s0,s1⟩:=Pl.sin_bd lo
 obtain⟨c0,c1⟩:=Pl.cos_bd lo
 obtain⟨s2,s3⟩:=Pl.sin_bd hi
 obtain⟨c2,c3⟩:=Pl.cos_bd hi
 obtain⟨q0,q1⟩:=Pl.mul_abs_of hy0 hy1 s0 s1
 obtain⟨q2,q3⟩:=Pl.mul_abs_of (show-100000<=dx by omega) hd1 c0 c1
 obtain⟨q4,q5⟩:=Pl.mul_abs_of hy0 hy1 s2 s3
 obtain⟨q6,q7⟩:=Pl.mul_abs_of (show-100000<=dx by omega) hd1 c2 c3
 go_enter Tryz.func303,Tryz.ntmps303
 go_wp2_with (first
  |(go_at_call 335;refine(sector_h _ _ _ _ _ _ _ lo hi _ hlo hhi g0 g1 g2 g3 he0 he1).mono ?_;rintro e w1 ⟨rfl,hx1⟩;have kb1a:w1.heap[w.heap.size]?=some (.cells _ _ (0,0)):=(hx1.block _ (by first|omega|(simp;done)|(simp;omega))).trans (heap_alloc_new _ _);obtain⟨hc1a,hf1a⟩:=blk_cells kb1a;have hsz1:=hx1.size;(try simp at hsz1);have hb1:Below w.heap.size w w1:=Below.trans (by go_grown) (hx1.mono (by go_size));have hsz1w:w.heap.size<=w1.heap.size:=hb1.size;clear hx1)
  |(go_at_call 338;refine(sin_b _ _).mono ?_;rintro e w2 ⟨rfl,hx2⟩;have hb2:Below w.heap.size w w2:=Below.trans (by go_grown) (hx2.mono (by go_size));clear hx2;have hsz2:w.heap.size<=w2.heap.size:=hb2.size)
  |(go_at_call 337;refine(cos_b _ _).mono ?_;rintro e w2 ⟨rfl,hx2⟩;have hb2:Below w.heap.size w w2:=Below.trans (by go_grown) (hx2.mono (by go_size));clear hx2;have hsz2:w.heap.size<=w2.heap.size:=hb2.size)
  |(go_at_call 342;refine(squared_b _ _ _ (by omega) hd1 hy0 hy1).mono ?_;rintro e w' ⟨rfl,rfl⟩))
 all_goals go_ret
 all_goals exact⟨ret_int (by clear hlo hhi p0 p1 p2 p3 q0 q1 q2 q3 q4 q5 q6 q7 s0 s1 s2 s3 c0 c1 c2 c3;grind [Pl.misfit,Pl.near,Pl.far]),by go_grown⟩
open Go.RowKit
set_option maxHeartbeats 1000000 in
theorem either_b (c:Pl.Crs)(east dx dy:Int)(w:World)(ho:c.ok=true)(he0: -60<=east)(he1:east<=60)(h0:dx≠0)(hd0: -100000<=dx)(hd1:dx<=100000)(hy0: -100000<=dy)(hy1:dy<=100000):
  Calls Tryz.prog 260 #[.agg (cq c),.int .i64 east,.int .i64 dx,.int .i64 dy] w fun e w'=>e=.returned (.int .u8 (Pl.fitD c east dx dy))∧Below w.heap.size w w':=by
 obtain⟨⟨g0,g1⟩,_⟩:=c.ok_iff ho
 have hK:=Lib.hid ho;clear ho
 by_cases hd:dx<0
 ·have hR:Hid (Pl.fitD c east dx dy=Pl.misfit (Pl.mid ((c.b+180)%360) east-c.n) (Pl.mid ((c.b+180)%360) east+c.n) (-dx) (Pl.near c.l c.x c.s) (Pl.far c.l c.x c.s) (-dy)):=by unfold Hid Pl.fitD;rw[if_pos hd];rfl
  go_enter Tryz.func260,Tryz.ntmps260
  go_wp2_with (first
   |(go_at_call 164;refine(norm_b _ _).mono ?_;rintro e w' ⟨rfl,rfl⟩)
   |(go_at_call 303;refine(misfit_b _ _ _ _ _ _ _ _ _ _ _ _ rfl rfl (Pl.Crs.back_ok hK.out) he0 he1 (by omega) (by omega) (by omega) (by omega)).mono ?_;rintro e w2 ⟨rfl,hx2⟩;have hb2:Below w.heap.size w w2:=Below.trans (by go_grown) (hx2.mono (by go_size));clear hx2;have hsz2:w.heap.size<=w2.heap.size:=hb2.size))
  go_ret
  exact⟨by rw[hR.out];rfl,by go_grown⟩
 ·have hR:Hid (Pl.fitD c east dx dy=Pl.misfit (Pl.mid c.b east-c.n) (Pl.mid c.b east+c.n) dx (Pl.near c.l c.x c.s) (Pl.far c.l c.x c.s) dy):=by unfold Hid Pl.fitD;rw[if_neg hd];rfl
  go_enter Tryz.func260,Tryz.ntmps260
  go_wp2_with (first
   |(go_at_call 303;refine(misfit_b _ _ _ _ _ _ _ _ _ _ _ _ rfl rfl hK.out he0 he1 (by omega) (by omega) (by omega) (by omega)).mono ?_;rintro e w2 ⟨rfl,hx2⟩;have hb2:Below w.heap.size w w2:=Below.trans (by go_grown) (hx2.mono (by go_size));clear hx2;have hsz2:w.heap.size<=w2.heap.size:=hb2.size))
  go_ret
  exact⟨by rw[hR.out];rfl,by go_grown⟩
theorem Misfit_b (A:Option Addr)(cp:Nat)(v:List (Int×Int))(c:Pl.Crs)(dx dy:Int)(w:World)(hl:Vars w w.heap.size A v)(hm:v.length<=maxLen):
  Calls Tryz.prog 195 #[.slice A v.length cp,.agg (cq c),.int .i64 dx,.int .i64 dy] w fun e w'=>e=.returned (.tuple #[.int .u8 (Pl.fitR v c dx dy),.int .i64 (Pl.stepE v c dx dy)])∧Below w.heap.size w w':=by
 by_cases h1:Pl.stepE v c dx dy=0
 ·obtain⟨k1,j0,j1,j2,j3,j4⟩:=stepE_ok h1
  have h1':(Pl.stepE v c dx dy !=0)=false:=by simp[h1]
  have hR:Hid (Pl.fitR v c dx dy=Pl.fitD c (Pl.opened v c dx dy) dx dy):=by unfold Hid Pl.fitR Pl.opened;rw[if_pos h1,if_pos h1];rfl
  have hO: -60<=Pl.opened v c dx dy∧Pl.opened v c dx dy<=60:=by unfold Pl.opened;rw[if_pos h1];exact decl_bd v c.y
  obtain⟨o0,o1⟩:=hO
  have H1:=Lib.hid h1
  have HK:=Lib.hid k1
  clear h1 k1
  go_enter Tryz.func195,Tryz.ntmps195
  go_wp2_with (first
   |(go_at_call 246;refine(opened_b _ _ v c _ _ _ (hl.up (by go_grown)) hm).mono ?_;rintro e w1 ⟨rfl,hx1⟩;have kb1a:w1.heap[w.heap.size]?=some (.cells _ _ (0,0)):=(hx1.block _ (by first|omega|(simp;done)|(simp;omega))).trans (heap_alloc_new _ _);obtain⟨hc1a,hf1a⟩:=blk_cells kb1a;have hsz1:=hx1.size;(try simp at hsz1);have hb1:Below w.heap.size w w1:=Below.trans (by go_grown) (hx1.mono (by go_size));have hsz1w:w.heap.size<=w1.heap.size:=hb1.size;clear hx1)
   |(go_at_call 260;refine(either_b c _ _ _ _ HK.out o0 o1 j0 j1 j2 j3 j4).mono ?_;rintro e w3 ⟨rfl,hx3⟩;have hb3:Below w.heap.size w w3:=Below.trans (by go_grown) (hx3.mono (by go_size));clear hx3;have hsz3:w.heap.size<=w3.heap.size:=hb3.size))
  go_ret2
  exact⟨by rw[H1.out,hR.out];try rfl,by go_grown⟩
 ·have h1':(Pl.stepE v c dx dy !=0)=true:=by simp[h1]
  have hR:Hid (Pl.fitR v c dx dy=0):=by unfold Hid Pl.fitR;rw[if_neg h1]
  clear h1
  go_enter Tryz.func195,Tryz.ntmps195
  go_wp2_with (first
   |(go_at_call 246;refine(opened_b _ _ v c _ _ _ (hl.up (by go_grown)) hm).mono ?_;rintro e w1 ⟨rfl,hx1⟩;have kb1a:w1.heap[w.heap.size]?=some (.cells _ _ (0,0)):=(hx1.block _ (by first|omega|(simp;done)|(simp;omega))).trans (heap_alloc_new _ _);obtain⟨hc1a,hf1a⟩:=blk_cells kb1a;have hsz1:=hx1.size;(try simp at hsz1);have hb1:Below w.heap.size w w1:=Below.trans (by go_grown) (hx1.mono (by go_size));have hsz1w:w.heap.size<=w1.heap.size:=hb1.size;clear hx1))
  go_ret2
  exact⟨by rw[hR.out];try rfl,by go_grown⟩
open Go.RowKit
theorem kA {w w':World}{g:Nat}{o:Obj}(hx:Below w.heap.size w w')(k:w.heap[g]?=some o):w'.heap[g]?=some o:=(hx.block g (lO k)).trans k
namespace Pl
end Pl
end Go.Proofs.YtgbpekeoegfjpaaGreatDoor
set_option maxRecDepth 100000
namespace Go.Proofs.YtgbpekeoegfjpaaGreatDoor
open Go.RowKit
variable (A1 A2 A3 A4 : Option Addr) (c1 c2 c3 c4 : Nat) (f : Pl.Fld)
def Pl.okAt (S:Nat)(y:List Int)(l s:Nat):Bool:=Pl.inB (Pl.at0 y (Pl.pointN S l s)) 0 100000&&(decide (l=0)||decide (Pl.at0 y (Pl.pointN S (l-1) s)<=Pl.at0 y (Pl.pointN S l s)))
theorem Pl.drawnB_ok {S L:Nat}{y:List Int}(h1:y.length=1+L*S)(h2:Pl.at0 y 0=0)(h: ∀l s,l<L->s<S->Pl.okAt S y l s=true):Pl.drawnB S L y=true:=by
 rw[Pl.drawnB_iff]
 refine⟨h1,h2,fun l s hl hs=> ?_⟩
 have:=h l s hl hs
 unfold Pl.okAt at this
 rw[Bool.and_eq_true,Pl.inB_yes,Bool.or_eq_true,decide_eq_true_eq,decide_eq_true_eq]at this
 refine⟨this.1,fun h0=> ?_⟩
 rcases this.2 with h|h
 ·omega
 ·exact h
theorem Pl.drawnB_bad {S L:Nat}{y:List Int}{l s:Nat}(hl:l<L)(hs:s<S)(h:Pl.okAt S y l s=false):Pl.drawnB S L y=false:=by
 rw[<-Bool.not_eq_true,Pl.drawnB_iff]
 intro hd
 obtain⟨a,b⟩:=hd.2.2 l s hl hs
 rw[<-Bool.not_eq_true]at h
 apply h
 unfold Pl.okAt
 rw[Bool.and_eq_true,Pl.inB_yes,Bool.or_eq_true,decide_eq_true_eq,decide_eq_true_eq]
 refine⟨a,?_⟩
 by_cases e:l=0
 ·exact .inl e
 ·exact .inr (b (by omega))
theorem Pl.okAt_0 {S:Nat}{y:List Int}{s P:Nat}{v:Int}(hP:Pl.pointN S 0 s=P)(hv:Pl.at0 y P=v):Pl.okAt S y 0 s=Pl.inB v 0 100000:=by
 unfold Pl.okAt;rw[hP,hv];simp
theorem Pl.okAt_s {S:Nat}{y:List Int}{l s P Q:Nat}{v u:Int}(h0:l≠0)(hP:Pl.pointN S l s=P)(hv:Pl.at0 y P=v)(hQ:Pl.pointN S (l-1) s=Q)(hu:Pl.at0 y Q=u):Pl.okAt S y l s=(Pl.inB v 0 100000&&decide (u<=v)):=by
 unfold Pl.okAt;rw[hP,hv,hQ,hu];simp[h0]
set_option maxHeartbeats 4000000 in
theorem drawn_b (A:Option Addr) (c:Nat) (y:List Int) (D:Bool) (w:World) (hF:Hid (Pl.fieldE f=0)) (hD:Hid (Pl.drawnB f.st.length f.li.length y=D)) (hf:FldS w w.heap.size A1 A2 A3 A4 f) (hm:Small f) (hc:Caps c1 c2 c3 c4 f) (hy:Ints w w.heap.size A y) (hym:y.length<=100000):
  Calls Tryz.prog 128 #[.agg (fq A1 A2 A3 A4 c1 c2 c3 c4 f),.slice A y.length c] w fun e w'=>e=.returned (.bool D)∧Below w.heap.size w w':=by
 have hok:=Pl.fieldE_ok hF.out
 have hS:=hok.st12
 have hL:=hok.li10
 clear hok
 obtain⟨N,hN⟩: ∃N,f.li.length*f.st.length=N:=⟨_,rfl⟩
 have hNb:N<=120:=by rw[<-hN];have:=Nat.mul_le_mul hL hS;omega
 have HP:Hid ((if Pl.fieldE f=0 then 1+((f.li.length:Nat):Int)*(f.st.length:Nat)else 0)=1+(N:Int)):=Lib.hid (by rw[if_pos hF.out,<-hN];simp)
 have HM:=Lib.hid hN
 clear hN
 have kb:=heap_alloc_new w (.cells (fq A1 A2 A3 A4 c1 c2 c3 c4 f) 28)
 by_cases hl:y.length=1+N
 ·have hl':((y.length:Int) !=1+(N:Int))=false:=by simp;omega
  have h0:0<y.length:=by omega
  have HL:=Lib.hid hl
  clear hl
  obtain⟨g,off,hA,hg,q0⟩:=Ints.at1 hy h0
  have hyy:Ints w w.heap.size (some ⟨g,off,none⟩) y:=hA▸hy
  subst hA
  simp only[Nat.add_zero]at q0
  have e0:(0:Int)<(y.length:Int):=by omega
  by_cases hz:y[0]=0
  ·rw [hz]at q0
   have HZ:Hid (Pl.at0 y 0=0):=Lib.hid (by rw[Pl.at0_get h0,hz])
   clear hz
   go_enter Tryz.func128,Tryz.ntmps128
   go_wp2_with (go_at_call 46;refine(PointsB_h A1 A2 A3 A4 c1 c2 c3 c4 f (1+(N:Int)) _ HP (hf.up (by go_grown)) hm hc).mono ?_;rintro e w1 ⟨rfl,hx⟩;have kb:=kA hx (by first|exact kb|exact(Below.heap_alloc _ _ _ (lO kb)).trans kb);obtain⟨hckb,hfkb⟩:=blk_cells kb;have hltkb:=(lO kb);have hall:Below w.heap.size w w1:=Below.trans (by go_grown) (hx.mono (by go_size));have hsz:w.heap.size<=w1.heap.size:=hall.size;have q1:=(hall.cell (p:=⟨g,off,none⟩) hg).trans q0;clear hx)
   go_loopw [5] (fun z wr=> ∃(l:Nat),l<=f.li.length∧z=.int .i64 l∧Hid (∀i s:Nat,i<l->s<f.st.length->Pl.okAt f.st.length y i s=true)∧wr.heap[w.heap.size]?=some (.cells (fq A1 A2 A3 A4 c1 c2 c3 c4 f) 28 (0,0))∧Below w.heap.size w wr) (fun z _=>f.li.length-(intOf z).toNat)
   case atStart=>exact⟨0,by omega,rfl,Lib.hid fun i s h=>by omega,kb,hall⟩
   case round=>
    clear kb hckb hfkb hltkb hall hsz q1
    obtain⟨l,hl,rfl,hq,kb,hall⟩:=hrel
    obtain⟨hckb,hfkb⟩:=blk_cells kb
    have hltkb:=(lO kb)
    have hsz:=hall.size
    by_cases hlt:l<f.li.length
    ·have g1:(l:Int)<(f.li.length:Int):=by omega
     go_wp2
     go_loopw [6] (fun z W=> ∃(s:Nat),s<=f.st.length∧z=.int .i64 s∧Hid (∀j:Nat,j<s->Pl.okAt f.st.length y l j=true)∧W.heap[w.heap.size]?=some (.cells (fq A1 A2 A3 A4 c1 c2 c3 c4 f) 28 (0,0))∧Below w.heap.size w W) (fun z _=>f.st.length-(intOf z).toNat)
     case atStart=>exact⟨0,by omega,rfl,Lib.hid fun j h=>by omega,kb,hall⟩
     case round=>
      clear kb hckb hfkb hltkb hall hsz
      obtain⟨s,hs,rfl,hr,kb,hall⟩:=hrel
      obtain⟨hckb,hfkb⟩:=blk_cells kb
      have hltkb:=(lO kb)
      have hsz:=hall.size
      by_cases hlts:s<f.st.length
      ·have g2:(s:Int)<(f.st.length:Int):=by omega
       have hm0:=Pl.point_lt (l:=l) (L:=f.li.length) (S:=f.st.length) hlt hlts
       have hbad:=Lib.hid (fun h:Pl.okAt f.st.length y l s=false=>hD.out.symm.trans (Pl.drawnB_bad hlt hlts h))
       have hnext:Hid (Pl.okAt f.st.length y l s=true-> ∀j:Nat,j<s+1->Pl.okAt f.st.length y l j=true):=Lib.hid fun h j hj=>by
        by_cases e:j=s
        ·subst e;exact h
        ·exact hr.out j (by omega)
       rw[HM.out,<-HL.out]at hm0
       obtain⟨P,hP⟩: ∃P,Pl.pointN f.st.length l s=P:=⟨_,rfl⟩
       have pb:=fun W=>point_b A1 A2 A3 A4 c1 c2 c3 c4 f l s W (by omega) (by omega) (by omega) (by omega) (by omega)
       have p0:1+(l:Int)*f.st.length+s=(P:Int):=by rw[<-hP];unfold Pl.pointN;simp
       rw[p0]at pb
       rw[hP]at hm0
       obtain⟨g',off',hA',hg',r0⟩:=Ints.at1 (hyy.below hall) hm0
       obtain⟨rfl,rfl⟩:g=g'∧off=off':=by simpa using hA'
       obtain⟨v,hv⟩: ∃v,y[P]=v:=⟨_,rfl⟩
       rw[hv]at r0
       have hv0:Pl.at0 y P=v:=by rw[Pl.at0_get hm0,hv]
       have a1:(0:Int)<=(P:Int):=by omega
       have a2:(P:Int)<(y.length:Int):=by omega
       have hgr:g<wr.heap.size:=by omega
       clear hA' hv p0
       by_cases h0:l=0
       ·have n0: ¬(0:Int)<(l:Int):=by omega
        have ho:Pl.okAt f.st.length y l s=Pl.inB v 0 100000:=by rw[h0];exact Pl.okAt_0 (by rw[<-h0];exact hP) hv0
        rw[ho]at hbad hnext
        cases b1:Pl.inB v 0 100000 with
        |false=>
         have HV:=Lib.hid (hbad.out b1)
         clear hbad hnext ho hP hv0 h0
         go_wp2_with fail
         (go_at_call 111;refine(pb _).mono ?_;rintro e w3 ⟨rfl,hx⟩;have kb:=kA hx (by first|exact kb|exact(Below.heap_alloc _ _ _ (lO kb)).trans kb);obtain⟨hckb,hfkb⟩:=blk_cells kb;have hltkb:=(lO kb);have hall:Below w.heap.size w w3:=Below.trans (by go_grown) (hx.mono (by go_size));have hsz:w.heap.size<=w3.heap.size:=hall.size;have r1:=(hx.cell (p:=⟨g,off+P,none⟩) (show g<_ by omega)).trans r0;clear hx)
         go_wp2_with (go_at_call 102;refine(within_b _ _ _ _).mono ?_;rintro e w' ⟨rfl,rfl⟩)
         go_ret
         exact⟨by rw[HV.out];try rfl,hall⟩
        |true=>
         have HN:=Lib.hid (hnext.out b1)
         clear hbad hnext ho hP hv0 h0
         go_wp2_with fail
         (go_at_call 111;refine(pb _).mono ?_;rintro e w3 ⟨rfl,hx⟩;have kb:=kA hx (by first|exact kb|exact(Below.heap_alloc _ _ _ (lO kb)).trans kb);obtain⟨hckb,hfkb⟩:=blk_cells kb;have hltkb:=(lO kb);have hall:Below w.heap.size w w3:=Below.trans (by go_grown) (hx.mono (by go_size));have hsz:w.heap.size<=w3.heap.size:=hall.size;have r1:=(hx.cell (p:=⟨g,off+P,none⟩) (show g<_ by omega)).trans r0;clear hx)
         go_wp2_with (go_at_call 102;refine(within_b _ _ _ _).mono ?_;rintro e w' ⟨rfl,rfl⟩)
         go_roundw
         case rel=>exact⟨s+1,by omega,by go_num,HN,kb,hall⟩
         case measure=>first|(simp[intOf];done)|(simp[intOf];omega)
       ·have n0:(0:Int)<(l:Int):=by omega
        obtain⟨Q,hQ⟩: ∃Q,Pl.pointN f.st.length (l-1) s=Q:=⟨_,rfl⟩
        have hm1:=Pl.point_lt (l:=l-1) (L:=f.li.length) (S:=f.st.length) (by omega) hlts
        rw[HM.out,<-HL.out,hQ]at hm1
        have pc:=fun W=>point_b A1 A2 A3 A4 c1 c2 c3 c4 f ((l:Int)-1) s W (by omega) (by omega) (by omega) (by omega) (by omega)
        have p1:1+((l:Int)-1)*f.st.length+s=(Q:Int):=by rw[<-hQ];unfold Pl.pointN;obtain⟨k,rfl⟩: ∃k,l=k+1:=⟨l-1,by omega⟩;simp
        rw[p1]at pc
        obtain⟨g',off',hA',_,t0⟩:=Ints.at1 (hyy.below hall) hm1
        obtain⟨rfl,rfl⟩:g=g'∧off=off':=by simpa using hA'
        obtain⟨u,hu⟩: ∃u,y[Q]=u:=⟨_,rfl⟩
        rw[hu]at t0
        have hu0:Pl.at0 y Q=u:=by rw[Pl.at0_get hm1,hu]
        have a3:(0:Int)<=(Q:Int):=by omega
        have a4:(Q:Int)<(y.length:Int):=by omega
        have ho:=Pl.okAt_s h0 hP hv0 hQ hu0
        rw[ho]at hbad hnext
        have a5:IntKind.i64.wrap ((l:Int)-1)=(l:Int)-1:=IntWalk.i64_in _ (by omega)
        cases b1:Pl.inB v 0 100000 with
        |false=>
         have HV:=Lib.hid (hbad.out (by rw[b1];rfl))
         clear hbad hnext ho hP hv0 hQ hu0 hA' hu p1
         go_wp2_with fail
         (go_at_call 111;refine(pb _).mono ?_;rintro e w3 ⟨rfl,hx⟩;have kb:=kA hx (by first|exact kb|exact(Below.heap_alloc _ _ _ (lO kb)).trans kb);obtain⟨hckb,hfkb⟩:=blk_cells kb;have hltkb:=(lO kb);have hall:Below w.heap.size w w3:=Below.trans (by go_grown) (hx.mono (by go_size));have hsz:w.heap.size<=w3.heap.size:=hall.size;have r1:=(hx.cell (p:=⟨g,off+P,none⟩) (show g<_ by omega)).trans r0;clear hx)
         go_wp2_with (go_at_call 102;refine(within_b _ _ _ _).mono ?_;rintro e w' ⟨rfl,rfl⟩)
         go_ret
         exact⟨by rw[HV.out];try rfl,hall⟩
        | true=>
         by_cases g5:v<u
         ·have HV:=Lib.hid (hbad.out (by rw[b1];simp;omega))
          clear hbad hnext ho hP hv0 hQ hu0 hA' hu p1
          go_wp2_with fail
          (go_at_call 111;refine(pb _).mono ?_;rintro e w3 ⟨rfl,hx⟩;have kb:=kA hx (by first|exact kb|exact(Below.heap_alloc _ _ _ (lO kb)).trans kb);obtain⟨hckb,hfkb⟩:=blk_cells kb;have hltkb:=(lO kb);have hall:Below w.heap.size w w3:=Below.trans (by go_grown) (hx.mono (by go_size));have hsz:w.heap.size<=w3.heap.size:=hall.size;have r1:=(hx.cell (p:=⟨g,off+P,none⟩) (show g<_ by omega)).trans r0;have t1:=(hx.cell (p:=⟨g,off+Q,none⟩) (show g<_ by omega)).trans t0;clear hx)
          go_wp2_with (go_at_call 102;refine(within_b _ _ _ _).mono ?_;rintro e w' ⟨rfl,rfl⟩)
          (go_at_call 111;refine(pc _).mono ?_;rintro e w4 ⟨rfl,hx⟩;have kb:=kA hx (by first|exact kb|exact(Below.heap_alloc _ _ _ (lO kb)).trans kb);obtain⟨hckb,hfkb⟩:=blk_cells kb;have hltkb:=(lO kb);have hall:Below w.heap.size w w4:=Below.trans (by go_grown) (hx.mono (by go_size));have hsz:w.heap.size<=w4.heap.size:=hall.size;have t2:=(hx.cell (p:=⟨g,off+Q,none⟩) (show g<_ by omega)).trans t1;clear hx)
          go_wp2
          go_ret
          exact⟨by rw[HV.out];try rfl,hall⟩
         ·have HN:=Lib.hid (hnext.out (by rw[b1];simp;omega))
          clear hbad hnext ho hP hv0 hQ hu0 hA' hu p1
          go_wp2_with fail
          (go_at_call 111;refine(pb _).mono ?_;rintro e w3 ⟨rfl,hx⟩;have kb:=kA hx (by first|exact kb|exact(Below.heap_alloc _ _ _ (lO kb)).trans kb);obtain⟨hckb,hfkb⟩:=blk_cells kb;have hltkb:=(lO kb);have hall:Below w.heap.size w w3:=Below.trans (by go_grown) (hx.mono (by go_size));have hsz:w.heap.size<=w3.heap.size:=hall.size;have r1:=(hx.cell (p:=⟨g,off+P,none⟩) (show g<_ by omega)).trans r0;have t1:=(hx.cell (p:=⟨g,off+Q,none⟩) (show g<_ by omega)).trans t0;clear hx)
          go_wp2_with (go_at_call 102;refine(within_b _ _ _ _).mono ?_;rintro e w' ⟨rfl,rfl⟩)
          (go_at_call 111;refine(pc _).mono ?_;rintro e w4 ⟨rfl,hx⟩;have kb:=kA hx (by first|exact kb|exact(Below.heap_alloc _ _ _ (lO kb)).trans kb);obtain⟨hckb,hfkb⟩:=blk_cells kb;have hltkb:=(lO kb);have hall:Below w.heap.size w w4:=Below.trans (by go_grown) (hx.mono (by go_size));have hsz:w.heap.size<=w4.heap.size:=hall.size;have t2:=(hx.cell (p:=⟨g,off+Q,none⟩) (show g<_ by omega)).trans t1;clear hx)
          go_wp2
          go_roundw
          case rel=>exact⟨s+1,by omega,by go_num,HN,kb,hall⟩
          case measure=>first|(simp[intOf];done)|(simp[intOf];omega)
      ·have hq2:Hid (∀i s:Nat,i<l+1->s<f.st.length->Pl.okAt f.st.length y i s=true):=Lib.hid fun i s' hi hs'=>by
        by_cases e:i=l
        ·subst e;exact hr.out s' (by omega)
        ·exact hq.out i s' (by omega) hs'
       go_wp2
       exact⟨⟨l+1,by omega,by go_num,hq2,kb,hall⟩,by simp[intOf];omega⟩
    ·have HV:Hid (D=true):=Lib.hid (hD.out.symm.trans (Pl.drawnB_ok (by rw[HM.out];exact HL.out) HZ.out fun i s hi hs=>hq.out i s (by omega) hs))
     go_wp2
     go_ret
     exact⟨by rw[HV.out];try rfl,hall⟩
  ·have HV:Hid (D=false):=Lib.hid (hD.out.symm.trans (by unfold Pl.drawnB;rw[Pl.at0_get h0];simp[hz]))
   have hz':(y[0] !=0)=true:=by simpa using hz
   clear hz
   go_enter Tryz.func128,Tryz.ntmps128
   go_wp2_with (go_at_call 46;refine(PointsB_h A1 A2 A3 A4 c1 c2 c3 c4 f (1+(N:Int)) _ HP (hf.up (by go_grown)) hm hc).mono ?_;rintro e w1 ⟨rfl,hx⟩;have kb:=kA hx (by first|exact kb|exact(Below.heap_alloc _ _ _ (lO kb)).trans kb);obtain⟨hckb,hfkb⟩:=blk_cells kb;have hltkb:=(lO kb);have hall:Below w.heap.size w w1:=Below.trans (by go_grown) (hx.mono (by go_size));have hsz:w.heap.size<=w1.heap.size:=hall.size;have q1:=(hall.cell (p:=⟨g,off,none⟩) hg).trans q0;clear hx)
   go_ret
   exact⟨by rw[HV.out];try rfl,hall⟩
 ·have HV:Hid (D=false):=Lib.hid (hD.out.symm.trans (by unfold Pl.drawnB;rw[HM.out];simp[hl]))
  have hl':((y.length:Int) !=1+(N:Int))=true:=by simp;omega
  clear hl
  go_enter Tryz.func128,Tryz.ntmps128
  go_wp2_with (go_at_call 46;refine(PointsB_h A1 A2 A3 A4 c1 c2 c3 c4 f (1+(N:Int)) _ HP (hf.up (by go_grown)) hm hc).mono ?_;rintro e w1 ⟨rfl,hx⟩;have kb:=kA hx (by first|exact kb|exact(Below.heap_alloc _ _ _ (lO kb)).trans kb);obtain⟨hckb,hfkb⟩:=blk_cells kb;have hltkb:=(lO kb);have hall:Below w.heap.size w w1:=Below.trans (by go_grown) (hx.mono (by go_size));have hsz:w.heap.size<=w1.heap.size:=hall.size;clear hx)
  go_ret
  exact⟨by rw[HV.out];try rfl,hall⟩
end Go.Proofs.YtgbpekeoegfjpaaGreatDoor
namespace Go.Proofs
open Go.Shelf
def Tryz.sortBd_ren :Go.Shelf.Ren:=⟨fun|6=>196|15=>193|14=>261|28=>257|29=>258|20=>304|21=>305|22=>306|23=>307|24=>308|25=>309|26=>310|27=>311|46=>343|47=>299|48=>300|49=>344|50=>345|57=>364|n=>n,fun|22=>51|24=>99|25=>244|3=>3|39=>238|0=>0|53=>269|55=>271|4=>4|46=>263|45=>262|50=>189|5=>5|9=>9|66=>294|70=>298|76=>328|77=>326|n=>n,fun|n=>n⟩
theorem Tryz.sortBd :Go.Proofs.SlLaysF0.n6 Tryz.prog Tryz.sortBd_ren:= {
 mixed:=by kernel_rfl
 f6:=⟨Tryz.f196.name,by decide,Tryz.func196.trans (congrArg some (by kernel_rfl))⟩
 f14:=⟨Tryz.f261.name,by decide,Tryz.func261.trans (congrArg some (by kernel_rfl))⟩
 f15:=Tryz.func193.trans (congrArg some (by kernel_rfl))
 f20:=⟨Tryz.f304.name,by decide,Tryz.func304.trans (congrArg some (by kernel_rfl))⟩
 f21:=⟨Tryz.f305.name,by decide,Tryz.func305.trans (congrArg some (by kernel_rfl))⟩
 f22:=⟨Tryz.f306.name,by decide,Tryz.func306.trans (congrArg some (by kernel_rfl))⟩
 f23:=⟨Tryz.f307.name,by decide,Tryz.func307.trans (congrArg some (by kernel_rfl))⟩
 f24:=⟨Tryz.f308.name,by decide,Tryz.func308.trans (congrArg some (by kernel_rfl))⟩
 f25:=⟨Tryz.f309.name,by decide,Tryz.func309.trans (congrArg some (by kernel_rfl))⟩
 f26:=⟨Tryz.f310.name,by decide,Tryz.func310.trans (congrArg some (by kernel_rfl))⟩
 f27:=⟨Tryz.f311.name,by decide,Tryz.func311.trans (congrArg some (by kernel_rfl))⟩
 f28:=Tryz.func257.trans (congrArg some (by kernel_rfl))
 f29:=Tryz.func258.trans (congrArg some (by kernel_rfl))
 f46:=⟨Tryz.f343.name,by decide,Tryz.func343.trans (congrArg some (by kernel_rfl))⟩
 f47:=Tryz.func299.trans (congrArg some (by kernel_rfl))
 f48:=Tryz.func300.trans (congrArg some (by kernel_rfl))
 f49:=⟨Tryz.f344.name,by decide,Tryz.func344.trans (congrArg some (by kernel_rfl))⟩
 f50:=⟨Tryz.f345.name,by decide,Tryz.func345.trans (congrArg some (by kernel_rfl))⟩
 f57:=⟨Tryz.f364.name,by decide,Tryz.func364.trans (congrArg some (by kernel_rfl))⟩
 t0:=Tryz.underlying0
 a0:=Tryz.isAgg0
 z0:=Tryz.sizeOf0
 v0:=Tryz.zeroValue0
 t3:=Tryz.underlying3
 a3:=Tryz.isAgg3
 z3:=Tryz.sizeOf3
 v3:=Tryz.zeroValue3
 t4:=Tryz.underlying4
 a4:=Tryz.isAgg4
 z4:=Tryz.sizeOf4
 v4:=Tryz.zeroValue4
 t5:=Tryz.underlying5
 a5:=Tryz.isAgg5
 z5:=Tryz.sizeOf5
 v5:=Tryz.zeroValue5
 t9:=Tryz.underlying9
 a9:=Tryz.isAgg9
 z9:=Tryz.sizeOf9
 v9:=Tryz.zeroValue9
 t22:=Tryz.underlying51
 a22:=Tryz.isAgg51
 z22:=Tryz.sizeOf51
 v22:=Tryz.zeroValue51
 t25:=Tryz.underlying244
 a25:=Tryz.isAgg244
 z25:=Tryz.sizeOf244
 v25:=Tryz.zeroValue244
 t39:=Tryz.underlying238
 a39:=Tryz.isAgg238
 z39:=Tryz.sizeOf238
 v39:=Tryz.zeroValue238
 t45:=Tryz.underlying262
 a45:=Tryz.isAgg262
 z45:=Tryz.sizeOf262
 v45:=Tryz.zeroValue262
 t46:=Tryz.underlying263
 a46:=Tryz.isAgg263
 z46:=Tryz.sizeOf263
 v46:=Tryz.zeroValue263
 t50:=Tryz.underlying189
 a50:=Tryz.isAgg189
 z50:=Tryz.sizeOf189
 v50:=Tryz.zeroValue189
 t53:=Tryz.underlying269
 a53:=Tryz.isAgg269
 z53:=Tryz.sizeOf269
 v53:=Tryz.zeroValue269
 t55:=Tryz.underlying271
 a55:=Tryz.isAgg271
 z55:=Tryz.sizeOf271
 v55:=Tryz.zeroValue271
 t66:=Tryz.underlying294
 a66:=Tryz.isAgg294
 z66:=Tryz.sizeOf294
 v66:=Tryz.zeroValue294
 t70:=Tryz.underlying298
 a70:=Tryz.isAgg298
 z70:=Tryz.sizeOf298
 v70:=Tryz.zeroValue298
 t76:=Tryz.underlying328
 a76:=Tryz.isAgg328
 z76:=Tryz.sizeOf328
 v76:=Tryz.zeroValue328
 t77:=Tryz.underlying326
 a77:=Tryz.isAgg326
 z77:=Tryz.sizeOf326
 v77:=Tryz.zeroValue326}
def Tryz.cmpInt_ren :Go.Shelf.Ren:=⟨fun|5=>199|7=>262|n=>n,fun|22=>3|3=>3|4=>4|n=>n,fun|n=>n⟩
theorem Tryz.cmpInt :Go.Proofs.SlLaysC2.n5 Tryz.prog Tryz.cmpInt_ren:= {
 mixed:=by kernel_rfl
 f5:=⟨Tryz.f199.name,by decide,Tryz.func199.trans (congrArg some (by kernel_rfl))⟩
 f7:=⟨Tryz.f262.name,by decide,Tryz.func262.trans (congrArg some (by kernel_rfl))⟩
 t3:=Tryz.underlying3
 a3:=Tryz.isAgg3
 z3:=Tryz.sizeOf3
 v3:=Tryz.zeroValue3
 t4:=Tryz.underlying4
 a4:=Tryz.isAgg4
 z4:=Tryz.sizeOf4
 v4:=Tryz.zeroValue4
 t22:=Tryz.underlying3
 a22:=Tryz.isAgg3
 z22:=Tryz.sizeOf3
 v22:=Tryz.zeroValue3}
def Tryz.equalBd_ren :Go.Shelf.Ren:=⟨fun|8=>141|n=>n,fun|22=>51|24=>99|4=>4|3=>3|0=>0|n=>n,fun|n=>n⟩
theorem Tryz.equalBd :Go.Proofs.SlLaysQ.n8 Tryz.prog Tryz.equalBd_ren:= {
 mixed:=by kernel_rfl
 f8:=⟨Tryz.f141.name,by decide,Tryz.func141.trans (congrArg some (by kernel_rfl))⟩
 t0:=Tryz.underlying0
 a0:=Tryz.isAgg0
 z0:=Tryz.sizeOf0
 v0:=Tryz.zeroValue0
 t3:=Tryz.underlying3
 a3:=Tryz.isAgg3
 z3:=Tryz.sizeOf3
 v3:=Tryz.zeroValue3
 t4:=Tryz.underlying4
 a4:=Tryz.isAgg4
 z4:=Tryz.sizeOf4
 v4:=Tryz.zeroValue4
 t22:=Tryz.underlying51
 a22:=Tryz.isAgg51
 z22:=Tryz.sizeOf51
 v22:=Tryz.zeroValue51}
end Go.Proofs
namespace Go.Proofs.YtgbpekeoegfjpaaGreatDoor
namespace Pl
theorem ptC_inj {f:Fld}{l s m t:Int}(hl:inN l f.li.length)(hs:inN s f.st.length)(hm:inN m f.li.length)(ht:inN t f.st.length)(h:ptC f l s=ptC f m t):l=m∧s=t:=by
 unfold inN at*
 unfold ptC at h
 obtain⟨e1,e2⟩:=point_inj (by omega) (by omega) h
 omega
theorem ptC_pos (f:Fld)(l s:Int):0<ptC f l s:=by unfold ptC pointN;omega
theorem pair_nodup {p q:Nat}{a b r:Int}(h:p≠q):([⟨p,q,a,r⟩,⟨q,p,b,r⟩]:List Bd).Nodup:=by
 simp
 intro h1 h2
 exact absurd h1 h
theorem boundsC_nodup {f:Fld}{c:Cal}(ht:c.tab f.st.length f.li.length)(r:Int):(boundsC f c r).Nodup:=by
 obtain⟨hl,hs,h⟩:=ht
 unfold boundsC spans
 split<;>rename_i hk
 ·simp only[List.flatMap_cons,List.flatMap_nil,List.append_nil,spB]
  exact pair_nodup (Nat.ne_of_lt (ptC_pos f _ _))
 ·simp only[List.flatMap_cons,List.flatMap_nil,List.append_nil,spB]
  refine pair_nodup fun e=> ?_
  have ho:inN c.oth f.li.length:=by unfold inN at*;rcases h with h|h|h|h|h<;>omega
  have:=(ptC_inj hl hs ho hs e).1
  rcases h with h|h|h|h|h<;>omega
 ·simp only[List.flatMap_cons,List.flatMap_nil,List.append_nil,spB]
  have ho:inN c.till f.st.length:=by rcases h with h|h|h|h|h<;>first|omega|exact h.2.2.2.2.1
  refine pair_nodup fun e=> ?_
  have:=(ptC_inj hl hs hl ho e).2
  rcases h with h|h|h|h|h<;>omega
 ·have ho:inN c.oth f.li.length:=by unfold inN at*;rcases h with h|h|h|h|h<;>omega
  have hlt:c.lim<c.oth∧c.fr<c.till∧c.till<f.st.length:=by rcases h with h|h|h|h|h<;>omega
  have hst: ∀k:Nat,k<(c.till-c.fr+1).toNat->inN (c.fr+(k:Int)) f.st.length:=fun k hk=>by unfold inN at*;omega
  rw[List.flatMap_map]
  unfold List.Nodup
  rw[List.pairwise_flatMap]
  refine⟨fun k hk=> ?_,?_⟩
  ·rw[List.mem_range]at hk
   exact pair_nodup fun e=>by
    have:=(ptC_inj hl (hst k hk) ho (hst k hk) e).1
    omega
  ·refine List.Pairwise.imp_of_mem ?_ List.pairwise_lt_range
   intro a b ha hb hab x hx y hy e
   rw[List.mem_range]at ha hb
   simp only[spB,List.mem_cons,List.not_mem_nil,or_false]at hx hy
   rcases hx with rfl|rfl<;>rcases hy with rfl|rfl<;>simp only[Bd.mk.injEq]at e
   ·have:=(ptC_inj hl (hst a ha) hl (hst b hb) e.1).2;omega
   ·have:=(ptC_inj hl (hst a ha) ho (hst b hb) e.1).1;omega
   ·have:=(ptC_inj ho (hst a ha) hl (hst b hb) e.1).1;omega
   ·have:=(ptC_inj ho (hst a ha) ho (hst b hb) e.1).2;omega
 ·simp only[List.flatMap_cons,List.flatMap_nil,List.append_nil,spB]
  have ho:inN c.till f.st.length:=by rcases h with h|h|h|h|h<;>first|omega|exact h.2.2.2.1
  refine pair_nodup fun e=> ?_
  have:=(ptC_inj hl hs hl ho e).2
  rcases h with h|h|h|h|h<;>omega
 ·exact List.nodup_nil
theorem compact_nodup {α:Type}[Inhabited α][DecidableEq α]{l:List α}(h:l.Nodup):Lib.compact l=l:=by
 refine Lib.compact_all l fun j hj=> ?_
 unfold Lib.keeps
 rw[decide_eq_true_eq]
 by_cases h0:j=0
 ·exact .inl h0
 ·refine .inr ?_
  rw[getElem!_pos l.toArray j (by simpa using hj),getElem!_pos l.toArray (j-1) (by simp;omega)]
  simp only[List.getElem_toArray]
  intro e
  have:=List.pairwise_iff_getElem.1 h (j-1) j (by omega) hj (by omega)
  exact this e.symm
theorem perm_of {l:List Bd}{d:Array Bd}(h:Sort.PermIn 0 l.toArray.size l.toArray d):d.toList.Perm l:=by
 obtain⟨h1,_,h3⟩:=h
 have e1:l.toArray.extract 0 l.toArray.size=l.toArray:=by simp
 have e2:d.extract 0 l.toArray.size=d:=by rw[<-h1];simp
 rw[e1,e2]at h3
 simpa using h3
theorem sorted_of {l:List Bd}{d:Array Bd}{r:Int}(hp:d.toList.Perm l)(hr: ∀b∈l,b.record=r)(h:Sort.SortedIn (fun x y=>decide (cmp3 x y<0)) 0 l.length d):d.toList.Pairwise le4:=by
 have hlen:d.size=l.length:=by have:=hp.length_eq;simpa using this
 rw[List.pairwise_iff_getElem]
 intro i j hi hj hij
 have hi':i<d.size:=by simpa using hi
 have hj':j<d.size:=by simpa using hj
 have:=h i j (Nat.zero_le _) hij (by omega)
 rw[getElem!_pos d i hi',getElem!_pos d j hj',decide_eq_false_iff_not]at this
 simp only[Array.getElem_toList]
 refine cmp3_le this ?_
 rw[hr _ (hp.mem_iff.1 (by simp)),hr _ (hp.mem_iff.1 (by simp))]
end Pl
end Go.Proofs.YtgbpekeoegfjpaaGreatDoor
set_option maxRecDepth 100000
namespace Go.Proofs.YtgbpekeoegfjpaaGreatDoor
open Go.RowKit Go.Shelf
theorem eq_bd (a b:Pl.Bd)(W:World):(Op.equalIn 10000 99 (.agg (i4 (a.fr:Int) (a.till:Int) a.most a.record)) (.agg (i4 (b.fr:Int) (b.till:Int) b.most b.record))).run Tryz.prog W=.ok (decide (a=b)) W:=by
 obtain⟨a1,a2,a3,a4⟩:=a
 obtain⟨b1,b2,b3,b4⟩:=b
 simp only[Pl.Bd.mk.injEq]
 simp[go_sem]
 repeat' split
 all_goals simp_all
 all_goals omega
theorem orI_a (A:Option Addr)(cp:Nat)(l:List Int)(w:World)(hl:Ints w w.heap.size A l)(hn:l.length<=1000):
  Calls Tryz.prog 198 #[.slice A l.length cp] w fun e w'=>e=.returned (.int .i64 ((l.find? fun x=>x !=0).getD 0))∧w=w':=by
 go_enter Tryz.func198,Tryz.ntmps198
 go_wp2
 go_loop [8] (fun i=> ∃(k:Nat),k<=l.length∧i=.int .i64 k∧Hid (∀j (h:j<l.length),j<k->l[j]=0)) (fun i=>l.length-(intOf i).toNat)
 case atStart=>exact⟨0,by omega,rfl,Lib.hid fun j _ h=>by omega⟩
 case round=>
  obtain⟨k,hk,rfl,hz⟩:=hrel
  by_cases hlt:k<l.length
  ·obtain⟨b,off,rfl,hb,q0⟩:=Ints.at1 hl hlt
   have e1:(0:Int)<=(k:Int):=by omega
   have e2:(k:Int)<(l.length:Int):=by omega
   by_cases h0:l[k]=0
   ·have HN:Hid (∀j (h:j<l.length),j<k+1->l[j]=0):=Lib.hid fun j h hj=>by
     by_cases e:j=k
     ·subst e;exact h0
     ·exact hz.out j h (by omega)
    rw[h0]at q0
    clear hz h0
    go_wp2
    go_round
    case rel=>exact⟨k+1,by omega,by go_num,HN⟩
    case measure=>first|(simp[intOf];done)|(simp[intOf];omega)
   ·have HF:Hid ((l.find? fun x=>x !=0).getD 0=l[k]):=Lib.hid (by
     have h1:l=l.take k++l[k]::l.drop (k+1):=by rw[<-List.drop_eq_getElem_cons hlt,List.take_append_drop]
     have h2:(l.take k).find? (fun x=>x !=0)=none:=by
      rw[List.find?_eq_none]
      intro x hx
      obtain⟨j,hj,rfl⟩:=List.mem_take_iff_getElem.1 hx
      rw[hz.out j (by omega) (by omega)]
      decide
     conv=>lhs;rw[h1]
     rw[List.find?_append,h2,Option.none_or,List.find?_cons_of_pos (by simpa using h0)]
     rfl)
    obtain⟨x,hx⟩: ∃x,l[k]=x:=⟨_,rfl⟩
    rw[hx]at q0 h0 HF
    have q1:(x !=0)=true:=by simpa using h0
    clear hz hx h0
    go_wp2
    go_ret
    exact⟨by rw[HF.out];rfl,rfl⟩
  ·have HF:Hid ((l.find? fun x=>x !=0).getD 0=0):=Lib.hid (by
    rw[List.find?_eq_none.2]
    ·rfl
    ·intro x hx
     obtain⟨j,hj,rfl⟩:=List.getElem_of_mem hx
     rw[hz.out j hj (by omega)]
     decide)
   clear hz
   go_wp2
   go_ret
   exact⟨by rw[HF.out];rfl,rfl⟩
theorem cmp3_find (a b:Pl.Bd):(([Lib.compareInt a.fr b.fr,Lib.compareInt a.till b.till,Lib.compareInt a.most b.most]:List Int).find? fun x=>x !=0).getD 0=Pl.cmp3 a b:=by
 unfold Pl.cmp3
 by_cases h1:Lib.compareInt a.fr b.fr=0
 ·by_cases h2:Lib.compareInt a.till b.till=0
  ·by_cases h3:Lib.compareInt a.most b.most=0
   ·simp[h1,h2,h3]
   ·simp[h1,h2,h3]
  ·simp[h1,h2]
 ·simp[h1]
theorem swo3 :Sort.SWO (ltOf Pl.cmp3) where
 irrefl x:=by unfold ltOf;rw[decide_eq_false_iff_not,Pl.cmp3_lt];omega
 trans x y z h1 h2:=by unfold ltOf at*;rw[decide_eq_true_eq,Pl.cmp3_lt]at*;omega
 ntrans x y z h1 h2:=by unfold ltOf at*;rw[decide_eq_false_iff_not,Pl.cmp3_lt]at*;omega
set_option maxHeartbeats 4000000 in
theorem cmp3_a (x y:Pl.Bd)(W:World):Calls Tryz.prog 197 #[.agg (i4 (x.fr:Int) (x.till:Int) x.most x.record),.agg (i4 (y.fr:Int) (y.till:Int) y.most y.record)] W fun e w'=>e=.returned (.int .i64 (Pl.cmp3 x y))∧ ∃q os',w'=Sort.grow (W.drewN q) os':=by
 have hcmp: ∀(a b:Int) (V:World),Calls Tryz.prog 199 (i2 a b) V fun e w'=>e=.returned (.int .i64 (Lib.compareInt a b))∧w'=V:=fun a b V=>AnyG.cmp_Compare_int Tryz.cmpInt a b V
 have HR:=Lib.hid (cmp3_find x y)
 have c1:=hcmp x.fr y.fr
 have c2:=hcmp x.till y.till
 have c3:=hcmp x.most y.most
 obtain⟨r1,hr1⟩: ∃r,Lib.compareInt x.fr y.fr=r:=⟨_,rfl⟩
 obtain⟨r2,hr2⟩: ∃r,Lib.compareInt x.till y.till=r:=⟨_,rfl⟩
 obtain⟨r3,hr3⟩: ∃r,Lib.compareInt x.most y.most=r:=⟨_,rfl⟩
 rw[hr1]at c1 HR
 rw[hr2]at c2 HR
 rw[hr3]at c3 HR
 clear hcmp hr1 hr2 hr3
 have k1:=heap_alloc2_old W (.cells (i4 (x.fr:Int) (x.till:Int) x.most x.record) 99) (.cells (i4 (y.fr:Int) (y.till:Int) y.most y.record) 99)
 have k2:=heap_alloc2_new W (.cells (i4 (x.fr:Int) (x.till:Int) x.most x.record) 99) (.cells (i4 (y.fr:Int) (y.till:Int) y.most y.record) 99)
 obtain⟨V0,hV0⟩: ∃V0,(W.alloc (.cells (i4 (x.fr:Int) (x.till:Int) x.most x.record) 99)).alloc (.cells (i4 (y.fr:Int) (y.till:Int) y.most y.record) 99)=V0:=⟨_,rfl⟩
 have HV:Hid (∃os,V0=Sort.grow W os):=Lib.hid ⟨_,by rw[<-hV0,Sort.alloc_eq_grow,Sort.alloc_eq_grow,Sort.grow_grow]⟩
 rw[hV0]at k1 k2
 have hV1:W.heap.size+1<V0.heap.size:=(lO k2)
 have hor:=orI_a (some ⟨V0.heap.size,0,none⟩) 3 [r1,r2,r3] (V0.alloc (.cells (i3 r1 r2 r3) 3)).drew (row_seg (enc:=encInt) (fun _=>rfl) (show V0.heap.size<(V0.alloc (.cells (i3 r1 r2 r3) 3)).heap.size by rw[World.size_alloc];exact Nat.lt_succ_self _) (heap_alloc_new V0 _) rfl) (by simp)
 rw[HR.out]at hor
 clear HR
 have hA:=((Below.refl V0.heap.size V0).alloc (Nat.le_refl _) (.cells (i3 r1 r2 r3) 3)).drew
 obtain⟨hc1,hf1⟩:=blk_cells k1
 obtain⟨hc2,hf2⟩:=blk_cells k2
 have d1:=hc1 0
 have d2:=hc1 1
 have d3:=hc1 2
 have d4:=hc2 0
 have d5:=hc2 1
 have d6:=hc2 2
 clear hc1 hc2 hf1 hf2 k1 k2
 go_enter Tryz.func197,Tryz.ntmps197
 go_wp2
 clear hV0
 go_region_held3 (fun V=>V.cell? ⟨W.heap.size,0,none⟩=some (.int .i64 (x.fr:Int))∧V.cell? ⟨W.heap.size,1,none⟩=some (.int .i64 (x.till:Int))∧V.cell? ⟨W.heap.size,2,none⟩=some (.int .i64 x.most)∧V.cell? ⟨W.heap.size+1,0,none⟩=some (.int .i64 (y.fr:Int))∧V.cell? ⟨W.heap.size+1,1,none⟩=some (.int .i64 (y.till:Int))∧V.cell? ⟨W.heap.size+1,2,none⟩=some (.int .i64 y.most)) (first|exact⟨d1,d2,d3,d4,d5,d6⟩|exact⟨(hA.cell (p:=⟨W.heap.size,0,none⟩) (show W.heap.size<V0.heap.size by omega)).trans d1,(hA.cell (p:=⟨W.heap.size,1,none⟩) (show W.heap.size<V0.heap.size by omega)).trans d2,(hA.cell (p:=⟨W.heap.size,2,none⟩) (show W.heap.size<V0.heap.size by omega)).trans d3,(hA.cell (p:=⟨W.heap.size+1,0,none⟩) (show W.heap.size+1<V0.heap.size by omega)).trans d4,(hA.cell (p:=⟨W.heap.size+1,1,none⟩) (show W.heap.size+1<V0.heap.size by omega)).trans d5,(hA.cell (p:=⟨W.heap.size+1,2,none⟩) (show W.heap.size+1<V0.heap.size by omega)).trans d6⟩) (first
  |(go_at_call 199;refine(c1 _).mono ?_;rintro e w' ⟨rfl,rfl⟩;clear c1)
  |(go_at_call 199;refine(c2 _).mono ?_;rintro e w' ⟨rfl,rfl⟩;clear c2)
  |(go_at_call 199;refine(c3 _).mono ?_;rintro e w' ⟨rfl,rfl⟩;clear c3)
  |(go_at_call 198;refine hor.mono ?_;rintro e w' ⟨rfl,rfl⟩))
 all_goals go_wp2
 all_goals go_ret
 all_goals (
  obtain⟨os,hos⟩:=HV.out
  exact⟨rfl,1,_,by rw[hos,Sort.alloc_eq_grow,Sort.grow_grow];rfl⟩)
attribute [-go_sem] run_equalIn_agg
set_option maxHeartbeats 4000000 in
theorem compactBd_a (A:Option Addr)(cp:Nat)(l:List Pl.Bd)(w:World)(hl:Bds w w.heap.size A l)(hn:l.length<=1000)(hd:l.Nodup):
  Calls Tryz.prog 200 #[.slice A l.length cp] w fun e w'=>e=.returned (.slice A l.length cp)∧ ∃q,w'=w.drewN q:=by
 by_cases h2:l.length<2
 ·have e1:(l.length:Int)<2:=by omega
  go_enter Tryz.func200,Tryz.ntmps200
  go_wp2
  go_ret
  exact⟨rfl,0,rfl⟩
 ·have e1: ¬(l.length:Int)<2:=by omega
  have HD:=Lib.hid (List.pairwise_iff_getElem.1 hd)
  clear hd
  go_enter Tryz.func200,Tryz.ntmps200
  go_wp2
  go_loopw [3] (fun i wr=> ∃(k q:Nat),1<=k∧k<=l.length∧i=.int .i64 k∧wr=w.drewN q) (fun i _=>l.length-(intOf i).toNat)
  case atStart=>exact⟨1,0,by omega,by omega,rfl,rfl⟩
  case round=>
   obtain⟨k,q,hk1,hk,rfl,rfl⟩:=hrel
   by_cases hlt:k<l.length
   ·obtain⟨j,hj⟩: ∃j,k-1=j:=⟨_,rfl⟩
    have hjl:j<l.length:=by omega
    have hw:IntKind.i64.wrap ((k:Int)-1)=((j:Nat):Int):=by rw[IntWalk.i64_in _ (by omega)];omega
    have hne:=HD.out j k hjl hlt (by omega)
    clear hj
    obtain⟨b,off,hA,hbB,q0,q1,q2,q3⟩:=Bds.at4 hl hlt
    obtain⟨b',off',hA',hbB',r0,r1,r2,r3⟩:=Bds.at4 hl hjl
    rw[hA]at hA'
    obtain⟨rfl,rfl⟩:b=b'∧off=off':=by simpa using hA'
    clear hA'
    obtain⟨x,hx⟩: ∃x,l[k]=x:=⟨_,rfl⟩
    obtain⟨y,hy⟩: ∃y,l[j]=y:=⟨_,rfl⟩
    rw[hx]at q0 q1 q2 q3 hne
    rw[hy]at r0 r1 r2 r3 hne
    have hEq: ∀W,(Op.equalIn 10000 99 (.agg (i4 (x.fr:Int) (x.till:Int) x.most x.record)) (.agg (i4 (y.fr:Int) (y.till:Int) y.most y.record))).run Tryz.prog W=.ok false W:=fun W=>(eq_bd x y W).trans (by rw[decide_eq_false (fun e=>hne e.symm)])
    clear hx hy hne
    subst hA
    have f1:(0:Int)<=(k:Int):=by omega
    have f2:(k:Int)<(l.length:Int):=by omega
    have f3:(0:Int)<=(j:Int):=by omega
    have f4:(j:Int)<(l.length:Int):=by omega
    have q0:=(World.cell?_drewN w q ⟨b,off+k*4,none⟩).trans q0
    have q1:=(World.cell?_drewN w q ⟨b,off+k*4+1,none⟩).trans q1
    have q2:=(World.cell?_drewN w q ⟨b,off+k*4+2,none⟩).trans q2
    have q3:=(World.cell?_drewN w q ⟨b,off+k*4+3,none⟩).trans q3
    have r0:=(World.cell?_drewN w q ⟨b,off+j*4,none⟩).trans r0
    have r1:=(World.cell?_drewN w q ⟨b,off+j*4+1,none⟩).trans r1
    have r2:=(World.cell?_drewN w q ⟨b,off+j*4+2,none⟩).trans r2
    have r3:=(World.cell?_drewN w q ⟨b,off+j*4+3,none⟩).trans r3
    have hnext:Hid (∀n,∃q',(w.drewN q).drewN n=w.drewN q'):=Lib.hid fun n=>⟨q+n,by rw[World.drewN_drewN]⟩
    generalize w.drewN q=V at*
    go_wp2
    go_region_held3 (fun W=>W.cell? ⟨b,off+k*4,none⟩=some (.int .i64 (x.fr:Int))∧W.cell? ⟨b,off+k*4+1,none⟩=some (.int .i64 (x.till:Int))∧W.cell? ⟨b,off+k*4+2,none⟩=some (.int .i64 x.most)∧W.cell? ⟨b,off+k*4+3,none⟩=some (.int .i64 x.record)∧W.cell? ⟨b,off+j*4,none⟩=some (.int .i64 (y.fr:Int))∧W.cell? ⟨b,off+j*4+1,none⟩=some (.int .i64 (y.till:Int))∧W.cell? ⟨b,off+j*4+2,none⟩=some (.int .i64 y.most)∧W.cell? ⟨b,off+j*4+3,none⟩=some (.int .i64 y.record)) (exact⟨q0,q1,q2,q3,r0,r1,r2,r3⟩) (fail)
    all_goals go_wp2
    all_goals (
     go_roundw
     case rel=>obtain⟨q',hq'⟩:=hnext.out 1;exact⟨k+1,q',by omega,by omega,by go_num,hq'⟩
     case measure=>first|(simp[intOf];done)|(simp[intOf];omega))
   ·obtain rfl:k=l.length:=by omega
    go_wp2
    go_ret
    exact⟨rfl,q,rfl⟩
structure RowB (W:World)(g:Nat)(l:List Pl.Bd):Prop where
 hold:Sort.HoldsK encBd 4 W g 0 l.toArray
 lt:g<W.heap.size
theorem RowB.bds {W:World}{g:Nat}{l:List Pl.Bd}(h:RowB W g l):Bds W W.heap.size (some ⟨g,0,none⟩) l:=by
 refine .inr ⟨g,0,rfl,h.lt,fun k x hx j v hv=> ?_⟩
 have hk:k<l.length:=(List.getElem?_eq_some_iff.1 hx).1
 have hj:j<4:=by have:=(List.getElem?_eq_some_iff.1 hv).1;simpa [encBd]using this
 have:=(h.hold.cell (i:=k) (c:=j) (by simpa using hk) hj).1
 rw[this]
 have e1:(l.toArray[k]!)=x:=by
  rw[getElem!_pos l.toArray k (by simpa using hk)]
  simp only[List.getElem_toArray]
  exact(List.getElem?_eq_some_iff.1 hx).2
 rw[e1]
 have e2:=List.getElem?_eq_some_iff.1 hv
 rw[getElem!_pos (encBd x) j e2.1,e2.2]
theorem RowB.kept {W W':World}{g:Nat}{l:List Pl.Bd}{r:Option Nat}(h:RowB W g l)(hg:W.grownBy W' r)(hne:some g≠r):RowB W' g l:=
 ⟨fun j hj=>⟨(World.cell?_of_block (a:=⟨g,0+j,none⟩) (hg.block g h.lt hne)).trans (h.hold j hj).1,(World.frozen?_of_block (a:=⟨g,0+j,none⟩) (hg.block g h.lt hne)).trans (h.hold j hj).2⟩,Nat.lt_of_lt_of_le h.lt hg.size⟩
theorem rowB_of_own {W:World}{n₀ n:Nat}{v:Value}{l:List Pl.Bd}(h:W.ownsRow n₀ 99 4 v n (l.flatMap encBd))(h0:0<n): ∃g c,v=.slice (some ⟨g,0,none⟩) l.length c∧n₀<=g∧RowB W g l:=by
 have hn:=own_count lay_bd h
 rcases h.2 with ⟨_,h⟩|⟨g,cap,cur,rfl,hb,hg,hle,_,hcs,htk⟩
 ·omega
 ·refine⟨g,cap,by rw[<-hn],hb,⟨fun t ht=> ?_,(lO hg)⟩⟩
  obtain⟨hc,hf⟩:=blk_cells hg
  have ht':t<l.length*4:=by simpa using ht
  refine⟨?_,hf _⟩
  rw[Nat.zero_add,hc,<-Array.getElem?_toList,Sort.get_flatK _ _ _ _ (by simpa using ht')]
  have h1:(cur.toList.take (n*4))[t]?=cur.toList[t]?:=by rw[List.getElem?_take,if_pos (by omega)]
  rw[<-h1,htk]
  have hd:t/4<l.length:=by omega
  have hm:t%4<(encBd l[t/4]).length:=by simp[encBd];omega
  have h2:=flat_at encBd 4 (fun _=>rfl) (l:=l) (k:=t/4) (x:=l[t/4]) (List.getElem?_eq_getElem hd) (j:=t%4) (v:=(encBd l[t/4])[t%4]) (List.getElem?_eq_getElem hm)
  rw[show t/4*4+t%4=t by omega]at h2
  rw[h2,getElem!_pos l.toArray (t/4) (by simpa using hd)]
  simp only[List.getElem_toArray,id]
  rw[getElem!_pos (encBd l[t/4]) (t%4) hm]
theorem sortB_a (W:World)(g c:Nat)(l:List Pl.Bd)(r:Int)(h:RowB W g l)(hr: ∀b∈l,b.record=r)(hn:l.length<=1000):
  Calls Tryz.prog 196 #[.slice (some ⟨g,0,none⟩) l.length c,.func (.func 197) #[] #[]] W fun e w'=>e=.returned (.tuple #[])∧ ∃l',l'.Perm l∧l'.Pairwise Pl.le4∧RowB w' g l'∧W.grownBy w' (some g):=by
 have eg: ∀args w,(callFunc 197 args).run Tryz.prog w=.ok (.enter 197 args) w:=enters_of Tryz.func197 (by kernel_rfl) rfl
 have hcmp:CmpLays Tryz.prog 197 #[] encBd 4 Pl.cmp3 g 0 l.toArray.size W:=fun _ _ _ _ x y=>cmp3_a x y _
 have hcon:=AnyQ.slices_SortFunc Tryz.sortBd 4 Tryz.isAgg99 Tryz.sizeOf99 encBd (fun _=>rfl) (fun x v hv=>by simp[encBd]at hv;rcases hv with rfl|rfl|rfl|rfl<;>rfl) Pl.cmp3 swo3 197 #[] g 0 c l.toArray W eg hcmp h.hold h.lt (by simp;omega)
 simp only[List.size_toArray]at hcon
 refine hcon.mono ?_
 rintro e w' ⟨rfl,d',n,os,hp,hs,rfl⟩
 have hperm:=Pl.perm_of (by simpa using hp)
 have hlen:d'.size=l.length:=by have:=hperm.length_eq;simpa using this
 refine⟨rfl,d'.toList,hperm,Pl.sorted_of hperm hr hs,⟨?_,?_⟩,grow_grown (putRow_grown _ _ _ _ _) _⟩
 ·rw[Array.toArray_toList]
  exact holdsK_sortWorldK_c encBd 4 W g 0 l.toArray d' n os h.hold h.lt (by simpa using hlen)
 ·exact Nat.lt_of_lt_of_le h.lt (size_sortWorldK_c encBd 4 W g 0 n d' os)
set_option maxHeartbeats 1000000 in
theorem sorted_a (W:World)(g c:Nat)(l:List Pl.Bd)(r:Int)(h:RowB W g l)(hr: ∀b∈l,b.record=r)(hn:l.length<=1000)(hd:l.Nodup):
  Calls Tryz.prog 142 #[.slice (some ⟨g,0,none⟩) l.length c] W fun e w'=>e=.returned (.slice (some ⟨g,0,none⟩) l.length c)∧ ∃l',l'.Perm l∧l'.Pairwise Pl.le4∧RowB w' g l'∧W.grownBy w' (some g):=by
 have hs:=sortB_a W g c l r h hr hn
 go_enter Tryz.func142,Tryz.ntmps142
 go_wp2_with fail
 refine hs.mono ?_
 rintro e w1 ⟨rfl,l',hp,ho,hB,hg⟩
 have hlen:=hp.length_eq
 have hcp:=compactBd_a (some ⟨g,0,none⟩) c l' w1 hB.bds (by omega) (hp.nodup_iff.2 hd)
 rw[hlen]at hcp
 go_wp2_with fail
 refine hcp.mono ?_
 rintro e w2 ⟨rfl,q,rfl⟩
 go_wp2_with fail
 go_ret
 exact⟨rfl,l',hp,ho,⟨hB.hold,hB.lt⟩,⟨hg.os,hg.tape,hg.output,hg.size,hg.block⟩⟩
end Go.Proofs.YtgbpekeoegfjpaaGreatDoor
namespace Go.Proofs.YtgbpekeoegfjpaaGreatDoor
open Go.RowKit
attribute [-go_sem] run_equalIn_agg
attribute [-go_sem] storeVar loadVar
attribute [local go_sem] lv_int lv_bool lv_u8 lv_string lv_strings lv_stas lv_pars lv_vars
noncomputable def Pl.sameE (f:Pl.Fld)(a b:Pl.Cal):Int:=if Pl.checkCallE f a=0 then Pl.checkCallE f b else Pl.checkCallE f a
noncomputable def Pl.sameV (f:Pl.Fld)(a b:Pl.Cal):Bool:=if Pl.sameE f a b=0 then Pl.sameL (Pl.boundsC f a 0) (Pl.boundsC f b 0)else false
theorem box3_w (A1 A2 A3 A4:Option Addr)(c1 c2 c3 c4:Nat)(f:Pl.Fld)(a b:Pl.Cal)(w:World): ∃W0,((w.alloc (.cells (fq A1 A2 A3 A4 c1 c2 c3 c4 f) 28)).alloc (.cells (kq a) 48)).alloc (.cells (kq b) 48)=W0∧
  W0.heap[w.heap.size]?=some (.cells (fq A1 A2 A3 A4 c1 c2 c3 c4 f) 28 (0,0))∧W0.heap[w.heap.size+1]?=some (.cells (kq a) 48 (0,0))∧W0.heap[w.heap.size+2]?=some (.cells (kq b) 48 (0,0))∧Below w.heap.size w W0:=by
 refine⟨_,rfl,?_,?_,?_,(((Below.refl _ w).alloc (Nat.le_refl _) _).alloc (by simp) _).alloc (by simp only[World.size_alloc];omega) _⟩
 ·have kf:=(heap_alloc_new w (.cells (fq A1 A2 A3 A4 c1 c2 c3 c4 f) 28))
  have kf:=(Below.heap_alloc _ (.cells (kq a) 48) _ (lO kf)).trans kf
  exact(Below.heap_alloc _ (.cells (kq b) 48) _ (lO kf)).trans kf
 ·have kc:=(heap_alloc_new (w.alloc (.cells (fq A1 A2 A3 A4 c1 c2 c3 c4 f) 28)) (.cells (kq a) 48))
  rw[World.size_alloc]at kc
  exact(Below.heap_alloc _ (.cells (kq b) 48) _ (lO kc)).trans kc
 ·have kr:=(heap_alloc_new ((w.alloc (.cells (fq A1 A2 A3 A4 c1 c2 c3 c4 f) 28)).alloc (.cells (kq a) 48)) (.cells (kq b) 48))
  simp only[World.size_alloc]at kr
  exact kr
theorem boundsV0 {f:Pl.Fld}{c:Pl.Cal}(h:Pl.checkCallE f c=0):Pl.boundsE f c 0=0∧Pl.boundsV f c 0=Pl.boundsC f c 0:=by
 have h1:Pl.boundsE f c 0=0:=by unfold Pl.boundsE;rw[if_pos h,if_pos (by decide)]
 exact⟨h1,by unfold Pl.boundsV;rw[if_pos h1]⟩
theorem boundsE0 {f:Pl.Fld}{c:Pl.Cal}:Pl.boundsE f c 0=Pl.checkCallE f c:=by
 unfold Pl.boundsE
 by_cases h:Pl.checkCallE f c=0
 ·rw[if_pos h,if_pos (by decide),h]
 ·rw[if_neg h]
theorem boundsC_few {f:Pl.Fld}{c:Pl.Cal}(h:Pl.checkCallE f c=0):(Pl.boundsC f c 0).length<=1000:=by
 obtain⟨hok,ht⟩:=tab_of h
 have hS:=hok.st12
 rw[Pl.boundsC_len]
 have:(Pl.spans f c).length<=100:=by
  obtain⟨_,⟨f0,f1⟩,h⟩:=ht
  unfold Pl.spans
  split<;>rename_i hk2<;>simp only[List.length_map,List.length_range,List.length_cons,List.length_nil]<;>rcases h with h|h|h|h|h<;>omega
 omega
end Go.Proofs.YtgbpekeoegfjpaaGreatDoor
set_option maxRecDepth 100000
namespace Go.Proofs.YtgbpekeoegfjpaaGreatDoor
open Go.RowKit
theorem near_b (a b m:Int)(w:World)(h0: -1000000000<=a)(h1:a<=1000000000)(h2: -1000000000<=b)(h3:b<=1000000000):
  Calls Tryz.prog 138 (i3 a b m) w fun e w'=>e=.returned (.bool (decide (a-b<=m)&&decide (b-a<=m)))∧w=w':=by
 have e1:IntKind.i64.wrap (a-b)=a-b:=IntWalk.i64_in _ (by omega)
 have e2:IntKind.i64.wrap (b-a)=b-a:=IntWalk.i64_in _ (by omega)
 by_cases h:a-b<=m
 ·have g1:decide (a-b<=m)=true:=by simpa using h
  go_enter Tryz.func138,Tryz.ntmps138
  go_wp2
  go_ret
  exact⟨by simp[h],rfl⟩
 ·have g1:decide (a-b<=m)=false:=by simpa using h
  go_enter Tryz.func138,Tryz.ntmps138
  go_wp2
  go_ret
  exact⟨by simp,rfl⟩
theorem partB_no {a b:List Pl.Bd}{i:Nat}(h:i<a.length)(hn:a[i]∉b):Pl.partB a b=false:=by
 cases e:Pl.partB a b with
 |false=>rfl
 |true=>exact absurd (Pl.partB_iff.1 e _ (List.getElem_mem h)) hn
theorem partB_yes {a b:List Pl.Bd}(h: ∀i (h:i<a.length),a[i]∈b):Pl.partB a b=true:=by
 rw[Pl.partB_iff]
 intro x hx
 obtain⟨i,hi,rfl⟩:=List.getElem_of_mem hx
 exact h i hi
attribute [-go_sem] run_equalIn_agg
set_option maxHeartbeats 8000000 in
theorem part_b (A A':Option Addr)(c c':Nat)(a b:List Pl.Bd)(w:World)(ha:Bds w w.heap.size A a)(hb:Bds w w.heap.size A' b)(hm:a.length<=100000)(hm':b.length<=100000):
  Calls Tryz.prog 143 #[.slice A a.length c,.slice A' b.length c'] w fun e w'=>e=.returned (.bool (Pl.partB a b))∧Below w.heap.size w w':=by
 go_enter Tryz.func143,Tryz.ntmps143
 go_wp2
 go_loopw [5] (fun i wr=> ∃(k:Nat),k<=a.length∧i=.int .i64 k∧Hid (∀j (h:j<a.length),j<k->a[j]∈b)∧Below w.heap.size w wr) (fun i _=>a.length-(intOf i).toNat)
 case atStart=>exact⟨0,by omega,rfl,Lib.hid fun j _ h=>by omega,by go_grown⟩
 case round=>
  obtain⟨k,hk,rfl,hg,hall⟩:=hrel
  by_cases hlt:k<a.length
  ·obtain⟨ba,oa,hA,hbA,p0,p1,p2,p3⟩:=Bds.at4 ha hlt
   have hno:=Lib.hid (fun h:a[k]∉b=>partB_no hlt h)
   have hyes:Hid (a[k]∈b-> ∀j (h:j<a.length),j<k+1->a[j]∈b):=Lib.hid fun h0 j h hj=>by
    by_cases e:j=k
    ·subst e;exact h0
    ·exact hg.out j h (by omega)
   obtain⟨x,hx⟩: ∃x,a[k]=x:=⟨_,rfl⟩
   rw[hx]at p0 p1 p2 p3 hno hyes
   subst hA
   clear hx
   have f1:(0:Int)<=(k:Int):=by omega
   have f2:(k:Int)<(a.length:Int):=by omega
   go_wp2
   go_loopw [6,7] (fun s i wr=> ∃(m:Nat) (S:Bool),m<=b.length∧i=.int .i64 m∧s=.bool S∧Hid (S=true↔x∈b.take m)∧Below w.heap.size w wr) (fun _ i _=>b.length-(intOf i).toNat)
   case atStart=>exact⟨0,false,by omega,rfl,rfl,Lib.hid (by simp),hall⟩
   case round=>
    clear hall
    obtain⟨m,S,hm2,rfl,rfl,hS,hall⟩:=hrel
    by_cases hlt2:m<b.length
    ·have hnext:Hid (∀T:Bool,T=(S||decide (x=b[m]))->(T=true↔x∈b.take (m+1))):=Lib.hid fun T hT=>by
      rw[List.take_succ_eq_append_getElem hlt2,List.mem_append,List.mem_singleton,hT,Bool.or_eq_true,decide_eq_true_eq,hS.out]
     cases S with
     | true=>
      have HN:=Lib.hid (hnext.out true (by simp))
      clear hnext hS
      go_wp2
      go_quiet (fail)
      all_goals go_wp2
      all_goals (
       go_roundw
       case rel=>exact⟨m+1,true,by omega,by go_num,rfl,Lib.hid (by simpa using HN.out),by first|(go_grown;done)|exact below_drewN hall _⟩
       case measure=>first|(simp[intOf];done)|(simp[intOf];omega))
     | false=>
      obtain⟨bb,ob,hB,hbB,q0,q1,q2,q3⟩:=Bds.at4 (hb.below hall) hlt2
      obtain⟨y,hy⟩: ∃y,b[m]=y:=⟨_,rfl⟩
      rw[hy]at q0 q1 q2 q3 hnext
      clear hy
      have p0:=(hall.cell (p:=⟨ba,oa+k*4,none⟩) hbA).trans p0
      have p1:=(hall.cell (p:=⟨ba,oa+k*4+1,none⟩) hbA).trans p1
      have p2:=(hall.cell (p:=⟨ba,oa+k*4+2,none⟩) hbA).trans p2
      have p3:=(hall.cell (p:=⟨ba,oa+k*4+3,none⟩) hbA).trans p3
      obtain⟨T,hT⟩: ∃T,decide (x=y)=T:=⟨_,rfl⟩
      have HN:=Lib.hid (hnext.out T (by rw[hT];simp))
      have hEq: ∀W,(Op.equalIn 10000 99 (.agg (i4 (x.fr:Int) (x.till:Int) x.most x.record)) (.agg (i4 (y.fr:Int) (y.till:Int) y.most y.record))).run Tryz.prog W=.ok T W:=fun W=>(eq_bd x y W).trans (by rw[hT])
      clear hnext hS hT
      subst hB
      have g1:(0:Int)<=(m:Int):=by omega
      have g2:(m:Int)<(b.length:Int):=by omega
      go_wp2
      go_region_held3 (fun W=>W.cell? ⟨ba,oa+k*4,none⟩=some (.int .i64 (x.fr:Int))∧W.cell? ⟨ba,oa+k*4+1,none⟩=some (.int .i64 (x.till:Int))∧W.cell? ⟨ba,oa+k*4+2,none⟩=some (.int .i64 x.most)∧W.cell? ⟨ba,oa+k*4+3,none⟩=some (.int .i64 x.record)∧W.cell? ⟨bb,ob+m*4,none⟩=some (.int .i64 (y.fr:Int))∧W.cell? ⟨bb,ob+m*4+1,none⟩=some (.int .i64 (y.till:Int))∧W.cell? ⟨bb,ob+m*4+2,none⟩=some (.int .i64 y.most)∧W.cell? ⟨bb,ob+m*4+3,none⟩=some (.int .i64 y.record)) (exact⟨p0,p1,p2,p3,q0,q1,q2,q3⟩) (fail)
      all_goals go_wp2
      all_goals (
       go_roundw
       case rel=>exact⟨m+1,T,by omega,by go_num,rfl,HN,by first|(go_grown;done)|exact below_drewN hall _⟩
       case measure=>first|(simp[intOf];done)|(simp[intOf];omega))
    ·obtain rfl:m=b.length:=by omega
     have hS':Hid (S=true↔x∈b):=Lib.hid (by have:=hS.out;rwa[List.take_length]at this)
     clear hS
     cases S with
     |true=>
      have HY:=Lib.hid (hyes.out (hS'.out.1 rfl))
      clear hyes hno hS'
      go_wp2
      go_roundw
      case rel=>exact⟨k+1,by omega,by go_num,HY,hall⟩
      case measure=>first|(simp[intOf];done)|(simp[intOf];omega)
     |false=>
      have HF:=Lib.hid (hno.out (fun h=>by have:=hS'.out.2 h;cases this))
      clear hyes hno hS'
      go_wp2
      go_ret
      exact⟨by rw[HF.out];rfl,hall⟩
  ·have HT:=Lib.hid (partB_yes (a:=a) (b:=b) (fun j h=>hg.out j h (by omega)))
   go_wp2
   go_ret
   exact⟨by rw[HT.out];rfl,hall⟩
attribute [-go_sem] storeVar loadVar
attribute [local go_sem] lv_int lv_bool lv_u8 lv_string lv_strings lv_stas lv_pars lv_vars
set_option maxHeartbeats 4000000 in
theorem SameB_h (A1 A2 A3 A4:Option Addr)(c1 c2 c3 c4:Nat)(f:Pl.Fld)(a b:Pl.Cal)(V:Bool)(E:Int)(w:World)(hV:Hid (Pl.sameV f a b=V))(hE:Hid (Pl.sameE f a b=E))(hf:FldS w w.heap.size A1 A2 A3 A4 f)(hm:Small f)(hc:Caps c1 c2 c3 c4 f):
  Calls Tryz.prog 71 #[.agg (fq A1 A2 A3 A4 c1 c2 c3 c4 f),.agg (kq a),.agg (kq b)] w fun e w'=>e=.returned (.tuple #[.bool V,.int .i64 E])∧Below w.heap.size w w':=by
 obtain⟨W0,hW0,kf,ka,kb,hall⟩:=box3_w A1 A2 A3 A4 c1 c2 c3 c4 f a b w
 have l01:=ld_row kf Tryz.underlying28 rfl info_fld
 have l02:=ld_row ka Tryz.underlying48 rfl info_cal
 have l03:=ld_row kb Tryz.underlying48 rfl info_cal
 obtain⟨Ea,hEa⟩: ∃E,Pl.checkCallE f a=E:=⟨_,rfl⟩
 by_cases h0:Ea=0
 ·subst h0
  obtain⟨b1,b2⟩:=boundsV0 hEa
  have HA1:=Lib.hid b1
  obtain⟨La,hLa⟩: ∃L,Pl.boundsV f a 0=L:=⟨_,rfl⟩
  have HA2:=Lib.hid hLa
  have hla:La.length<=100000:=by rw[<-hLa,b2];have:=boundsC_few hEa;omega
  obtain⟨Eb,hEb⟩: ∃E,Pl.checkCallE f b=E:=⟨_,rfl⟩
  have HE:Hid (E=Eb):=Lib.hid (by rw[<-hE.out];unfold Pl.sameE;rw[if_pos hEa,hEb])
  by_cases h1:Eb=0
  ·subst h1
   obtain⟨d1,d2⟩:=boundsV0 hEb
   have HB1:=Lib.hid d1
   obtain⟨Lb,hLb⟩: ∃L,Pl.boundsV f b 0=L:=⟨_,rfl⟩
   have HB2:=Lib.hid hLb
   have hlb:Lb.length<=100000:=by rw[<-hLb,d2];have:=boundsC_few hEb;omega
   have HV:Hid (V=(Pl.partB La Lb&&Pl.partB Lb La)):=Lib.hid (by rw[<-hV.out];unfold Pl.sameV;rw[if_pos (by rw[hE.out,HE.out]),<-hLa,<-hLb,b2,d2];rfl)
   clear b1 b2 d1 d2 hLa hLb hEa hEb hV hE
   obtain⟨P,hP⟩: ∃P,Pl.partB La Lb=P:=⟨_,rfl⟩
   obtain⟨Q,hQ⟩: ∃Q,Pl.partB Lb La=Q:=⟨_,rfl⟩
   rw[hP,hQ]at HV
   cases P
   all_goals
    go_enter Tryz.func71,Tryz.ntmps71
    go_wp2_with fail
    refine(BoundsB_h A1 A2 A3 A4 c1 c2 c3 c4 f a 0 La 0 _ HA2 HA1 (hf.up hall) hm hc).mono ?_
    rintro e w1 ⟨X,x,rfl,hX,hx⟩
    replace kf:=kE hx kf;replace ka:=kE hx ka;replace kb:=kE hx kb;replace hall:Below w.heap.size w _:=hall.trans (hx.mono hall.size);(try clear l01 l02 l03);have l01:=ld_row kf Tryz.underlying28 rfl info_fld;have l02:=ld_row ka Tryz.underlying48 rfl info_cal;have l03:=ld_row kb Tryz.underlying48 rfl info_cal;clear hx
    go_wp2_with fail
    refine(BoundsB_h A1 A2 A3 A4 c1 c2 c3 c4 f b 0 Lb 0 _ HB2 HB1 (hf.up hall) hm hc).mono ?_
    rintro e w2 ⟨Y,y,rfl,hY,hx⟩
    replace hX:=hX.up hx
    replace kf:=kE hx kf;replace ka:=kE hx ka;replace kb:=kE hx kb;replace hall:Below w.heap.size w _:=hall.trans (hx.mono hall.size);(try clear l01 l02 l03);have l01:=ld_row kf Tryz.underlying28 rfl info_fld;have l02:=ld_row ka Tryz.underlying48 rfl info_cal;have l03:=ld_row kb Tryz.underlying48 rfl info_cal;clear hx
    go_wp2_with fail
    have hp1:=part_b X Y x y La Lb _ hX hY hla hlb
    rw[hP]at hp1
    refine hp1.mono ?_
    rintro e w3 ⟨rfl,hx⟩
    replace hX:=hX.up hx
    replace hY:=hY.up hx
    replace kf:=kE hx kf;replace ka:=kE hx ka;replace kb:=kE hx kb;replace hall:Below w.heap.size w _:=hall.trans (hx.mono hall.size);(try clear l01 l02 l03);have l01:=ld_row kf Tryz.underlying28 rfl info_fld;have l02:=ld_row ka Tryz.underlying48 rfl info_cal;have l03:=ld_row kb Tryz.underlying48 rfl info_cal;clear hx
    clear hP
    try clear hp1
   ·go_wp2_with fail
    go_ret2
    exact⟨by rw[HV.out,HE.out];rfl,hall⟩
   ·go_wp2_with fail
    have hp1:=part_b Y X y x Lb La _ hY hX hlb hla
    rw[hQ]at hp1
    refine hp1.mono ?_
    rintro e w4 ⟨rfl,hx⟩
    replace kf:=kE hx kf;replace ka:=kE hx ka;replace kb:=kE hx kb;replace hall:Below w.heap.size w _:=hall.trans (hx.mono hall.size);(try clear l01 l02 l03);have l01:=ld_row kf Tryz.underlying28 rfl info_fld;have l02:=ld_row ka Tryz.underlying48 rfl info_cal;have l03:=ld_row kb Tryz.underlying48 rfl info_cal;clear hx
    go_wp2_with fail
    go_ret2
    exact⟨by rw[HV.out,HE.out];simp,hall⟩
  ·have q1:(Eb !=0)=true:=by simpa using h1
   have HB1:Hid (Pl.boundsE f b 0=Eb):=Lib.hid (by rw[boundsE0,hEb])
   obtain⟨Lb,hLb⟩: ∃L,Pl.boundsV f b 0=L:=⟨_,rfl⟩
   have HB2:=Lib.hid hLb
   have HV:Hid (V=false):=Lib.hid (by rw[<-hV.out];unfold Pl.sameV;rw[if_neg];rw[hE.out,HE.out];exact h1)
   clear b1 b2 hLa hLb hEa hEb hV hE h1
   go_enter Tryz.func71,Tryz.ntmps71
   go_wp2_with fail
   refine(BoundsB_h A1 A2 A3 A4 c1 c2 c3 c4 f a 0 La 0 _ HA2 HA1 (hf.up hall) hm hc).mono ?_
   rintro e w1 ⟨X,x,rfl,hX,hx⟩
   replace kf:=kE hx kf;replace ka:=kE hx ka;replace kb:=kE hx kb;replace hall:Below w.heap.size w _:=hall.trans (hx.mono hall.size);(try clear l01 l02 l03);have l01:=ld_row kf Tryz.underlying28 rfl info_fld;have l02:=ld_row ka Tryz.underlying48 rfl info_cal;have l03:=ld_row kb Tryz.underlying48 rfl info_cal;clear hx
   go_wp2_with fail
   refine(BoundsB_h A1 A2 A3 A4 c1 c2 c3 c4 f b 0 Lb Eb _ HB2 HB1 (hf.up hall) hm hc).mono ?_
   rintro e w2 ⟨Y,y,rfl,hY,hx⟩
   replace kf:=kE hx kf;replace ka:=kE hx ka;replace kb:=kE hx kb;replace hall:Below w.heap.size w _:=hall.trans (hx.mono hall.size);(try clear l01 l02 l03);have l01:=ld_row kf Tryz.underlying28 rfl info_fld;have l02:=ld_row ka Tryz.underlying48 rfl info_cal;have l03:=ld_row kb Tryz.underlying48 rfl info_cal;clear hx
   go_wp2_with fail
   go_ret2
   exact⟨by rw[HV.out,HE.out];rfl,hall⟩
 ·have q0:(Ea !=0)=true:=by simpa using h0
  have HA1:Hid (Pl.boundsE f a 0=Ea):=Lib.hid (by rw[boundsE0,hEa])
  obtain⟨La,hLa⟩: ∃L,Pl.boundsV f a 0=L:=⟨_,rfl⟩
  have HA2:=Lib.hid hLa
  have HE:Hid (E=Ea):=Lib.hid (by rw[<-hE.out];unfold Pl.sameE;rw[if_neg (by rw[hEa];exact h0),hEa])
  have HV:Hid (V=false):=Lib.hid (by rw[<-hV.out];unfold Pl.sameV;rw[if_neg];rw[hE.out,HE.out];exact h0)
  clear hLa hEa hV hE h0
  go_enter Tryz.func71,Tryz.ntmps71
  go_wp2_with fail
  refine(BoundsB_h A1 A2 A3 A4 c1 c2 c3 c4 f a 0 La Ea _ HA2 HA1 (hf.up hall) hm hc).mono ?_
  rintro e w1 ⟨X,x,rfl,hX,hx⟩
  replace kf:=kE hx kf;replace ka:=kE hx ka;replace kb:=kE hx kb;replace hall:Below w.heap.size w _:=hall.trans (hx.mono hall.size);(try clear l01 l02 l03);have l01:=ld_row kf Tryz.underlying28 rfl info_fld;have l02:=ld_row ka Tryz.underlying48 rfl info_cal;have l03:=ld_row kb Tryz.underlying48 rfl info_cal;clear hx
  go_wp2_with fail
  go_ret2
  exact⟨by rw[HV.out,HE.out];rfl,hall⟩
end Go.Proofs.YtgbpekeoegfjpaaGreatDoor
set_option maxRecDepth 100000
namespace Go.Proofs.YtgbpekeoegfjpaaGreatDoor
open Go.RowKit
variable (A1 A2 A3 A4 : Option Addr) (c1 c2 c3 c4 : Nat) (f : Pl.Fld)
attribute [-go_sem] run_equalIn_agg storeVar loadVar
attribute [local go_sem] lv_int lv_bool lv_u8 lv_string lv_vars
noncomputable def Pl.allowsE (f:Pl.Fld)(c:Pl.Cal)(y:List Int):Int:=if Pl.checkCallE f c=0 then (if Pl.drawnB f.st.length f.li.length y=true then 0 else 1)else Pl.checkCallE f c
noncomputable def Pl.allowsV (f:Pl.Fld)(c:Pl.Cal)(y:List Int):Bool:=if Pl.allowsE f c y=0 then Pl.keepsB (Pl.boundsC f c 0) y else false
set_option maxHeartbeats 2000000 in
theorem Allows_a (c:Pl.Cal)(A:Option Addr)(cy:Nat)(y:List Int)(w:World)(hf:FldS w w.heap.size A1 A2 A3 A4 f)(hm:Small f)(hc:Caps c1 c2 c3 c4 f)(hk:c.kind<=255)(hy:Ints w w.heap.size A y)(hym:y.length<=100000):
  Calls Tryz.prog 37 #[.agg (fq A1 A2 A3 A4 c1 c2 c3 c4 f),.agg (kq c),.slice A y.length cy] w fun e w'=>e=.returned (.tuple #[.bool (Pl.allowsV f c y),.int .i64 (Pl.allowsE f c y)])∧Below w.heap.size w w':=by
 have kf:=(heap_alloc_new w (.cells (fq A1 A2 A3 A4 c1 c2 c3 c4 f) 28))
 have kc:=(heap_alloc_new (w.alloc (.cells (fq A1 A2 A3 A4 c1 c2 c3 c4 f) 28)) (.cells (kq c) 48))
 rw[World.size_alloc]at kc
 have kf:=(Below.heap_alloc _ (.cells (kq c) 48) _ (lO kf)).trans kf
 have l01:=ld_row kf Tryz.underlying28 rfl info_fld
 have l02:=ld_row kc Tryz.underlying48 rfl info_cal
 have hall:Below w.heap.size w ((w.alloc (.cells (fq A1 A2 A3 A4 c1 c2 c3 c4 f) 28)).alloc (.cells (kq c) 48)):=((Below.refl _ w).alloc (Nat.le_refl _) _).alloc (by simp) _
 obtain⟨E,hE⟩: ∃E,Pl.checkCallE f c=E:=⟨_,rfl⟩
 have HC:=Lib.hid hE
 clear hE
 by_cases h0:E=0
 ·subst h0
  obtain⟨hok,ht⟩:=tab_of HC.out
  have b0:=hok.li1
  have b1:=hok.li10
  have b2:=hok.st12
  have hdr:=fun W (hW:Below w.heap.size w W)=>drawn_a A1 A2 A3 A4 c1 c2 c3 c4 f A cy y W b2 b0 b1 (hy.up hW) hym
  obtain⟨D,hD⟩: ∃D,Pl.drawnB f.st.length f.li.length y=D:=⟨_,rfl⟩
  rw[hD]at hdr
  cases D with
  | false=>
   have HB:Hid (Pl.allowsE f c y=1):=Lib.hid (by unfold Pl.allowsE;rw[if_pos HC.out,if_neg (by rw[hD];decide)])
   have HV:Hid (Pl.allowsV f c y=false):=Lib.hid (by unfold Pl.allowsV;rw[if_neg (by rw[HB.out];decide)])
   clear hD hok ht
   go_enter Tryz.func37,Tryz.ntmps37
   go_wp2_with first
    |(go_at_call 38;refine(checkCall_h A1 A2 A3 A4 c1 c2 c3 c4 f c 0 _ HC (hf.up hall) hm hc hk).mono ?_;rintro e w1 ⟨rfl,hx⟩;have kf:=kE hx kf;have kc:=kE hx kc;have hall:Below w.heap.size w _:=hall.trans (hx.mono hall.size);clear l01 l02;have l01:=ld_row kf Tryz.underlying28 rfl info_fld;have l02:=ld_row kc Tryz.underlying48 rfl info_cal;clear hx)
    |(go_at_call 105;refine(hdr _ hall).mono ?_;rintro e w1 ⟨rfl,hx⟩;have kf:=kE hx kf;have kc:=kE hx kc;have hall:Below w.heap.size w _:=hall.trans (hx.mono hall.size);clear l01 l02;have l01:=ld_row kf Tryz.underlying28 rfl info_fld;have l02:=ld_row kc Tryz.underlying48 rfl info_cal;clear hx)
   go_ret2
   exact⟨by rw[HB.out,HV.out];try rfl,hall⟩
  | true=>
   have HB:Hid (Pl.allowsE f c y=0):=Lib.hid (by unfold Pl.allowsE;rw[if_pos HC.out,if_pos hD])
   obtain⟨K,hK⟩: ∃K,Pl.keepsB (Pl.boundsC f c 0) y=K:=⟨_,rfl⟩
   have HV:Hid (Pl.allowsV f c y=K):=Lib.hid (by unfold Pl.allowsV;rw[if_pos HB.out,hK])
   have hylen:=Pl.drawnB_len hD
   have hpt:Hid (∀b∈Pl.boundsC f c 0,b.fr<y.length∧b.till<y.length):=Lib.hid (by rw[hylen];exact Pl.bounds_pts ht)
   have hr:=Lib.hid (Pl.drawnB_ranged hD)
   have hlen:(Pl.boundsC f c 0).length<=100000:=by
    have hsl:(Pl.spans f c).length<=100:=by
     obtain⟨_,⟨f0,f1⟩,h⟩:=ht
     unfold Pl.spans
     split<;>rename_i hk2<;>simp only[List.length_map,List.length_range,List.length_cons,List.length_nil]<;>rcases h with h|h|h|h|h<;>omega
    rw[Pl.boundsC_len];omega
   have hbd:=fun W (hW:FldS W W.heap.size A1 A2 A3 A4 f)=>bounds_a A1 A2 A3 A4 c1 c2 c3 c4 f c 0 W ht (by omega) (by omega) hW hm.va hok.x (spans_lo ht) (spans_len ht (by omega))
   obtain⟨L,hL⟩: ∃L,Pl.boundsC f c 0=L:=⟨_,rfl⟩
   rw[hL]at hbd hlen hpt hK
   have HK:=Lib.hid hK
   clear hL hK hD hok ht hylen
   go_enter Tryz.func37,Tryz.ntmps37
   go_wp2_with first
    |(go_at_call 38;refine(checkCall_h A1 A2 A3 A4 c1 c2 c3 c4 f c 0 _ HC (hf.up hall) hm hc hk).mono ?_;rintro e w1 ⟨rfl,hx⟩;have kf:=kE hx kf;have kc:=kE hx kc;have hall:Below w.heap.size w _:=hall.trans (hx.mono hall.size);clear l01 l02;have l01:=ld_row kf Tryz.underlying28 rfl info_fld;have l02:=ld_row kc Tryz.underlying48 rfl info_cal;clear hx)
    |(go_at_call 105;refine(hdr _ hall).mono ?_;rintro e w1 ⟨rfl,hx⟩;have kf:=kE hx kf;have kc:=kE hx kc;have hall:Below w.heap.size w _:=hall.trans (hx.mono hall.size);clear l01 l02;have l01:=ld_row kf Tryz.underlying28 rfl info_fld;have l02:=ld_row kc Tryz.underlying48 rfl info_cal;clear hx)
    |(go_at_call 90;refine(hbd _ (hf.up hall)).mono ?_;rintro e w1 ⟨X,k,rfl,hS,hle,hF,hx⟩;have kf:=kE hx kf;have kc:=kE hx kc;have hall:Below w.heap.size w _:=hall.trans (hx.mono hall.size);clear l01 l02;have l01:=ld_row kf Tryz.underlying28 rfl info_fld;have l02:=ld_row kc Tryz.underlying48 rfl info_cal;clear hx)
    |(go_at_call 107;refine(kept_a X A k cy L y K _ hS hlen (hy.up hall) hpt.out hr.out HK).mono ?_;rintro e w1 ⟨rfl,hx⟩;have hall:Below w.heap.size w _:=hall.trans (hx.mono hall.size);clear hx)
   go_ret2
   exact⟨by rw[HB.out,HV.out];try rfl,hall⟩
 ·have HB:Hid (Pl.allowsE f c y=E):=Lib.hid (by unfold Pl.allowsE;rw[HC.out,if_neg h0])
  have HV:Hid (Pl.allowsV f c y=false):=Lib.hid (by unfold Pl.allowsV;rw[HB.out,if_neg h0])
  go_enter Tryz.func37,Tryz.ntmps37
  go_wp2_with (go_at_call 38;refine(checkCall_h A1 A2 A3 A4 c1 c2 c3 c4 f c E _ HC (hf.up hall) hm hc hk).mono ?_;rintro e w1 ⟨rfl,hx⟩;have kf:=kE hx kf;have kc:=kE hx kc;have hall:Below w.heap.size w _:=hall.trans (hx.mono hall.size);clear l01 l02;have l01:=ld_row kf Tryz.underlying28 rfl info_fld;have l02:=ld_row kc Tryz.underlying48 rfl info_cal;clear hx)
  go_ret2
  exact⟨by rw[HB.out,HV.out];try rfl,hall⟩
theorem Allows_h (c:Pl.Cal)(A:Option Addr)(cy:Nat)(y:List Int)(b:Bool)(E:Int)(w:World)(h1:Hid (Pl.allowsV f c y=b))(h2:Hid (Pl.allowsE f c y=E))(hf:FldS w w.heap.size A1 A2 A3 A4 f)(hm:Small f)(hc:Caps c1 c2 c3 c4 f)(hk:c.kind<=255)(hy:Ints w w.heap.size A y)(hym:y.length<=100000):
  Calls Tryz.prog 37 #[.agg (fq A1 A2 A3 A4 c1 c2 c3 c4 f),.agg (kq c),.slice A y.length cy] w fun e w'=>e=.returned (.tuple #[.bool b,.int .i64 E])∧Below w.heap.size w w':=by
 have:=Allows_a A1 A2 A3 A4 c1 c2 c3 c4 f c A cy y w hf hm hc hk hy hym
 rw[h1.out,h2.out]at this
 exact this
end Go.Proofs.YtgbpekeoegfjpaaGreatDoor
namespace Go.Proofs.YtgbpekeoegfjpaaGreatDoor
namespace Pl
def nearB (a b m:Int):Bool:=decide (a-b<=m)&&decide (b-a<=m)
theorem keeps_words {f:Fld}{c:Cal}{y:List Int}{B:Bool}(h:(∀x∈spans f c,x.lo<=at0 y x.till-at0 y x.fr∧at0 y x.till-at0 y x.fr<=x.hi)↔B=true):keepsB (boundsC f c 0) y=B:=by
 rw[Bool.eq_iff_iff,keepsB_iff,keeps_spans]
 exact h
theorem kw1 {f:Fld}{c:Cal}{y:List Int}(h0:at0 y 0=0)(hk:c.kind=1):keepsB (boundsC f c 0) y=nearB (at0 y (ptC f c.lim c.fr)) c.size c.er:=by
 refine keeps_words ?_
 rw[allows_fixed f c y h0 (.inl hk)]
 unfold allowsC nearB
 simp[hk]
theorem kw2 {f:Fld}{c:Cal}{y:List Int}(h0:at0 y 0=0)(hk:c.kind=2):keepsB (boundsC f c 0) y=nearB (at0 y (ptC f c.oth c.fr)-at0 y (ptC f c.lim c.fr)) c.size c.er:=by
 refine keeps_words ?_
 rw[allows_fixed f c y h0 (.inr (.inl hk))]
 unfold allowsC nearB
 simp[hk]
theorem kw5 {f:Fld}{c:Cal}{y:List Int}(h0:at0 y 0=0)(hk:c.kind=5):keepsB (boundsC f c 0) y=nearB (at0 y (ptC f c.lim c.till)-at0 y (ptC f c.lim c.fr)) c.size c.er:=by
 refine keeps_words ?_
 rw[allows_fixed f c y h0 (.inr (.inr hk))]
 unfold allowsC nearB
 simp[hk]
theorem kw3 {f:Fld}{c:Cal}{y:List Int}(h:callE f c=0)(hk:c.kind=3)(b0: -100000<=at0 y (ptC f c.lim c.till)-at0 y (ptC f c.lim c.fr))(b1:at0 y (ptC f c.lim c.till)-at0 y (ptC f c.lim c.fr)<=100000):
  keepsB (boundsC f c 0) y=fits f.va c.crs (runC f.st c) (at0 y (ptC f c.lim c.till)-at0 y (ptC f c.lim c.fr)):=by
 obtain⟨_,h2,h3⟩:=callE_three h hk
 refine keeps_words ?_
 rw[allows_course f c y hk h2 h3 b0 b1]
 unfold allowsC fits
 simp[hk]
theorem kw4_yes {f:Fld}{c:Cal}{y:List Int}(hk:c.kind=4)(h: ∀k:Nat,(k:Int)<=c.till-c.fr->at0 y (ptC f c.lim (c.fr+k))=at0 y (ptC f c.oth (c.fr+k))):keepsB (boundsC f c 0) y=true:=by
 refine keeps_words ?_
 rw[allows_along f c y hk]
 unfold allowsC
 simp only[hk]
 exact⟨fun _=>trivial,fun _=>h⟩
theorem kw4_no {f:Fld}{c:Cal}{y:List Int}(hk:c.kind=4){k:Nat}(hle:(k:Int)<=c.till-c.fr)(hne:at0 y (ptC f c.lim (c.fr+k))≠at0 y (ptC f c.oth (c.fr+k))):keepsB (boundsC f c 0) y=false:=by
 refine keeps_words ?_
 rw[allows_along f c y hk]
 unfold allowsC
 simp only[hk]
 exact⟨fun h=>absurd (h k hle) hne,fun h=>by cases h⟩
theorem at0_bd {y:List Int}{n:Nat}(h: ∀v∈y,0<=v∧v<=100000):0<=at0 y n∧at0 y n<=100000:=by
 unfold at0
 by_cases hn:n<y.length
 ·rw[List.getElem?_eq_getElem hn]
  exact h _ (List.getElem_mem hn)
 ·rw[List.getElem?_eq_none (by omega)]
  simp
end Pl
end Go.Proofs.YtgbpekeoegfjpaaGreatDoor
set_option maxRecDepth 100000
namespace Go.Proofs.YtgbpekeoegfjpaaGreatDoor
open Go.RowKit
variable (A1 A2 A3 A4 : Option Addr) (c1 c2 c3 c4 : Nat) (f : Pl.Fld)
set_option maxHeartbeats 1000000 in
theorem Fits_b (A:Option Addr)(cp:Nat)(v:List (Int×Int))(c:Pl.Crs)(dx dy:Int)(w:World)(hl:Vars w w.heap.size A v)(hm:v.length<=maxLen):
  Calls Tryz.prog 139 #[.slice A v.length cp,.agg (cq c),.int .i64 dx,.int .i64 dy] w fun e w'=>e=.returned (.tuple #[.bool (Pl.fits v c dx dy),.int .i64 (Pl.stepE v c dx dy)])∧Below w.heap.size w w':=by
 have hM:=fun W (h:Vars W W.heap.size A v)=>Misfit_b A cp v c dx dy W h hm
 have HF:Hid (Pl.fits v c dx dy=decide (Pl.stepE v c dx dy=0∧Pl.fitR v c dx dy=0)):=Lib.hid rfl
 obtain⟨E,hE⟩: ∃E,Pl.stepE v c dx dy=E:=⟨_,rfl⟩
 obtain⟨R,hR⟩: ∃E,Pl.fitR v c dx dy=E:=⟨_,rfl⟩
 rw[hE,hR]at HF
 rw[hE]
 simp only[hE,hR]at hM
 clear hE hR
 have kb:=heap_alloc_new w (.cells (cq c) 46)
 have hall:Below w.heap.size w (w.alloc (.cells (cq c) 46)):=(Below.refl _ w).alloc (Nat.le_refl _) _
 by_cases h0:E=0
 ·subst h0
  go_enter Tryz.func139,Tryz.ntmps139
  go_wp2_with fail
  refine(hM _ (hl.up hall)).mono ?_
  rintro e w1 ⟨rfl,hx⟩
  replace hall:Below w.heap.size w w1:=hall.trans (hx.mono hall.size)
  go_wp2
  go_ret2
  exact⟨by rw[HF.out];by_cases h:R=0<;>simp[h],hall⟩
 ·have q0:(E==0)=false:=by simpa using h0
  go_enter Tryz.func139,Tryz.ntmps139
  go_wp2_with fail
  refine(hM _ (hl.up hall)).mono ?_
  rintro e w1 ⟨rfl,hx⟩
  replace hall:Below w.heap.size w w1:=hall.trans (hx.mono hall.size)
  go_wp2
  go_ret2
  exact⟨by rw[HF.out];simp[h0],hall⟩
attribute [-go_sem] run_equalIn_agg storeVar loadVar
attribute [local go_sem] lv_int lv_bool lv_u8 lv_string lv_strings lv_stas lv_pars lv_vars lv_ints
theorem sf_of {k:Int}{c:Pl.Cal}{g:Nat}{W:World}(kf:W.heap[g]?=some (.cells (fq A1 A2 A3 A4 c1 c2 c3 c4 f) 28 (0,0)))(kc:W.heap[g+1]?=some (.cells (kkq k c) 48 (0,0))):
  (loadVar 28 ⟨g,0,none⟩).run Tryz.prog W=.ok (.agg (fq A1 A2 A3 A4 c1 c2 c3 c4 f)) W∧(loadVar 48 ⟨g+1,0,none⟩).run Tryz.prog W=.ok (.agg (kkq k c)) W∧(loadVar 46 ⟨g+1,7,none⟩).run Tryz.prog W=.ok (.agg (cq c.crs)) W∧(∀j,W.cell? ⟨g+1,j,none⟩=((kkq k c):Array Value)[j]?)∧(∀j,W.cell? ⟨g,j,none⟩=((fq A1 A2 A3 A4 c1 c2 c3 c4 f):Array Value)[j]?):=
 ⟨ld_row kf Tryz.underlying28 rfl info_fld,ld_row kc Tryz.underlying48 rfl info_cal,ld_crsC kc,(blk_cells kc).1,(blk_cells kf).1⟩
set_option maxHeartbeats 8000000 in
theorem allowsB_1 (c:Pl.Cal)(A:Option Addr)(cy:Nat)(y:List Int)(w:World)(hf:FldS w w.heap.size A1 A2 A3 A4 f)(hm:Small f)(hc:Caps c1 c2 c3 c4 f)(hk:c.kind=1)(HC:Hid (Pl.checkCallE f c=0))(HD:Hid (Pl.drawnB f.st.length f.li.length y=true))(hy:Ints w w.heap.size A y)(hym:y.length<=100000):
  Calls Tryz.prog 69 #[.agg (fq A1 A2 A3 A4 c1 c2 c3 c4 f),.agg (kkq 1 c),.slice A y.length cy] w fun e w'=>e=.returned (.tuple #[.bool (Pl.keepsB (Pl.boundsC f c 0) y),.int .i64 0])∧Below w.heap.size w w':=by
 obtain⟨hok,ht⟩:=tab_of HC.out
 have hS:=hok.st12
 have hL:=hok.li10
 have hylen:=Pl.drawnB_len HD.out
 have hrg:=Pl.drawnB_ranged HD.out
 have h1:=ht.1
 have h2:=ht.2.1
 have ht3:=ht.2.2
 have hp1:=ptC_eq h1 h2
 have l1:=Pl.ptC_lt h1 h2
 rw[<-hylen]at l1
 have hcall:=fun W (hW:FldS W W.heap.size A1 A2 A3 A4 f)=>checkCallB_h A1 A2 A3 A4 c1 c2 c3 c4 f c 0 W HC hW hm hc
 rw[show(c.kind:Int)=(1:Int) by omega]at hcall
 have hFE:Hid (Pl.fieldE f=0):=Lib.hid (by have:=HC.out;unfold Pl.checkCallE at this;split at this;assumption;exact absurd this ‹_›)
 have hdr:=fun W (hW:FldS W W.heap.size A1 A2 A3 A4 f) (hyW:Ints W W.heap.size A y)=>drawn_b A1 A2 A3 A4 c1 c2 c3 c4 f A cy y true W hFE HD hW hm hc hyW hym
 have HK:=Lib.hid (Pl.kw1 (f:=f) (Pl.drawnB_zero HD.out) hk)
 obtain⟨by_,oy,hA,hbY,y1⟩:=Ints.at1 hy l1
 subst hA
 obtain⟨p1,hP1⟩: ∃p,Pl.ptC f c.lim c.fr=p:=⟨_,rfl⟩
 have v1:=hrg _ (List.getElem_mem l1)
 rw[Pl.at0_get l1]at HK
 obtain⟨u,hu⟩: ∃u,y[Pl.ptC f c.lim c.fr]=u:=⟨_,rfl⟩
 rw[hu]at y1 v1 HK
 rw[hP1]at y1 l1 hp1
 unfold Pl.inN at h1 h2
 have g0:(0:Int)<=(p1:Int):=by omega
 have g1:(p1:Int)<(y.length:Int):=by omega
 have n1:decide ((p1:Int)<0)=false:=by simp
 have n2:decide (y.length<=p1)=false:=by simp;omega
 have hq1:=fun W=>point_b A1 A2 A3 A4 c1 c2 c3 c4 f c.lim c.fr W (by omega) (by omega) (by omega) (by omega) (by omega)
 rw[hp1]at hq1
 have hnr:=fun W=>near_b u c.size c.er W (by omega) (by omega) (by omega) (by omega)
 clear hu hrg hylen hP1 hp1 HD ht3 ht hok
 have kf:=(heap_alloc_new w (.cells (fq A1 A2 A3 A4 c1 c2 c3 c4 f) 28))
 have kc:=(heap_alloc_new (w.alloc (.cells (fq A1 A2 A3 A4 c1 c2 c3 c4 f) 28)) (.cells (kkq 1 c) 48))
 rw[World.size_alloc]at kc
 have kf:=(Below.heap_alloc _ (.cells (kkq 1 c) 48) _ (lO kf)).trans kf
 have l01:=ld_row kf Tryz.underlying28 rfl info_fld
 have l02:=ld_row kc Tryz.underlying48 rfl info_cal
 have hall:Below w.heap.size w ((w.alloc (.cells (fq A1 A2 A3 A4 c1 c2 c3 c4 f) 28)).alloc (.cells (kkq 1 c) 48)):=((Below.refl _ w).alloc (Nat.le_refl _) _).alloc (by simp) _
 go_enter Tryz.func69,Tryz.ntmps69
 go_wp2_with fail
 refine(hcall _ (hf.up hall)).mono ?_
 rintro e w1 ⟨rfl,hx⟩
 replace kf:=kE hx kf;replace kc:=kE hx kc;replace hall:Below w.heap.size w _:=hall.trans (hx.mono hall.size);(try clear l01 l02);have l01:=ld_row kf Tryz.underlying28 rfl info_fld;have l02:=ld_row kc Tryz.underlying48 rfl info_cal;(try clear hcf hff hcc hfc);obtain⟨hcf,hff⟩:=blk_cells kf;obtain⟨hcc,hfc⟩:=blk_cells kc;clear hx
 go_wp2_with fail
 refine(hdr _ (hf.up hall) (hy.up hall)).mono ?_
 rintro e w2 ⟨rfl,hx⟩
 replace kf:=kE hx kf;replace kc:=kE hx kc;replace hall:Below w.heap.size w _:=hall.trans (hx.mono hall.size);(try clear l01 l02);have l01:=ld_row kf Tryz.underlying28 rfl info_fld;have l02:=ld_row kc Tryz.underlying48 rfl info_cal;(try clear hcf hff hcc hfc);obtain⟨hcf,hff⟩:=blk_cells kf;obtain⟨hcc,hfc⟩:=blk_cells kc;clear hx
 go_wp2_with fail
 refine(hq1 _).mono ?_
 rintro e w3 ⟨rfl,hx⟩
 replace kf:=kE hx kf;replace kc:=kE hx kc;replace hall:Below w.heap.size w _:=hall.trans (hx.mono hall.size);(try clear l01 l02);have l01:=ld_row kf Tryz.underlying28 rfl info_fld;have l02:=ld_row kc Tryz.underlying48 rfl info_cal;(try clear hcf hff hcc hfc);obtain⟨hcf,hff⟩:=blk_cells kf;obtain⟨hcc,hfc⟩:=blk_cells kc;clear hx
 have y1:=(hall.cell (p:=⟨by_,oy+p1,none⟩) hbY).trans y1
 go_wp2_with fail
 refine(hnr _).mono ?_
 rintro e w4 ⟨rfl,rfl⟩
 go_wp2_with fail
 go_ret2
 exact⟨by rw[HK.out];rfl,hall⟩
set_option maxHeartbeats 8000000 in
theorem allowsB_2 (c:Pl.Cal)(A:Option Addr)(cy:Nat)(y:List Int)(w:World)(hf:FldS w w.heap.size A1 A2 A3 A4 f)(hm:Small f)(hc:Caps c1 c2 c3 c4 f)(hk:c.kind=2)(HC:Hid (Pl.checkCallE f c=0))(HD:Hid (Pl.drawnB f.st.length f.li.length y=true))(hy:Ints w w.heap.size A y)(hym:y.length<=100000):
  Calls Tryz.prog 69 #[.agg (fq A1 A2 A3 A4 c1 c2 c3 c4 f),.agg (kkq 2 c),.slice A y.length cy] w fun e w'=>e=.returned (.tuple #[.bool (Pl.keepsB (Pl.boundsC f c 0) y),.int .i64 0])∧Below w.heap.size w w':=by
 obtain⟨hok,ht⟩:=tab_of HC.out
 have hS:=hok.st12
 have hL:=hok.li10
 have hylen:=Pl.drawnB_len HD.out
 have hrg:=Pl.drawnB_ranged HD.out
 have h1:=ht.1
 have h2:=ht.2.1
 have ht3:=ht.2.2
 have hp1:=ptC_eq h1 h2
 have l1:=Pl.ptC_lt h1 h2
 rw[<-hylen]at l1
 have hcall:=fun W (hW:FldS W W.heap.size A1 A2 A3 A4 f)=>checkCallB_h A1 A2 A3 A4 c1 c2 c3 c4 f c 0 W HC hW hm hc
 rw[show(c.kind:Int)=(2:Int) by omega]at hcall
 have hFE:Hid (Pl.fieldE f=0):=Lib.hid (by have:=HC.out;unfold Pl.checkCallE at this;split at this;assumption;exact absurd this ‹_›)
 have hdr:=fun W (hW:FldS W W.heap.size A1 A2 A3 A4 f) (hyW:Ints W W.heap.size A y)=>drawn_b A1 A2 A3 A4 c1 c2 c3 c4 f A cy y true W hFE HD hW hm hc hyW hym
 have h3:Pl.inN c.oth f.li.length:=Pl.tabF_oth ht (.inl hk)
 have h4:Pl.inN c.fr f.st.length:=ht.2.1
 have hp2:=ptC_eq h3 h4
 have l2:=Pl.ptC_lt h3 h4
 rw[<-hylen]at l2
 have HK:=Lib.hid (Pl.kw2 (f:=f) (Pl.drawnB_zero HD.out) hk)
 obtain⟨by_,oy,hA,hbY,y1⟩:=Ints.at1 hy l1
 subst hA
 obtain⟨p1,hP1⟩: ∃p,Pl.ptC f c.lim c.fr=p:=⟨_,rfl⟩
 obtain⟨by2,oy2,hA2,_,y2⟩:=Ints.at1 hy l2
 obtain⟨rfl,rfl⟩:by_=by2∧oy=oy2:=by simpa using hA2
 clear hA2
 obtain⟨p2,hP2⟩: ∃p,Pl.ptC f c.oth c.fr=p:=⟨_,rfl⟩
 have v1:=hrg _ (List.getElem_mem l1)
 rw[Pl.at0_get l1]at HK
 have v2:=hrg _ (List.getElem_mem l2)
 rw[Pl.at0_get l2]at HK
 obtain⟨u,hu⟩: ∃u,y[Pl.ptC f c.lim c.fr]=u:=⟨_,rfl⟩
 rw[hu]at y1 v1 HK
 obtain⟨v,hv⟩: ∃v,y[Pl.ptC f c.oth c.fr]=v:=⟨_,rfl⟩
 rw[hv]at y2 v2 HK
 rw[hP1]at y1 l1 hp1
 rw[hP2]at y2 l2 hp2
 unfold Pl.inN at h1 h2 h3 h4
 have g0:(0:Int)<=(p1:Int):=by omega
 have g1:(p1:Int)<(y.length:Int):=by omega
 have n1:decide ((p1:Int)<0)=false:=by simp
 have n2:decide (y.length<=p1)=false:=by simp;omega
 have g2:(0:Int)<=(p2:Int):=by omega
 have g3:(p2:Int)<(y.length:Int):=by omega
 have n3:decide ((p2:Int)<0)=false:=by simp
 have n4:decide (y.length<=p2)=false:=by simp;omega
 have u5:IntKind.i64.wrap (v-u)=v-u:=IntWalk.i64_in _ (by omega)
 have hq1:=fun W=>point_b A1 A2 A3 A4 c1 c2 c3 c4 f c.lim c.fr W (by omega) (by omega) (by omega) (by omega) (by omega)
 rw[hp1]at hq1
 have hq2:=fun W=>point_b A1 A2 A3 A4 c1 c2 c3 c4 f c.oth c.fr W (by omega) (by omega) (by omega) (by omega) (by omega)
 rw[hp2]at hq2
 have hnr:=fun W=>near_b (v-u) c.size c.er W (by omega) (by omega) (by omega) (by omega)
 clear hu hrg hylen hP1 hp1 HD ht3 ht hok hv hP2 hp2
 have kf:=(heap_alloc_new w (.cells (fq A1 A2 A3 A4 c1 c2 c3 c4 f) 28))
 have kc:=(heap_alloc_new (w.alloc (.cells (fq A1 A2 A3 A4 c1 c2 c3 c4 f) 28)) (.cells (kkq 2 c) 48))
 rw[World.size_alloc]at kc
 have kf:=(Below.heap_alloc _ (.cells (kkq 2 c) 48) _ (lO kf)).trans kf
 have l01:=ld_row kf Tryz.underlying28 rfl info_fld
 have l02:=ld_row kc Tryz.underlying48 rfl info_cal
 have hall:Below w.heap.size w ((w.alloc (.cells (fq A1 A2 A3 A4 c1 c2 c3 c4 f) 28)).alloc (.cells (kkq 2 c) 48)):=((Below.refl _ w).alloc (Nat.le_refl _) _).alloc (by simp) _
 go_enter Tryz.func69,Tryz.ntmps69
 go_wp2_with fail
 refine(hcall _ (hf.up hall)).mono ?_
 rintro e w1 ⟨rfl,hx⟩
 replace kf:=kE hx kf;replace kc:=kE hx kc;replace hall:Below w.heap.size w _:=hall.trans (hx.mono hall.size);(try clear l01 l02);have l01:=ld_row kf Tryz.underlying28 rfl info_fld;have l02:=ld_row kc Tryz.underlying48 rfl info_cal;(try clear hcf hff hcc hfc);obtain⟨hcf,hff⟩:=blk_cells kf;obtain⟨hcc,hfc⟩:=blk_cells kc;clear hx
 go_wp2_with fail
 refine(hdr _ (hf.up hall) (hy.up hall)).mono ?_
 rintro e w2 ⟨rfl,hx⟩
 replace kf:=kE hx kf;replace kc:=kE hx kc;replace hall:Below w.heap.size w _:=hall.trans (hx.mono hall.size);(try clear l01 l02);have l01:=ld_row kf Tryz.underlying28 rfl info_fld;have l02:=ld_row kc Tryz.underlying48 rfl info_cal;(try clear hcf hff hcc hfc);obtain⟨hcf,hff⟩:=blk_cells kf;obtain⟨hcc,hfc⟩:=blk_cells kc;clear hx
 go_wp2_with fail
 refine(hq1 _).mono ?_
 rintro e w3 ⟨rfl,hx⟩
 replace kf:=kE hx kf;replace kc:=kE hx kc;replace hall:Below w.heap.size w _:=hall.trans (hx.mono hall.size);(try clear l01 l02);have l01:=ld_row kf Tryz.underlying28 rfl info_fld;have l02:=ld_row kc Tryz.underlying48 rfl info_cal;(try clear hcf hff hcc hfc);obtain⟨hcf,hff⟩:=blk_cells kf;obtain⟨hcc,hfc⟩:=blk_cells kc;clear hx
 have y1:=(hall.cell (p:=⟨by_,oy+p1,none⟩) hbY).trans y1
 have y2:=(hall.cell (p:=⟨by_,oy+p2,none⟩) hbY).trans y2
 go_wp2_with fail
 clear y1 hcf hff hcc hfc l01 l02
 replace kf:=(show w3.drew.heap[_]?=_ from kf)
 replace kc:=(show w3.drew.heap[_]?=_ from kc)
 replace y2:=(show w3.drew.cell? _=_ from y2)
 replace hall:=hall.drew
 go_region_held3 (fun W=>(loadVar 28 ⟨w.heap.size,0,none⟩).run Tryz.prog W=.ok (.agg (fq A1 A2 A3 A4 c1 c2 c3 c4 f)) W∧(loadVar 48 ⟨w.heap.size+1,0,none⟩).run Tryz.prog W=.ok (.agg (kkq 2 c)) W∧(loadVar 46 ⟨w.heap.size+1,7,none⟩).run Tryz.prog W=.ok (.agg (cq c.crs)) W∧(∀j,W.cell? ⟨w.heap.size+1,j,none⟩=((kkq 2 c):Array Value)[j]?)∧(∀j,W.cell? ⟨w.heap.size,j,none⟩=((fq A1 A2 A3 A4 c1 c2 c3 c4 f):Array Value)[j]?)∧W.cell? ⟨by_,oy+p2,none⟩=some (.int .i64 v)) (exact⟨(sf_of A1 A2 A3 A4 c1 c2 c3 c4 f kf kc).1,(sf_of A1 A2 A3 A4 c1 c2 c3 c4 f kf kc).2.1,(sf_of A1 A2 A3 A4 c1 c2 c3 c4 f kf kc).2.2.1,(sf_of A1 A2 A3 A4 c1 c2 c3 c4 f kf kc).2.2.2.1,(sf_of A1 A2 A3 A4 c1 c2 c3 c4 f kf kc).2.2.2.2,y2⟩) (first
  |(go_at_call 111;refine(hq2 _).mono ?_;rintro e w4 ⟨rfl,hx⟩;replace y2:=(hx.cell (p:=⟨by_,oy+p2,none⟩) (Nat.lt_of_lt_of_le hbY hall.size)).trans y2;replace kf:=kE hx kf;replace kc:=kE hx kc;replace hall:Below w.heap.size w w4:=hall.trans (hx.mono hall.size);clear hx)
  |(go_at_call 138;refine(hnr _).mono ?_;rintro e w5 ⟨rfl,rfl⟩))
 all_goals go_wp2_with fail
 all_goals go_ret2
 all_goals exact⟨by rw[HK.out];rfl,hall⟩
set_option maxHeartbeats 8000000 in
theorem allowsB_5 (c:Pl.Cal)(A:Option Addr)(cy:Nat)(y:List Int)(w:World)(hf:FldS w w.heap.size A1 A2 A3 A4 f)(hm:Small f)(hc:Caps c1 c2 c3 c4 f)(hk:c.kind=5)(HC:Hid (Pl.checkCallE f c=0))(HD:Hid (Pl.drawnB f.st.length f.li.length y=true))(hy:Ints w w.heap.size A y)(hym:y.length<=100000):
  Calls Tryz.prog 69 #[.agg (fq A1 A2 A3 A4 c1 c2 c3 c4 f),.agg (kkq 5 c),.slice A y.length cy] w fun e w'=>e=.returned (.tuple #[.bool (Pl.keepsB (Pl.boundsC f c 0) y),.int .i64 0])∧Below w.heap.size w w':=by
 obtain⟨hok,ht⟩:=tab_of HC.out
 have hS:=hok.st12
 have hL:=hok.li10
 have hylen:=Pl.drawnB_len HD.out
 have hrg:=Pl.drawnB_ranged HD.out
 have h1:=ht.1
 have h2:=ht.2.1
 have ht3:=ht.2.2
 have hp1:=ptC_eq h1 h2
 have l1:=Pl.ptC_lt h1 h2
 rw[<-hylen]at l1
 have hcall:=fun W (hW:FldS W W.heap.size A1 A2 A3 A4 f)=>checkCallB_h A1 A2 A3 A4 c1 c2 c3 c4 f c 0 W HC hW hm hc
 rw[show(c.kind:Int)=(5:Int) by omega]at hcall
 have hFE:Hid (Pl.fieldE f=0):=Lib.hid (by have:=HC.out;unfold Pl.checkCallE at this;split at this;assumption;exact absurd this ‹_›)
 have hdr:=fun W (hW:FldS W W.heap.size A1 A2 A3 A4 f) (hyW:Ints W W.heap.size A y)=>drawn_b A1 A2 A3 A4 c1 c2 c3 c4 f A cy y true W hFE HD hW hm hc hyW hym
 have h3:Pl.inN c.lim f.li.length:=ht.1
 have h4:Pl.inN c.till f.st.length:=Pl.tabF_far ht (.inr (.inr hk))
 have hp2:=ptC_eq h3 h4
 have l2:=Pl.ptC_lt h3 h4
 rw[<-hylen]at l2
 have HK:=Lib.hid (Pl.kw5 (f:=f) (Pl.drawnB_zero HD.out) hk)
 obtain⟨by_,oy,hA,hbY,y1⟩:=Ints.at1 hy l1
 subst hA
 obtain⟨p1,hP1⟩: ∃p,Pl.ptC f c.lim c.fr=p:=⟨_,rfl⟩
 obtain⟨by2,oy2,hA2,_,y2⟩:=Ints.at1 hy l2
 obtain⟨rfl,rfl⟩:by_=by2∧oy=oy2:=by simpa using hA2
 clear hA2
 obtain⟨p2,hP2⟩: ∃p,Pl.ptC f c.lim c.till=p:=⟨_,rfl⟩
 have v1:=hrg _ (List.getElem_mem l1)
 rw[Pl.at0_get l1]at HK
 have v2:=hrg _ (List.getElem_mem l2)
 rw[Pl.at0_get l2]at HK
 obtain⟨u,hu⟩: ∃u,y[Pl.ptC f c.lim c.fr]=u:=⟨_,rfl⟩
 rw[hu]at y1 v1 HK
 obtain⟨v,hv⟩: ∃v,y[Pl.ptC f c.lim c.till]=v:=⟨_,rfl⟩
 rw[hv]at y2 v2 HK
 rw[hP1]at y1 l1 hp1
 rw[hP2]at y2 l2 hp2
 unfold Pl.inN at h1 h2 h3 h4
 have g0:(0:Int)<=(p1:Int):=by omega
 have g1:(p1:Int)<(y.length:Int):=by omega
 have n1:decide ((p1:Int)<0)=false:=by simp
 have n2:decide (y.length<=p1)=false:=by simp;omega
 have g2:(0:Int)<=(p2:Int):=by omega
 have g3:(p2:Int)<(y.length:Int):=by omega
 have n3:decide ((p2:Int)<0)=false:=by simp
 have n4:decide (y.length<=p2)=false:=by simp;omega
 have u5:IntKind.i64.wrap (v-u)=v-u:=IntWalk.i64_in _ (by omega)
 have hq1:=fun W=>point_b A1 A2 A3 A4 c1 c2 c3 c4 f c.lim c.fr W (by omega) (by omega) (by omega) (by omega) (by omega)
 rw[hp1]at hq1
 have hq2:=fun W=>point_b A1 A2 A3 A4 c1 c2 c3 c4 f c.lim c.till W (by omega) (by omega) (by omega) (by omega) (by omega)
 rw[hp2]at hq2
 have hnr:=fun W=>near_b (v-u) c.size c.er W (by omega) (by omega) (by omega) (by omega)
 clear hu hrg hylen hP1 hp1 HD ht3 ht hok hv hP2 hp2
 have kf:=(heap_alloc_new w (.cells (fq A1 A2 A3 A4 c1 c2 c3 c4 f) 28))
 have kc:=(heap_alloc_new (w.alloc (.cells (fq A1 A2 A3 A4 c1 c2 c3 c4 f) 28)) (.cells (kkq 5 c) 48))
 rw[World.size_alloc]at kc
 have kf:=(Below.heap_alloc _ (.cells (kkq 5 c) 48) _ (lO kf)).trans kf
 have l01:=ld_row kf Tryz.underlying28 rfl info_fld
 have l02:=ld_row kc Tryz.underlying48 rfl info_cal
 have hall:Below w.heap.size w ((w.alloc (.cells (fq A1 A2 A3 A4 c1 c2 c3 c4 f) 28)).alloc (.cells (kkq 5 c) 48)):=((Below.refl _ w).alloc (Nat.le_refl _) _).alloc (by simp) _
 go_enter Tryz.func69,Tryz.ntmps69
 go_wp2_with fail
 refine(hcall _ (hf.up hall)).mono ?_
 rintro e w1 ⟨rfl,hx⟩
 replace kf:=kE hx kf;replace kc:=kE hx kc;replace hall:Below w.heap.size w _:=hall.trans (hx.mono hall.size);(try clear l01 l02);have l01:=ld_row kf Tryz.underlying28 rfl info_fld;have l02:=ld_row kc Tryz.underlying48 rfl info_cal;(try clear hcf hff hcc hfc);obtain⟨hcf,hff⟩:=blk_cells kf;obtain⟨hcc,hfc⟩:=blk_cells kc;clear hx
 go_wp2_with fail
 refine(hdr _ (hf.up hall) (hy.up hall)).mono ?_
 rintro e w2 ⟨rfl,hx⟩
 replace kf:=kE hx kf;replace kc:=kE hx kc;replace hall:Below w.heap.size w _:=hall.trans (hx.mono hall.size);(try clear l01 l02);have l01:=ld_row kf Tryz.underlying28 rfl info_fld;have l02:=ld_row kc Tryz.underlying48 rfl info_cal;(try clear hcf hff hcc hfc);obtain⟨hcf,hff⟩:=blk_cells kf;obtain⟨hcc,hfc⟩:=blk_cells kc;clear hx
 go_wp2_with fail
 refine(hq1 _).mono ?_
 rintro e w3 ⟨rfl,hx⟩
 replace kf:=kE hx kf;replace kc:=kE hx kc;replace hall:Below w.heap.size w _:=hall.trans (hx.mono hall.size);(try clear l01 l02);have l01:=ld_row kf Tryz.underlying28 rfl info_fld;have l02:=ld_row kc Tryz.underlying48 rfl info_cal;(try clear hcf hff hcc hfc);obtain⟨hcf,hff⟩:=blk_cells kf;obtain⟨hcc,hfc⟩:=blk_cells kc;clear hx
 have y1:=(hall.cell (p:=⟨by_,oy+p1,none⟩) hbY).trans y1
 have y2:=(hall.cell (p:=⟨by_,oy+p2,none⟩) hbY).trans y2
 go_wp2_with fail
 clear y1 hcf hff hcc hfc l01 l02
 replace kf:=(show w3.drew.heap[_]?=_ from kf)
 replace kc:=(show w3.drew.heap[_]?=_ from kc)
 replace y2:=(show w3.drew.cell? _=_ from y2)
 replace hall:=hall.drew
 go_region_held3 (fun W=>(loadVar 28 ⟨w.heap.size,0,none⟩).run Tryz.prog W=.ok (.agg (fq A1 A2 A3 A4 c1 c2 c3 c4 f)) W∧(loadVar 48 ⟨w.heap.size+1,0,none⟩).run Tryz.prog W=.ok (.agg (kkq 5 c)) W∧(loadVar 46 ⟨w.heap.size+1,7,none⟩).run Tryz.prog W=.ok (.agg (cq c.crs)) W∧(∀j,W.cell? ⟨w.heap.size+1,j,none⟩=((kkq 5 c):Array Value)[j]?)∧(∀j,W.cell? ⟨w.heap.size,j,none⟩=((fq A1 A2 A3 A4 c1 c2 c3 c4 f):Array Value)[j]?)∧W.cell? ⟨by_,oy+p2,none⟩=some (.int .i64 v)) (exact⟨(sf_of A1 A2 A3 A4 c1 c2 c3 c4 f kf kc).1,(sf_of A1 A2 A3 A4 c1 c2 c3 c4 f kf kc).2.1,(sf_of A1 A2 A3 A4 c1 c2 c3 c4 f kf kc).2.2.1,(sf_of A1 A2 A3 A4 c1 c2 c3 c4 f kf kc).2.2.2.1,(sf_of A1 A2 A3 A4 c1 c2 c3 c4 f kf kc).2.2.2.2,y2⟩) (first
  |(go_at_call 111;refine(hq2 _).mono ?_;rintro e w4 ⟨rfl,hx⟩;replace y2:=(hx.cell (p:=⟨by_,oy+p2,none⟩) (Nat.lt_of_lt_of_le hbY hall.size)).trans y2;replace kf:=kE hx kf;replace kc:=kE hx kc;replace hall:Below w.heap.size w w4:=hall.trans (hx.mono hall.size);clear hx)
  |(go_at_call 138;refine(hnr _).mono ?_;rintro e w5 ⟨rfl,rfl⟩))
 all_goals go_wp2_with fail
 all_goals go_ret2
 all_goals exact⟨by rw[HK.out];rfl,hall⟩
set_option maxHeartbeats 8000000 in
theorem allowsB_3 (c:Pl.Cal)(A:Option Addr)(cy:Nat)(y:List Int)(w:World)(hf:FldS w w.heap.size A1 A2 A3 A4 f)(hm:Small f)(hc:Caps c1 c2 c3 c4 f)(hk:c.kind=3)(HC:Hid (Pl.checkCallE f c=0))(HD:Hid (Pl.drawnB f.st.length f.li.length y=true))(hy:Ints w w.heap.size A y)(hym:y.length<=100000):
  Calls Tryz.prog 69 #[.agg (fq A1 A2 A3 A4 c1 c2 c3 c4 f),.agg (kkq 3 c),.slice A y.length cy] w fun e w'=>e=.returned (.tuple #[.bool (Pl.keepsB (Pl.boundsC f c 0) y),.int .i64 0])∧Below w.heap.size w w':=by
 obtain⟨hok,ht⟩:=tab_of HC.out
 have hS:=hok.st12
 have hL:=hok.li10
 have hylen:=Pl.drawnB_len HD.out
 have hrg:=Pl.drawnB_ranged HD.out
 have h1:=ht.1
 have h2:=ht.2.1
 have ht3:=ht.2.2
 have hp1:=ptC_eq h1 h2
 have l1:=Pl.ptC_lt h1 h2
 rw[<-hylen]at l1
 have hcall:=fun W (hW:FldS W W.heap.size A1 A2 A3 A4 f)=>checkCallB_h A1 A2 A3 A4 c1 c2 c3 c4 f c 0 W HC hW hm hc
 rw[show(c.kind:Int)=(3:Int) by omega]at hcall
 have hFE:Hid (Pl.fieldE f=0):=Lib.hid (by have:=HC.out;unfold Pl.checkCallE at this;split at this;assumption;exact absurd this ‹_›)
 have hdr:=fun W (hW:FldS W W.heap.size A1 A2 A3 A4 f) (hyW:Ints W W.heap.size A y)=>drawn_b A1 A2 A3 A4 c1 c2 c3 c4 f A cy y true W hFE HD hW hm hc hyW hym
 have h3:Pl.inN c.lim f.li.length:=ht.1
 have h4:Pl.inN c.till f.st.length:=Pl.tabF_far ht (.inl hk)
 have hp2:=ptC_eq h3 h4
 have l2:=Pl.ptC_lt h3 h4
 rw[<-hylen]at l2
 have hxc:Pl.callE f c=0:=by have:=HC.out;unfold Pl.checkCallE at this;rwa[if_pos hFE.out]at this
 have b1:=Pl.at0_bd (n:=Pl.ptC f c.lim c.till) hrg
 have b2:=Pl.at0_bd (n:=Pl.ptC f c.lim c.fr) hrg
 have HK:=Lib.hid (Pl.kw3 (y:=y) hxc hk (by omega) (by omega))
 have hX:=fun W (hW:Below w.heap.size w W)=>run_b A1 A2 A3 A4 c1 c2 c3 c4 f 3 c W (hf.up hW).st (by omega) h2 (Pl.tab_till ht hk) hok.x
 have hI:=fun(d:Int) W (hW:Below w.heap.size w W)=>Fits_b A4 c4 f.va c.crs (Pl.runC f.st c) d W (hf.up hW).va (by have:=hm.va;unfold maxLen;omega)
 obtain⟨by_,oy,hA,hbY,y1⟩:=Ints.at1 hy l1
 subst hA
 obtain⟨p1,hP1⟩: ∃p,Pl.ptC f c.lim c.fr=p:=⟨_,rfl⟩
 obtain⟨by2,oy2,hA2,_,y2⟩:=Ints.at1 hy l2
 obtain⟨rfl,rfl⟩:by_=by2∧oy=oy2:=by simpa using hA2
 clear hA2
 obtain⟨p2,hP2⟩: ∃p,Pl.ptC f c.lim c.till=p:=⟨_,rfl⟩
 have v1:=hrg _ (List.getElem_mem l1)
 rw[Pl.at0_get l1,Pl.at0_get l2]at HK
 have v2:=hrg _ (List.getElem_mem l2)
 obtain⟨u,hu⟩: ∃u,y[Pl.ptC f c.lim c.fr]=u:=⟨_,rfl⟩
 rw[hu]at y1 v1 HK
 obtain⟨v,hv⟩: ∃v,y[Pl.ptC f c.lim c.till]=v:=⟨_,rfl⟩
 rw[hv]at y2 v2 HK
 rw[hP1]at y1 l1 hp1
 rw[hP2]at y2 l2 hp2
 unfold Pl.inN at h1 h2 h3 h4
 have g0:(0:Int)<=(p1:Int):=by omega
 have g1:(p1:Int)<(y.length:Int):=by omega
 have n1:decide ((p1:Int)<0)=false:=by simp
 have n2:decide (y.length<=p1)=false:=by simp;omega
 have g2:(0:Int)<=(p2:Int):=by omega
 have g3:(p2:Int)<(y.length:Int):=by omega
 have n3:decide ((p2:Int)<0)=false:=by simp
 have n4:decide (y.length<=p2)=false:=by simp;omega
 have u5:IntKind.i64.wrap (v-u)=v-u:=IntWalk.i64_in _ (by omega)
 have hq1:=fun W=>point_b A1 A2 A3 A4 c1 c2 c3 c4 f c.lim c.fr W (by omega) (by omega) (by omega) (by omega) (by omega)
 rw[hp1]at hq1
 have hq2:=fun W=>point_b A1 A2 A3 A4 c1 c2 c3 c4 f c.lim c.till W (by omega) (by omega) (by omega) (by omega) (by omega)
 rw[hp2]at hq2
 clear hu hrg hylen hP1 hp1 HD ht3 ht hok hv hP2 hp2 b1 b2
 have kf:=(heap_alloc_new w (.cells (fq A1 A2 A3 A4 c1 c2 c3 c4 f) 28))
 have kc:=(heap_alloc_new (w.alloc (.cells (fq A1 A2 A3 A4 c1 c2 c3 c4 f) 28)) (.cells (kkq 3 c) 48))
 rw[World.size_alloc]at kc
 have kf:=(Below.heap_alloc _ (.cells (kkq 3 c) 48) _ (lO kf)).trans kf
 have l01:=ld_row kf Tryz.underlying28 rfl info_fld
 have l02:=ld_row kc Tryz.underlying48 rfl info_cal
 have hall:Below w.heap.size w ((w.alloc (.cells (fq A1 A2 A3 A4 c1 c2 c3 c4 f) 28)).alloc (.cells (kkq 3 c) 48)):=((Below.refl _ w).alloc (Nat.le_refl _) _).alloc (by simp) _
 go_enter Tryz.func69,Tryz.ntmps69
 go_wp2_with fail
 refine(hcall _ (hf.up hall)).mono ?_
 rintro e w1 ⟨rfl,hx⟩
 replace kf:=kE hx kf;replace kc:=kE hx kc;replace hall:Below w.heap.size w _:=hall.trans (hx.mono hall.size);(try clear l01 l02);have l01:=ld_row kf Tryz.underlying28 rfl info_fld;have l02:=ld_row kc Tryz.underlying48 rfl info_cal;(try clear hcf hff hcc hfc);obtain⟨hcf,hff⟩:=blk_cells kf;obtain⟨hcc,hfc⟩:=blk_cells kc;clear hx
 go_wp2_with fail
 refine(hdr _ (hf.up hall) (hy.up hall)).mono ?_
 rintro e w2 ⟨rfl,hx⟩
 replace kf:=kE hx kf;replace kc:=kE hx kc;replace hall:Below w.heap.size w _:=hall.trans (hx.mono hall.size);(try clear l01 l02);have l01:=ld_row kf Tryz.underlying28 rfl info_fld;have l02:=ld_row kc Tryz.underlying48 rfl info_cal;(try clear hcf hff hcc hfc);obtain⟨hcf,hff⟩:=blk_cells kf;obtain⟨hcc,hfc⟩:=blk_cells kc;clear hx
 go_wp2_with fail
 refine(hq1 _).mono ?_
 rintro e w3 ⟨rfl,hx⟩
 replace kf:=kE hx kf;replace kc:=kE hx kc;replace hall:Below w.heap.size w _:=hall.trans (hx.mono hall.size);(try clear l01 l02);have l01:=ld_row kf Tryz.underlying28 rfl info_fld;have l02:=ld_row kc Tryz.underlying48 rfl info_cal;(try clear hcf hff hcc hfc);obtain⟨hcf,hff⟩:=blk_cells kf;obtain⟨hcc,hfc⟩:=blk_cells kc;clear hx
 have y1:=(hall.cell (p:=⟨by_,oy+p1,none⟩) hbY).trans y1
 have y2:=(hall.cell (p:=⟨by_,oy+p2,none⟩) hbY).trans y2
 go_wp2_with fail
 clear y1 hcf hff hcc hfc l01 l02
 have hI:=hI (v-u)
 obtain⟨F,hF⟩: ∃F,Pl.fits f.va c.crs (Pl.runC f.st c) (v-u)=F:=⟨_,rfl⟩
 obtain⟨E,hE⟩: ∃F,Pl.stepE f.va c.crs (Pl.runC f.st c) (v-u)=F:=⟨_,rfl⟩
 obtain⟨X,hXx⟩: ∃F,Pl.runC f.st c=F:=⟨_,rfl⟩
 have HZ:Hid (F=true->E=0):=Lib.hid (fun h=>by rw[<-hF]at h;unfold Pl.fits at h;rw[decide_eq_true_eq]at h;rw[<-hE];exact h.1)
 simp only[hF,hE]at hI
 rw[hF]at HK
 rw[hXx]at hX
 simp only[hXx]at hI
 clear hF hE hXx
 replace kf:=(show w3.drew.heap[_]?=_ from kf)
 replace kc:=(show w3.drew.heap[_]?=_ from kc)
 replace y2:=(show w3.drew.cell? _=_ from y2)
 replace hall:=hall.drew
 go_region_held3 (fun W=>(loadVar 28 ⟨w.heap.size,0,none⟩).run Tryz.prog W=.ok (.agg (fq A1 A2 A3 A4 c1 c2 c3 c4 f)) W∧(loadVar 48 ⟨w.heap.size+1,0,none⟩).run Tryz.prog W=.ok (.agg (kkq 3 c)) W∧(loadVar 46 ⟨w.heap.size+1,7,none⟩).run Tryz.prog W=.ok (.agg (cq c.crs)) W∧(∀j,W.cell? ⟨w.heap.size+1,j,none⟩=((kkq 3 c):Array Value)[j]?)∧(∀j,W.cell? ⟨w.heap.size,j,none⟩=((fq A1 A2 A3 A4 c1 c2 c3 c4 f):Array Value)[j]?)∧W.cell? ⟨by_,oy+p2,none⟩=some (.int .i64 v)) (exact⟨(sf_of A1 A2 A3 A4 c1 c2 c3 c4 f kf kc).1,(sf_of A1 A2 A3 A4 c1 c2 c3 c4 f kf kc).2.1,(sf_of A1 A2 A3 A4 c1 c2 c3 c4 f kf kc).2.2.1,(sf_of A1 A2 A3 A4 c1 c2 c3 c4 f kf kc).2.2.2.1,(sf_of A1 A2 A3 A4 c1 c2 c3 c4 f kf kc).2.2.2.2,y2⟩) (first
  |(go_at_call 140;refine(hX _ hall).mono ?_;rintro e w4 ⟨rfl,hx⟩;replace y2:=(hx.cell (p:=⟨by_,oy+p2,none⟩) (Nat.lt_of_lt_of_le hbY hall.size)).trans y2;replace kf:=kE hx kf;replace kc:=kE hx kc;replace hall:Below w.heap.size w w4:=hall.trans (hx.mono hall.size);clear hx)
  |(go_at_call 111;refine(hq2 _).mono ?_;rintro e w5 ⟨rfl,hx⟩;replace y2:=(hx.cell (p:=⟨by_,oy+p2,none⟩) (Nat.lt_of_lt_of_le hbY hall.size)).trans y2;replace kf:=kE hx kf;replace kc:=kE hx kc;replace hall:Below w.heap.size w w5:=hall.trans (hx.mono hall.size);clear hx)
  |(go_at_call 139;refine(hI _ hall).mono ?_;rintro e w6 ⟨rfl,hx⟩;replace kf:=kE hx kf;replace kc:=kE hx kc;replace y2:=(hx.cell (p:=⟨by_,oy+p2,none⟩) (Nat.lt_of_lt_of_le hbY hall.size)).trans y2;replace hall:Below w.heap.size w w6:=hall.trans (hx.mono hall.size);clear hx))
 all_goals clear hX hI
 all_goals cases F
 all_goals (try obtain rfl:=HZ.out rfl)
 all_goals go_wp2_with fail
 all_goals go_ret2
 all_goals exact⟨by rw[HK.out];first|rfl|simp,hall⟩
end Go.Proofs.YtgbpekeoegfjpaaGreatDoor
set_option maxRecDepth 100000
namespace Go.Proofs.YtgbpekeoegfjpaaGreatDoor
open Go.RowKit
attribute [-go_sem] run_equalIn_agg storeVar loadVar
attribute [local go_sem] lv_int lv_bool lv_u8 lv_string lv_strings lv_stas lv_pars lv_vars
set_option maxHeartbeats 8000000 in
theorem allowsB_4 (A1 A2 A3 A4:Option Addr)(c1 c2 c3 c4:Nat)(f:Pl.Fld)(c:Pl.Cal)(A:Option Addr)(cy:Nat)(y:List Int)(w:World)(hf:FldS w w.heap.size A1 A2 A3 A4 f)(hm:Small f)(hc:Caps c1 c2 c3 c4 f)(hk:c.kind=4)(HC:Hid (Pl.checkCallE f c=0))(HD:Hid (Pl.drawnB f.st.length f.li.length y=true))(hy:Ints w w.heap.size A y)(hym:y.length<=100000):
  Calls Tryz.prog 69 #[.agg (fq A1 A2 A3 A4 c1 c2 c3 c4 f),.agg (kkq 4 c),.slice A y.length cy] w fun e w'=>e=.returned (.tuple #[.bool (Pl.keepsB (Pl.boundsC f c 0) y),.int .i64 0])∧Below w.heap.size w w':=by
 obtain⟨hok,ht⟩:=tab_of HC.out
 have hS:=hok.st12
 have hL:=hok.li10
 have hylen:=Lib.hid (Pl.drawnB_len HD.out)
 have h1:=ht.1
 have h2:=ht.2.1
 have hcall:=fun W (hW:FldS W W.heap.size A1 A2 A3 A4 f)=>checkCallB_h A1 A2 A3 A4 c1 c2 c3 c4 f c 0 W HC hW hm hc
 rw[show(c.kind:Int)=(4:Int) by omega]at hcall
 have hFE:Hid (Pl.fieldE f=0):=Lib.hid (by have:=HC.out;unfold Pl.checkCallE at this;split at this;assumption;exact absurd this ‹_›)
 have hdr:=fun W (hW:FldS W W.heap.size A1 A2 A3 A4 f) (hyW:Ints W W.heap.size A y)=>drawn_b A1 A2 A3 A4 c1 c2 c3 c4 f A cy y true W hFE HD hW hm hc hyW hym
 have h3:Pl.inN c.oth f.li.length:=Pl.tabF_oth ht (.inr hk)
 have h4:Pl.inN c.till f.st.length:=Pl.tabF_far ht (.inr (.inl hk))
 have hlt:c.fr<c.till:=by have:=ht.2.2;omega
 have HP:=Lib.hid (fun(s:Int) (hs:Pl.inN s f.st.length)=>(⟨ptC_eq h1 hs,ptC_eq h3 hs,Pl.ptC_lt h1 hs,Pl.ptC_lt h3 hs⟩:_∧_∧_∧_))
 have HY:=Lib.hid (fun h=>Pl.kw4_yes (f:=f) (y:=y) hk h)
 have HN:=Lib.hid (fun(k:Nat) hle hne=>Pl.kw4_no (f:=f) (y:=y) hk (k:=k) hle hne)
 obtain⟨n,hn⟩:=Int.eq_ofNat_of_zero_le (show 0<=c.till-c.fr+1 by omega)
 obtain⟨ha1,_,la,_⟩:=HP.out c.fr h2
 rw[<-hylen.out]at la
 obtain⟨bz,oz,hAz,hbZ,y0⟩:=Ints.at1 hy la
 obtain⟨p0,hP0⟩: ∃p,Pl.ptC f c.lim c.fr=p:=⟨_,rfl⟩
 obtain⟨u0,hu0⟩: ∃u,y[Pl.ptC f c.lim c.fr]=u:=⟨_,rfl⟩
 rw[hu0]at y0
 clear hu0
 rw[hP0]at y0 la ha1
 clear hP0
 subst hAz
 clear HD ht hok
 unfold Pl.inN at h1 h2 h3 h4
 have m0:(0:Int)<=(p0:Int):=by omega
 have m1:(p0:Int)<(y.length:Int):=by omega
 have m2:decide ((p0:Int)<0)=false:=by simp
 have m3:decide (y.length<=p0)=false:=by simp;omega
 have hq0:=fun W=>point_b A1 A2 A3 A4 c1 c2 c3 c4 f c.lim c.fr W (by omega) (by omega) (by omega) (by omega) (by omega)
 rw[ha1]at hq0
 have kf:=(heap_alloc_new w (.cells (fq A1 A2 A3 A4 c1 c2 c3 c4 f) 28))
 have kc:=(heap_alloc_new (w.alloc (.cells (fq A1 A2 A3 A4 c1 c2 c3 c4 f) 28)) (.cells (kkq 4 c) 48))
 rw[World.size_alloc]at kc
 have kf:=(Below.heap_alloc _ (.cells (kkq 4 c) 48) _ (lO kf)).trans kf
 have l01:=ld_row kf Tryz.underlying28 rfl info_fld
 have l02:=ld_row kc Tryz.underlying48 rfl info_cal
 have hall:Below w.heap.size w ((w.alloc (.cells (fq A1 A2 A3 A4 c1 c2 c3 c4 f) 28)).alloc (.cells (kkq 4 c) 48)):=((Below.refl _ w).alloc (Nat.le_refl _) _).alloc (by simp) _
 go_enter Tryz.func69,Tryz.ntmps69
 go_wp2_with fail
 refine(hcall _ (hf.up hall)).mono ?_
 rintro e w1 ⟨rfl,hx⟩
 replace kf:=kE hx kf;replace kc:=kE hx kc;replace hall:Below w.heap.size w _:=hall.trans (hx.mono hall.size);(try clear l01 l02);have l01:=ld_row kf Tryz.underlying28 rfl info_fld;have l02:=ld_row kc Tryz.underlying48 rfl info_cal;(try clear hcf hff hcc hfc);obtain⟨hcf,hff⟩:=blk_cells kf;obtain⟨hcc,hfc⟩:=blk_cells kc;clear hx
 go_wp2_with fail
 refine(hdr _ (hf.up hall) (hy.up hall)).mono ?_
 rintro e w2 ⟨rfl,hx⟩
 replace kf:=kE hx kf;replace kc:=kE hx kc;replace hall:Below w.heap.size w _:=hall.trans (hx.mono hall.size);(try clear l01 l02);have l01:=ld_row kf Tryz.underlying28 rfl info_fld;have l02:=ld_row kc Tryz.underlying48 rfl info_cal;(try clear hcf hff hcc hfc);obtain⟨hcf,hff⟩:=blk_cells kf;obtain⟨hcc,hfc⟩:=blk_cells kc;clear hx
 go_wp2_with fail
 refine(hq0 _).mono ?_
 rintro e w3 ⟨rfl,hx⟩
 replace kf:=kE hx kf;replace kc:=kE hx kc;replace hall:Below w.heap.size w _:=hall.trans (hx.mono hall.size);(try clear l01 l02);have l01:=ld_row kf Tryz.underlying28 rfl info_fld;have l02:=ld_row kc Tryz.underlying48 rfl info_cal;(try clear hcf hff hcc hfc);obtain⟨hcf,hff⟩:=blk_cells kf;obtain⟨hcc,hfc⟩:=blk_cells kc;clear hx
 have y0:=(hall.cell (p:=⟨bz,oz+p0,none⟩) hbZ).trans y0
 go_wp2_with fail
 clear y0 m0 m1 m2 m3 hq0 la ha1 hbZ
 go_loopw [12] (fun i wr=> ∃(k:Nat),k<=n∧i=.int .i64 (c.fr+(k:Int))∧Hid (∀j:Nat,j<k->Pl.at0 y (Pl.ptC f c.lim (c.fr+j))=Pl.at0 y (Pl.ptC f c.oth (c.fr+j)))∧wr.heap[w.heap.size]?=some (.cells (fq A1 A2 A3 A4 c1 c2 c3 c4 f) 28 (0,0))∧wr.heap[w.heap.size+1]?=some (.cells (kkq 4 c) 48 (0,0))∧Below w.heap.size w wr) (fun i _=>(c.till+1-intOf i).toNat)
 case atStart=>exact⟨0,by omega,by simp,Lib.hid (fun j h=>by omega),kf,kc,hall⟩
 case round=>
  clear kf kc hall l01 l02 hcf hff hcc hfc
  obtain⟨k,hkn,rfl,HJ,kf,kc,hall⟩:=hrel
  obtain⟨hcf,hff⟩:=blk_cells kf
  obtain⟨hcc,hfc⟩:=blk_cells kc
  by_cases hlt2:k<n
  ·have e1:c.fr+(k:Int)<=c.till:=by omega
   obtain⟨hp1,hp2,l1,l2⟩:=HP.out (c.fr+(k:Int)) ⟨by omega,by omega⟩
   rw[<-hylen.out]at l1 l2
   obtain⟨by_,oy,hA,hbY,y1⟩:=Ints.at1 hy l1
   obtain⟨by2,oy2,hA2,_,y2⟩:=Ints.at1 hy l2
   obtain⟨rfl,rfl⟩:bz=by_∧oz=oy:=by simpa using hA
   obtain⟨rfl,rfl⟩:bz=by2∧oz=oy2:=by simpa using hA2
   have a1:=Pl.at0_get l1
   have a2:=Pl.at0_get l2
   have HN1:=Lib.hid (HN.out k (by omega))
   have HJ1:=Lib.hid (fun(h:Pl.at0 y (Pl.ptC f c.lim (c.fr+k))=Pl.at0 y (Pl.ptC f c.oth (c.fr+k)))=>(fun(j:Nat) (hj:j<k+1)=>(by
    rcases Nat.lt_succ_iff_lt_or_eq.1 hj with h'|rfl
    ·exact HJ.out j h'
    ·exact h): ∀j:Nat,j<k+1->Pl.at0 y (Pl.ptC f c.lim (c.fr+j))=Pl.at0 y (Pl.ptC f c.oth (c.fr+j))))
   rw[a1,a2]at HN1 HJ1
   obtain⟨p1,hP1⟩: ∃p,Pl.ptC f c.lim (c.fr+k)=p:=⟨_,rfl⟩
   obtain⟨p2,hP2⟩: ∃p,Pl.ptC f c.oth (c.fr+k)=p:=⟨_,rfl⟩
   obtain⟨u,hu⟩: ∃u,y[Pl.ptC f c.lim (c.fr+k)]=u:=⟨_,rfl⟩
   obtain⟨v,hv⟩: ∃v,y[Pl.ptC f c.oth (c.fr+k)]=v:=⟨_,rfl⟩
   rw[hu]at y1 HN1 HJ1
   rw[hv]at y2 HN1 HJ1
   clear a1 a2 hu hv
   rw[hP1]at y1 l1 hp1
   rw[hP2]at y2 l2 hp2
   clear hP1 hP2 hA hA2
   have g0:(0:Int)<=(p1:Int):=by omega
   have g1:(p1:Int)<(y.length:Int):=by omega
   have n1:decide ((p1:Int)<0)=false:=by simp
   have n2:decide (y.length<=p1)=false:=by simp;omega
   have g2:(0:Int)<=(p2:Int):=by omega
   have g3:(p2:Int)<(y.length:Int):=by omega
   have n3:decide ((p2:Int)<0)=false:=by simp
   have n4:decide (y.length<=p2)=false:=by simp;omega
   have hq1:=fun W=>point_b A1 A2 A3 A4 c1 c2 c3 c4 f c.lim (c.fr+(k:Int)) W (by omega) (by omega) (by omega) (by omega) (by omega)
   rw[hp1]at hq1
   have hq2:=fun W=>point_b A1 A2 A3 A4 c1 c2 c3 c4 f c.oth (c.fr+(k:Int)) W (by omega) (by omega) (by omega) (by omega) (by omega)
   rw[hp2]at hq2
   have y1:=(hall.cell (p:=⟨bz,oz+p1,none⟩) hbY).trans y1
   have y2:=(hall.cell (p:=⟨bz,oz+p2,none⟩) hbY).trans y2
   clear hp1 hp2 HN HJ HP
   have hwr:wr.heap.size=wr.heap.size:=rfl
   by_cases huv:u=v
   all_goals (
    go_wp2_with fail
    replace kf:=(show wr.drew.heap[_]?=_ from kf)
    replace kc:=(show wr.drew.heap[_]?=_ from kc)
    replace y1:=(show wr.drew.cell? _=_ from y1)
    replace y2:=(show wr.drew.cell? _=_ from y2)
    replace hall:=hall.drew
    clear hcf hff hcc hfc
    go_region_held3 (fun W=>(loadVar 28 ⟨w.heap.size,0,none⟩).run Tryz.prog W=.ok (.agg (fq A1 A2 A3 A4 c1 c2 c3 c4 f)) W∧W.cell? ⟨w.heap.size+1,1,none⟩=some (.int .i64 c.lim)∧W.cell? ⟨w.heap.size+1,2,none⟩=some (.int .i64 c.oth)∧W.cell? ⟨bz,oz+p1,none⟩=some (.int .i64 u)∧W.cell? ⟨bz,oz+p2,none⟩=some (.int .i64 v)) (exact⟨ld_row kf Tryz.underlying28 rfl info_fld,(blk_cells kc).1 1,(blk_cells kc).1 2,y1,y2⟩) (first
     |(go_at_call 111;refine(hq1 _).mono ?_;rintro e w4 ⟨rfl,hx⟩;replace y1:=(hx.cell (p:=⟨bz,oz+p1,none⟩) (Nat.lt_of_lt_of_le hbY hall.size)).trans y1;replace y2:=(hx.cell (p:=⟨bz,oz+p2,none⟩) (Nat.lt_of_lt_of_le hbY hall.size)).trans y2;replace kf:=kE hx kf;replace kc:=kE hx kc;replace hall:Below w.heap.size w w4:=hall.trans (hx.mono hall.size);clear hx hq1)
     |(go_at_call 111;refine(hq2 _).mono ?_;rintro e w5 ⟨rfl,hx⟩;replace y1:=(hx.cell (p:=⟨bz,oz+p1,none⟩) (Nat.lt_of_lt_of_le hbY hall.size)).trans y1;replace y2:=(hx.cell (p:=⟨bz,oz+p2,none⟩) (Nat.lt_of_lt_of_le hbY hall.size)).trans y2;replace kf:=kE hx kf;replace kc:=kE hx kc;replace hall:Below w.heap.size w w5:=hall.trans (hx.mono hall.size);clear hx)))
   ·have HT:=Lib.hid (HJ1.out huv)
    have u6:IntKind.i64.wrap (c.fr+(k:Int)+1)=c.fr+(k:Int)+1:=IntWalk.i64_in _ (by omega)
    go_wp2_with fail
    go_roundw
    case rel=>exact⟨k+1,by omega,by simp;omega,HT,kf,kc,hall⟩
    case measure=>simp[intOf];omega
   ·have HF:=Lib.hid (HN1.out huv)
    go_wp2_with fail
    go_ret2
    exact⟨by rw[HF.out];rfl,hall⟩
  ·obtain rfl:k=n:=by omega
   have e1: ¬c.fr+(k:Int)<=c.till:=by omega
   have HT:=Lib.hid (HY.out (fun j hj=>HJ.out j (by omega)))
   go_wp2_with fail
   go_ret2
   exact⟨by rw[HT.out];rfl,hall⟩
end Go.Proofs.YtgbpekeoegfjpaaGreatDoor
set_option maxRecDepth 100000
namespace Go.Proofs.YtgbpekeoegfjpaaGreatDoor
open Go.RowKit
variable (A1 A2 A3 A4 : Option Addr) (c1 c2 c3 c4 : Nat) (f : Pl.Fld)
attribute [-go_sem] run_equalIn_agg storeVar loadVar
attribute [local go_sem] lv_int lv_bool lv_u8 lv_string lv_strings lv_stas lv_pars lv_vars
set_option maxHeartbeats 4000000 in
theorem AllowsB_bad (c:Pl.Cal)(A:Option Addr)(cy:Nat)(y:List Int)(E:Int)(w:World)(hf:FldS w w.heap.size A1 A2 A3 A4 f)(hm:Small f)(hc:Caps c1 c2 c3 c4 f)(HE:Hid (Pl.checkCallE f c=E))(h0:E≠0):
  Calls Tryz.prog 69 #[.agg (fq A1 A2 A3 A4 c1 c2 c3 c4 f),.agg (kq c),.slice A y.length cy] w fun e w'=>e=.returned (.tuple #[.bool false,.int .i64 E])∧Below w.heap.size w w':=by
 have q0:(E !=0)=true:=by simpa using h0
 have kf:=(heap_alloc_new w (.cells (fq A1 A2 A3 A4 c1 c2 c3 c4 f) 28))
 have kc:=(heap_alloc_new (w.alloc (.cells (fq A1 A2 A3 A4 c1 c2 c3 c4 f) 28)) (.cells (kq c) 48))
 rw[World.size_alloc]at kc
 have kf:=(Below.heap_alloc _ (.cells (kq c) 48) _ (lO kf)).trans kf
 have l01:=ld_row kf Tryz.underlying28 rfl info_fld
 have l02:=ld_row kc Tryz.underlying48 rfl info_cal
 have hall:Below w.heap.size w ((w.alloc (.cells (fq A1 A2 A3 A4 c1 c2 c3 c4 f) 28)).alloc (.cells (kq c) 48)):=((Below.refl _ w).alloc (Nat.le_refl _) _).alloc (by simp) _
 go_enter Tryz.func69,Tryz.ntmps69
 go_wp2_with fail
 refine(checkCallB_h A1 A2 A3 A4 c1 c2 c3 c4 f c E _ HE (hf.up hall) hm hc).mono ?_
 rintro e w1 ⟨rfl,hx⟩
 replace kf:=kE hx kf;replace kc:=kE hx kc;replace hall:Below w.heap.size w _:=hall.trans (hx.mono hall.size);(try clear l01 l02);have l01:=ld_row kf Tryz.underlying28 rfl info_fld;have l02:=ld_row kc Tryz.underlying48 rfl info_cal;(try clear hcf hff hcc hfc);obtain⟨hcf,hff⟩:=blk_cells kf;obtain⟨hcc,hfc⟩:=blk_cells kc;clear hx
 go_wp2_with fail
 go_ret2
 exact⟨rfl,hall⟩
set_option maxHeartbeats 4000000 in
theorem AllowsB_und (c:Pl.Cal)(A:Option Addr)(cy:Nat)(y:List Int)(w:World)(hf:FldS w w.heap.size A1 A2 A3 A4 f)(hm:Small f)(hc:Caps c1 c2 c3 c4 f)(HE:Hid (Pl.checkCallE f c=0))(HD:Hid (Pl.drawnB f.st.length f.li.length y=false))(hy:Ints w w.heap.size A y)(hym:y.length<=100000):
  Calls Tryz.prog 69 #[.agg (fq A1 A2 A3 A4 c1 c2 c3 c4 f),.agg (kq c),.slice A y.length cy] w fun e w'=>e=.returned (.tuple #[.bool false,.int .i64 1])∧Below w.heap.size w w':=by
 have hFE:Hid (Pl.fieldE f=0):=Lib.hid (by have:=HE.out;unfold Pl.checkCallE at this;split at this;assumption;exact absurd this ‹_›)
 have kf:=(heap_alloc_new w (.cells (fq A1 A2 A3 A4 c1 c2 c3 c4 f) 28))
 have kc:=(heap_alloc_new (w.alloc (.cells (fq A1 A2 A3 A4 c1 c2 c3 c4 f) 28)) (.cells (kq c) 48))
 rw[World.size_alloc]at kc
 have kf:=(Below.heap_alloc _ (.cells (kq c) 48) _ (lO kf)).trans kf
 have l01:=ld_row kf Tryz.underlying28 rfl info_fld
 have l02:=ld_row kc Tryz.underlying48 rfl info_cal
 have hall:Below w.heap.size w ((w.alloc (.cells (fq A1 A2 A3 A4 c1 c2 c3 c4 f) 28)).alloc (.cells (kq c) 48)):=((Below.refl _ w).alloc (Nat.le_refl _) _).alloc (by simp) _
 go_enter Tryz.func69,Tryz.ntmps69
 go_wp2_with fail
 refine(checkCallB_h A1 A2 A3 A4 c1 c2 c3 c4 f c 0 _ HE (hf.up hall) hm hc).mono ?_
 rintro e w1 ⟨rfl,hx⟩
 replace kf:=kE hx kf;replace kc:=kE hx kc;replace hall:Below w.heap.size w _:=hall.trans (hx.mono hall.size);(try clear l01 l02);have l01:=ld_row kf Tryz.underlying28 rfl info_fld;have l02:=ld_row kc Tryz.underlying48 rfl info_cal;(try clear hcf hff hcc hfc);obtain⟨hcf,hff⟩:=blk_cells kf;obtain⟨hcc,hfc⟩:=blk_cells kc;clear hx
 go_wp2_with fail
 refine(drawn_b A1 A2 A3 A4 c1 c2 c3 c4 f A cy y false _ hFE HD (hf.up hall) hm hc (hy.up hall) hym).mono ?_
 rintro e w2 ⟨rfl,hx⟩
 replace kf:=kE hx kf;replace kc:=kE hx kc;replace hall:Below w.heap.size w _:=hall.trans (hx.mono hall.size);(try clear l01 l02);have l01:=ld_row kf Tryz.underlying28 rfl info_fld;have l02:=ld_row kc Tryz.underlying48 rfl info_cal;(try clear hcf hff hcc hfc);obtain⟨hcf,hff⟩:=blk_cells kf;obtain⟨hcc,hfc⟩:=blk_cells kc;clear hx
 go_wp2_with fail
 go_ret2
 exact⟨rfl,hall⟩
theorem AllowsB_h (c:Pl.Cal)(A:Option Addr)(cy:Nat)(y:List Int)(b:Bool)(E:Int)(w:World)(h1:Hid (Pl.allowsV f c y=b))(h2:Hid (Pl.allowsE f c y=E))(hf:FldS w w.heap.size A1 A2 A3 A4 f)(hm:Small f)(hc:Caps c1 c2 c3 c4 f)(hy:Ints w w.heap.size A y)(hym:y.length<=100000):
  Calls Tryz.prog 69 #[.agg (fq A1 A2 A3 A4 c1 c2 c3 c4 f),.agg (kq c),.slice A y.length cy] w fun e w'=>e=.returned (.tuple #[.bool b,.int .i64 E])∧Below w.heap.size w w':=by
 rw[<-h1.out,<-h2.out]
 unfold Pl.allowsV
 by_cases h0:Pl.checkCallE f c=0
 ·cases hD:Pl.drawnB f.st.length f.li.length y with
  |false=>
   have e:Pl.allowsE f c y=1:=by unfold Pl.allowsE;rw[if_pos h0,hD];rfl
   rw[e]
   exact AllowsB_und A1 A2 A3 A4 c1 c2 c3 c4 f c A cy y w hf hm hc (Lib.hid h0) (Lib.hid hD) hy hym
  |true=>
   have e:Pl.allowsE f c y=0:=by unfold Pl.allowsE;rw[if_pos h0,if_pos hD]
   rw[e,if_pos rfl]
   rcases Pl.tab_five (tab_of h0).2 with hk|hk|hk|hk|hk
   ·rw[show(c.kind:Int)=1 by omega];exact allowsB_1 A1 A2 A3 A4 c1 c2 c3 c4 f c A cy y w hf hm hc hk (Lib.hid h0) (Lib.hid hD) hy hym
   ·rw[show(c.kind:Int)=2 by omega];exact allowsB_2 A1 A2 A3 A4 c1 c2 c3 c4 f c A cy y w hf hm hc hk (Lib.hid h0) (Lib.hid hD) hy hym
   ·rw[show(c.kind:Int)=3 by omega];exact allowsB_3 A1 A2 A3 A4 c1 c2 c3 c4 f c A cy y w hf hm hc hk (Lib.hid h0) (Lib.hid hD) hy hym
   ·rw[show(c.kind:Int)=4 by omega];exact allowsB_4 A1 A2 A3 A4 c1 c2 c3 c4 f c A cy y w hf hm hc hk (Lib.hid h0) (Lib.hid hD) hy hym
   ·rw[show(c.kind:Int)=5 by omega];exact allowsB_5 A1 A2 A3 A4 c1 c2 c3 c4 f c A cy y w hf hm hc hk (Lib.hid h0) (Lib.hid hD) hy hym
 ·have e:Pl.allowsE f c y=Pl.checkCallE f c:=by unfold Pl.allowsE;rw[if_neg h0]
  rw[e,if_neg h0]
  exact AllowsB_bad A1 A2 A3 A4 c1 c2 c3 c4 f c A cy y _ w hf hm hc (Lib.hid rfl) h0
end Go.Proofs.YtgbpekeoegfjpaaGreatDoor
set_option maxRecDepth 100000
namespace Go.Proofs.YtgbpekeoegfjpaaGreatDoor
open Go.RowKit Go.Shelf
section
attribute [local go_sem] Oper.semAt_some
attribute [-go_sem] Builtin.append_
set_option maxHeartbeats 2000000 in
theorem bounds_own (A1 A2 A3 A4:Option Addr)(c1 c2 c3 c4:Nat)(f:Pl.Fld)(c:Pl.Cal)(r:Int)(w:World)(ht:c.tab f.st.length f.li.length)(hL:f.li.length<=1000)(hS:f.st.length<=100000)(hf:FldS w w.heap.size A1 A2 A3 A4 f)(hva:f.va.length<=100000)(hx: ∀s∈f.st,0<=s.2∧s.2<=100000)
  (hlo: ∀x∈Pl.spans f c,-1000000000000000<=x.lo∧x.lo<=1000000000000000) (hlen:(Pl.spans f c).length<=100001) (hlen1:1<=(Pl.spans f c).length):
  Calls Tryz.prog 90 #[.agg (fcq A1 A2 A3 A4 c1 c2 c3 c4 f c),.int .i64 r] w fun e w'=> ∃g cp,e=.returned (.slice (some ⟨g,0,none⟩) (Pl.boundsC f c r).length cp)∧w.heap.size<=g∧RowB w' g (Pl.boundsC f c r)∧Below w.heap.size w w':=by
 refine(callsIn_wide (n:=3)).1 ?_
 refine callsIn_of_wp_marks Tryz.func90 rfl trivial ?_ rfl
 simp only[Tryz.ntmps90,List.size_toArray,List.length_cons,List.length_nil,Nat.reduceAdd,Nat.reduceSub,Array.replicate_succ,Array.replicate_zero,List.push_toArray,List.append_toArray,List.nil_append,List.cons_append]
 gi_wp2_with (refine⟨trivial,?_⟩;gi_at_call 131;refine(callsIn_wide.2 (spansF_a A1 A2 A3 A4 c1 c2 c3 c4 f c _)).mono ?_;rintro e w' ⟨rfl,rfl⟩)
 obtain⟨W0,hW0⟩: ∃W0,((((w.alloc (.cells (fcq A1 A2 A3 A4 c1 c2 c3 c4 f c) 128)).alloc (.cells #[.int .i64 r] 3)).alloc (.cells #[.slice none 0 0] 51)).alloc (.cells (fcq A1 A2 A3 A4 c1 c2 c3 c4 f c) 128))=W0:=⟨_,rfl⟩
 have hs0:W0.heap.size=w.heap.size+4:=by rw[<-hW0];simp
 have hN0: ∀W,Below W0.heap.size W0 W->w.heap.size+6<=W.heap.size->BI A1 A2 A3 A4 c1 c2 c3 c4 f c r w 0 W:=by
  intro W hb hs
  have e1:=hb.block (w.heap.size+1) (by omega)
  have e2:=hb.block (w.heap.size+2) (by omega)
  have e3:=hb.block (w.heap.size+3) (by omega)
  have hbw:Below w.heap.size w W:=by
   refine Below.trans ?_ (hb.mono (show w.heap.size<=W0.heap.size by omega))
   rw[<-hW0]
   exact(((((Below.refl _ w).alloc (Nat.le_refl _) _).alloc (by simp) _).alloc (by simp;omega) _).alloc (by simp;omega) _)
  refine⟨hbw,hs,⟨_,e2.trans ?_,World.ownsRow_nil _ _ _ _⟩,e1.trans ?_,e3.trans ?_⟩
  ·rw[<-hW0];have:=(Boxed.new ((w.alloc (.cells (fcq A1 A2 A3 A4 c1 c2 c3 c4 f c) 128)).alloc (.cells #[.int .i64 r] 3)) 51 (.slice none 0 0)).alloc (.cells (fcq A1 A2 A3 A4 c1 c2 c3 c4 f c) 128);simp only[World.size_alloc]at this;exact this
  ·rw[<-hW0];have:=((Boxed.new (w.alloc (.cells (fcq A1 A2 A3 A4 c1 c2 c3 c4 f c) 128)) 3 (.int .i64 r)).alloc (.cells #[.slice none 0 0] 51)).alloc (.cells (fcq A1 A2 A3 A4 c1 c2 c3 c4 f c) 128);simp only[World.size_alloc]at this;exact this
  ·rw[<-hW0];have:=World.alloc_heap_new (((w.alloc (.cells (fcq A1 A2 A3 A4 c1 c2 c3 c4 f c) 128)).alloc (.cells #[.int .i64 r] 3)).alloc (.cells #[.slice none 0 0] 51)) (.cells (fcq A1 A2 A3 A4 c1 c2 c3 c4 f c) 128);simp only[World.size_alloc]at this;exact this
 rw[hW0]
 refine wpIn_rangeFunc_st (F:=Fence.wide) (encs:=encSp) rfl (by omega) (gf:=189) (lb:= #[.pointer (some ⟨w.heap.size+3,0,none⟩)]) (by simp[go_sem]) trivial (enters_of Tryz.func189 (by kernel_rfl) rfl) (fun _=>rfl)
  (fun k (_:Pl.Sp)=>k+1) 0 (Pl.spans f c).length (fun k x=>(Pl.spans f c)[k]?=some x) (BI A1 A2 A3 A4 c1 c2 c3 c4 f c r w) (AxB A1 A2 A3 A4 c1 c2 c3 c4 f c r w) ?put ?aput ?start ?seq ?assign ?body ?done
 case put=>
  intro s W r r' hl h
  exact h.putObj _ hl rfl (by omega)
 case aput=>
  rintro x a' W r r' hl ⟨Bx,hB,hb,rfl⟩
  exact⟨Bx,hB,(World.putObj_heap_other (by omega)).trans hb,rfl⟩
 case start=>
  intro r
  refine hN0 _ (((Below.refl _ W0).alloc (Nat.le_refl _) _).alloc (by simp) _) (by simp;omega)
 case seq=>
  rintro rec W1 hY hI hl hk
  rw[hs0]at hY hl hk ⊢
  have hJ:SpJ A1 A2 A3 A4 c1 c2 c3 c4 f c (w.heap.size+3) (w.heap.size+4+1) (3-1) w (fun k W=>BI A1 A2 A3 A4 c1 c2 c3 c4 f c r w k W∧W.heap[w.heap.size+4+1]?=some (.loop rec)∧W.heap[w.heap.size+4]?=some (.deferred (some []))):=
   ⟨fun k W h=>h.1.box,fun k W h=>h.1.below,fun k W W' h hb=>⟨h.1.kept hb,(hb.block _ (by have:=h.1.sz;omega)).trans h.2.1,(hb.block _ (by have:=h.1.sz;omega)).trans h.2.2⟩,fun k x W hx h=>hY k x W hx h.1 h.2.1 h.2.2⟩
  exact spans_a A1 A2 A3 A4 c1 c2 c3 c4 f c (w.heap.size+3) (w.heap.size+4+1) (3-1) w W1 _ hJ ⟨hI,hl,hk⟩ ht hL hS hf hva hx
 case assign=>
  rintro s x W K rr hp hi hl hk hK
  rw[hs0]at hl hk hK ⊢
  unfold encSp
  gi_wp2
  exact hK _ _ (hi.kept ((Below.refl _ W).alloc (Nat.le_refl _) _)) ⟨W.heap.size,hi.sz,World.alloc_heap_new W _,rfl⟩ ((Below.heap_alloc _ _ _ (lO hl)).trans hl) ((Below.heap_alloc _ _ _ (lO hk)).trans hk)
 case body=>
  rintro k x a' W rr hp hi ⟨Bx,hB,hb,rfl⟩ hl hk
  rw[hs0]at hl hk ⊢
  have hxm:x∈Pl.spans f c:=List.mem_of_getElem? hp
  obtain⟨l0,l1⟩:=hlo x hxm
  have hkl:k<(Pl.spans f c).length:=(List.getElem?_eq_some_iff.1 hp).1
  obtain⟨v,hv,hr⟩:=hi.own
  have hc:=hv.cell
  have hf1:=hv.frozen
  have hrc:=hi.rcd.cell
  have b0:W.cell? ⟨Bx,0,none⟩=some (.int .i64 (x.fr:Int)):=by simp[World.cell?,hb]
  have b1:W.cell? ⟨Bx,1,none⟩=some (.int .i64 (x.till:Int)):=by simp[World.cell?,hb]
  have b2:W.cell? ⟨Bx,2,none⟩=some (.int .i64 x.lo):=by simp[World.cell?,hb]
  have b3:W.cell? ⟨Bx,3,none⟩=some (.int .i64 x.hi):=by simp[World.cell?,hb]
  have hng:IntKind.i64.wrap (-x.lo)= -x.lo:=IntWalk.i64_in _ (by omega)
  obtain⟨g',cap',w2,hrun,hown2,hv2,hb2⟩:=app_sp x r hv hr (by omega) hi.sz
  have hc2:=hv2.cell
  have hf2:=hv2.frozen
  gi_wp2
  have hsz:=hi.sz
  have key: ∀j,j<w.heap.size+6->j≠w.heap.size+2->(w2.setCell ⟨w.heap.size+2,0,none⟩ (.slice (some ⟨g',0,none⟩) (2*k+2) cap')).heap[j]?=W.heap[j]?:=fun j hj hne=>
   (Below.heap_setCell _ _ _ _ hne).trans (hb2.block j hj)
  have hgs:=grownBy_setCell' w2 (w.heap.size+2) (.slice (some ⟨g',0,none⟩) (2*k+2) cap')
  refine⟨⟨hi.below.trans ((hb2.mono (show w.heap.size<=w.heap.size+6 by omega)).setCell (p:=⟨w.heap.size+2,0,none⟩) (by show w.heap.size<=w.heap.size+2;omega) _),by have:=hb2.size;have:=hgs.size;omega,⟨_,hv2.set _,?_⟩,(key _ (by omega) (by omega)).trans hi.rcd,(key _ (by omega) (by omega)).trans hi.box⟩,(key _ (by omega) (by omega)).trans hl,(key _ (by omega) (by omega)).trans hk⟩
  rw[take_succ' hp,List.flatMap_append,show 2*(k+1)=2*k+2 by omega]
  have:=hown2.kept hgs (.inr (hv2.not_row (by decide) hown2).symm)
  simpa using this
 case done=>
  rintro W hi hk
  rw[hs0]at hk
  obtain⟨v,hv,hr⟩:=hi.own
  have hc:=hv.cell
  have hf1:=hv.frozen
  gi_wp2
  rw[hs0]
  have hq:(Pl.boundsC f c r).length=2*(Pl.spans f c).length:=by
   unfold Pl.boundsC
   generalize Pl.spans f c=l
   clear hi hr hc hk hv hf1 hlo hlen hN0 hW0 hs0 ht
   induction l with
   |nil=>rfl
   |cons x l ih=>rw[List.flatMap_cons,List.length_append,ih,List.length_cons];simp[Pl.spB];omega
  rw[List.take_length,<-hq]at hr
  have hr2:W.ownsRow (w.heap.size+6) 99 4 v (Pl.boundsC f c r).length ((Pl.boundsC f c r).flatMap encBd):=hr
  have hr3:=ownsRow_putObj hr2 (.deferred none) hk rfl
  obtain⟨g,cp,hv',hgN,hrow⟩:=rowB_of_own hr3 (by omega)
  subst hv'
  refine⟨by simp,.inl ⟨_,_,rfl,run_takeDeferred hk,?_⟩⟩
  refine⟨_,results_tmp rfl _ _ _,g,cp,rfl,by omega,hrow,?_⟩
  exact hi.below.trans (belowK_b (w:=w) (Nat.le_refl _) W (w.heap.size+4) _ _ (by omega) hk rfl rfl)
end
attribute [-go_sem] run_equalIn_agg storeVar loadVar
attribute [local go_sem] lv_int lv_bool lv_u8
theorem equalB_a (W:World)(g g' c c':Nat)(l m:List Pl.Bd)(hl:RowB W g l)(hm:RowB W g' m)(h1:l.length<=1000)(h2:m.length<=1000):
  Calls Tryz.prog 141 #[.slice (some ⟨g,0,none⟩) l.length c,.slice (some ⟨g',0,none⟩) m.length c'] W fun e w'=>e=.returned (.bool (decide (l=m)))∧ ∃q,w'=W.drewN q:=by
 have hne:NeqAt Tryz.prog 99 (fun x:Pl.Bd=> .agg (encBd x).toArray) (fun x y=>decide (x=y)):=by
  refine⟨fun x y w=> ?_,GuardAt.agg _ (by kernel_rfl)⟩
  have:=eq_bd x y w
  simp only[encBd]
  simp[go_sem,this]
 have hcell: ∀(gg:Nat) (k:List Pl.Bd),RowB W gg k-> ∀j,j<k.length-> ∀i v,(encBd k[j]!)[i]?=some v->W.cell? ⟨gg,0+j*4+i,none⟩=some v:=by
  intro gg k hk j hj i v hv
  have hi:i<4:=by have:=(List.getElem?_eq_some_iff.1 hv).1;simpa [encBd]using this
  have:=(hk.hold.cell (i:=j) (c:=i) (by simpa using hj) hi).1
  rw[this]
  have e1:k.toArray[j]! =k[j]!:=by
   rw[getElem!_pos k.toArray j (by simpa using hj),getElem!_pos k j hj]
   simp
  rw[e1]
  have e2:=List.getElem?_eq_some_iff.1 hv
  rw[getElem!_pos (encBd k[j]!) i e2.1,e2.2]
 have:=AnyQ.slices_Equal Tryz.equalBd 4 Tryz.isAgg99 Tryz.sizeOf99 encBd (fun _=>rfl) (fun x y:Pl.Bd=>decide (x=y)) hne g 0 l.length c g' 0 m.length c' l m W (Nat.le_refl _) (Nat.le_refl _) (by omega) (by omega) (hcell g l hl) (hcell g' m hm)
 rw[List.take_length,List.take_length]at this
 have e:Lib.allEq (fun x y:Pl.Bd=>decide (x=y)) l m=decide (l=m):=by
  clear this hl hm hne h1 h2 hcell
  induction l generalizing m with
  |nil=>cases m<;>rfl
  | cons x l ih=>cases m with
   |nil=>rfl
   |cons y m=>
    unfold Lib.allEq
    rw[ih m,Bool.eq_iff_iff]
    simp
 rw[e]at this
 exact this
end Go.Proofs.YtgbpekeoegfjpaaGreatDoor
set_option maxRecDepth 100000
namespace Go.Proofs.YtgbpekeoegfjpaaGreatDoor
open Go.RowKit Go.Shelf
variable (A1 A2 A3 A4 : Option Addr) (c1 c2 c3 c4 : Nat) (f : Pl.Fld)
attribute [-go_sem] run_equalIn_agg storeVar loadVar
attribute [local go_sem] lv_int lv_bool lv_u8 lv_string lv_strings lv_stas lv_pars lv_vars
theorem se3_of {a b:Pl.Cal}{g:Nat}{W:World}(kf:W.heap[g]?=some (.cells (fq A1 A2 A3 A4 c1 c2 c3 c4 f) 28 (0,0)))(ka:W.heap[g+1]?=some (.cells (kq a) 48 (0,0)))(kb:W.heap[g+2]?=some (.cells (kq b) 48 (0,0))):
  (loadVar 28 ⟨g,0,none⟩).run Tryz.prog W=.ok (.agg (fq A1 A2 A3 A4 c1 c2 c3 c4 f)) W∧(loadVar 48 ⟨g+1,0,none⟩).run Tryz.prog W=.ok (.agg (kq a)) W∧(loadVar 48 ⟨g+2,0,none⟩).run Tryz.prog W=.ok (.agg (kq b)) W:=
 ⟨ld_row kf Tryz.underlying28 rfl info_fld,ld_row ka Tryz.underlying48 rfl info_cal,ld_row kb Tryz.underlying48 rfl info_cal⟩
def Pl.sameK (Ea Eb:Int)(k:Nat):Prop:=(1<=k->Ea=0)∧(2<=k->Eb=0)
theorem bo_of (c:Pl.Cal)(W:World)(h:Pl.checkCallE f c=0)(hf:FldS W W.heap.size A1 A2 A3 A4 f)(hm:Small f):
  Calls Tryz.prog 90 #[.agg (fcq A1 A2 A3 A4 c1 c2 c3 c4 f c),.int .i64 0] W fun e w'=> ∃g cp,e=.returned (.slice (some ⟨g,0,none⟩) (Pl.boundsC f c 0).length cp)∧W.heap.size<=g∧RowB w' g (Pl.boundsC f c 0)∧Below W.heap.size W w':=by
 obtain⟨hok,ht⟩:=tab_of h
 have hs:=spans_few (f:=f) ht hok.st12
 exact bounds_own A1 A2 A3 A4 c1 c2 c3 c4 f c 0 W ht (by have:=hok.li10;omega) (by have:=hok.st12;omega) hf hm.va hok.x (spans_lo ht) (by omega) (by omega)
theorem same_list {f:Pl.Fld}{a b:Pl.Cal}{l m:List Pl.Bd}(ha:Pl.checkCallE f a=0)(hb:Pl.checkCallE f b=0)(hp:l.Perm (Pl.boundsC f a 0))(ho:l.Pairwise Pl.le4)(hq:m.Perm (Pl.boundsC f b 0))(ho':m.Pairwise Pl.le4):decide (l=m)=Pl.sameL (Pl.boundsC f a 0) (Pl.boundsC f b 0):=by
 have h:=Pl.sorted_sameL hp ho hq ho'
 rwa[Pl.compact_nodup (hp.nodup_iff.2 (Pl.boundsC_nodup (tab_of ha).2 0)),Pl.compact_nodup (hq.nodup_iff.2 (Pl.boundsC_nodup (tab_of hb).2 0))]at h
set_option maxHeartbeats 8000000 in
theorem Same_h (a b:Pl.Cal)(V:Bool)(E:Int)(w:World)(hV:Hid (Pl.sameV f a b=V))(hE:Hid (Pl.sameE f a b=E))(hf:FldS w w.heap.size A1 A2 A3 A4 f)(hm:Small f)(hc:Caps c1 c2 c3 c4 f)(hka:a.kind<=255)(hkb:b.kind<=255):
  Calls Tryz.prog 70 #[.agg (fq A1 A2 A3 A4 c1 c2 c3 c4 f),.agg (kq a),.agg (kq b)] w fun e w'=>e=.returned (.tuple #[.bool V,.int .i64 E])∧Below w.heap.size w w':=by
 obtain⟨Ea,hEa⟩: ∃E,Pl.checkCallE f a=E:=⟨_,rfl⟩
 obtain⟨Eb,hEb⟩: ∃E,Pl.checkCallE f b=E:=⟨_,rfl⟩
 have HA:=Lib.hid hEa
 have HB:=Lib.hid hEb
 have HE1:Hid (Ea≠0->E=Ea∧V=false):=Lib.hid fun h=>by
  have e:E=Ea:=by rw[<-hE.out];unfold Pl.sameE;rw[if_neg (by rw[hEa];exact h),hEa]
  exact⟨e,by rw[<-hV.out];unfold Pl.sameV;rw[if_neg];rw[hE.out,e];exact h⟩
 have HE2:Hid (Ea=0->Eb≠0->E=Eb∧V=false):=Lib.hid fun h h'=>by
  have e:E=Eb:=by rw[<-hE.out];unfold Pl.sameE;rw[if_pos (by rw[hEa];exact h),hEb]
  exact⟨e,by rw[<-hV.out];unfold Pl.sameV;rw[if_neg];rw[hE.out,e];exact h'⟩
 have HE3:Hid (Ea=0->Eb=0->E=0∧V=Pl.sameL (Pl.boundsC f a 0) (Pl.boundsC f b 0)):=Lib.hid fun h h'=>by
  have e:E=0:=by rw[<-hE.out];unfold Pl.sameE;rw[if_pos (by rw[hEa];exact h),hEb,h']
  exact⟨e,by rw[<-hV.out];unfold Pl.sameV;rw[if_pos];rw[hE.out,e]⟩
 clear hEa hEb hV hE
 obtain⟨W0,hW0,kf,ka,kb,hall⟩:=box3_w A1 A2 A3 A4 c1 c2 c3 c4 f a b w
 have l01:=ld_row kf Tryz.underlying28 rfl info_fld
 have l02:=ld_row ka Tryz.underlying48 rfl info_cal
 have l03:=ld_row kb Tryz.underlying48 rfl info_cal
 obtain⟨G,hG⟩: ∃G,W0.heap.size=G:=⟨_,rfl⟩
 have hGw:w.heap.size+2<G:=by rw[<-hG];exact(lO kb)
 obtain⟨W1,hW1⟩: ∃W1,W0.alloc (.cells #[.int .u8 (a.kind:Int),.int .i64 a.lim,.int .i64 a.oth,.int .i64 a.fr,.int .i64 a.till,.int .i64 a.size,.int .i64 a.er,.int .i64 a.crs.b,.int .i64 a.crs.n,.int .i64 a.crs.l,.int .i64 a.crs.y,.int .i64 a.crs.x,.int .i64 a.crs.s,.int .u8 (b.kind:Int),.int .i64 b.lim,.int .i64 b.oth,.int .i64 b.fr,.int .i64 b.till,.int .i64 b.size,.int .i64 b.er,.int .i64 b.crs.b,.int .i64 b.crs.n,.int .i64 b.crs.l,.int .i64 b.crs.y,.int .i64 b.crs.x,.int .i64 b.crs.s] 48)=W1:=⟨_,rfl⟩
 have kg:W1.heap[G]?=some (.cells #[.int .u8 (a.kind:Int),.int .i64 a.lim,.int .i64 a.oth,.int .i64 a.fr,.int .i64 a.till,.int .i64 a.size,.int .i64 a.er,.int .i64 a.crs.b,.int .i64 a.crs.n,.int .i64 a.crs.l,.int .i64 a.crs.y,.int .i64 a.crs.x,.int .i64 a.crs.s,.int .u8 (b.kind:Int),.int .i64 b.lim,.int .i64 b.oth,.int .i64 b.fr,.int .i64 b.till,.int .i64 b.size,.int .i64 b.er,.int .i64 b.crs.b,.int .i64 b.crs.n,.int .i64 b.crs.l,.int .i64 b.crs.y,.int .i64 b.crs.x,.int .i64 b.crs.s] 48 (0,0)):=by rw[<-hW1,<-hG];exact heap_alloc_new W0 _
 have hx01:Below W0.heap.size W0 W1:=by rw[<-hW1];exact(Below.refl _ W0).alloc (Nat.le_refl _) _
 have kf1:=kE hx01 kf
 have ka1:=kE hx01 ka
 have kb1:=kE hx01 kb
 have hall1:=hall.trans (hx01.mono hall.size)
 go_enter Tryz.func70,Tryz.ntmps70
 go_wp2_with fail
 try rw[hG]
 try rw[hW1]
 clear hx01 hW1 hW0 l01 l02 l03 kf ka kb hall hG
 go_loopw [15] (fun i wr=> ∃(k:Nat),k<=2∧i=.int .i64 k∧Hid (Pl.sameK Ea Eb k)∧wr.heap[w.heap.size]?=some (.cells (fq A1 A2 A3 A4 c1 c2 c3 c4 f) 28 (0,0))∧wr.heap[w.heap.size+1]?=some (.cells (kq a) 48 (0,0))∧wr.heap[w.heap.size+2]?=some (.cells (kq b) 48 (0,0))∧wr.heap[G]?=some (.cells #[.int .u8 (a.kind:Int),.int .i64 a.lim,.int .i64 a.oth,.int .i64 a.fr,.int .i64 a.till,.int .i64 a.size,.int .i64 a.er,.int .i64 a.crs.b,.int .i64 a.crs.n,.int .i64 a.crs.l,.int .i64 a.crs.y,.int .i64 a.crs.x,.int .i64 a.crs.s,.int .u8 (b.kind:Int),.int .i64 b.lim,.int .i64 b.oth,.int .i64 b.fr,.int .i64 b.till,.int .i64 b.size,.int .i64 b.er,.int .i64 b.crs.b,.int .i64 b.crs.n,.int .i64 b.crs.l,.int .i64 b.crs.y,.int .i64 b.crs.x,.int .i64 b.crs.s] 48 (0,0))∧Below w.heap.size w wr) (fun i _=>2-(intOf i).toNat)
 case atStart=>exact⟨0,by omega,rfl,Lib.hid ⟨fun h=>by omega,fun h=>by omega⟩,kf1,ka1,kb1,kg,hall1⟩
 case round=>
  clear kf1 ka1 kb1 kg hall1
  obtain⟨k,hk,rfl,hK,kf,ka,kb,kg,hall⟩:=hrel
  obtain rfl|rfl|rfl:k=0∨k=1∨k=2:=by omega
  ·have lm:(loadVar 48 ⟨G,0,none⟩).run Tryz.prog wr=.ok (.agg (kq a)) wr:=run_loadVar_mid wr G 0 _ _ _ (mid_of (n:=13) kg rfl) Tryz.underlying48 rfl (by kernel_rfl)
   obtain⟨W2,st2,kd,hx⟩:=sp_2 (kq a) rfl (by simp[Value.oneCell']) wr
   replace kg:=kE hx kg
   replace kf:=kE hx kf;replace ka:=kE hx ka;replace kb:=kE hx kb;replace hall:Below w.heap.size w _:=hall.trans (hx.mono hall.size);(try clear l01 l02 l03);have l01:=ld_row kf Tryz.underlying28 rfl info_fld;have l02:=ld_row ka Tryz.underlying48 rfl info_cal;have l03:=ld_row kb Tryz.underlying48 rfl info_cal;clear hx
   have l04:=ld_row kd Tryz.underlying48 rfl info_cal
   go_wp2_with fail
   clear lm st2
   refine(checkCall_h A1 A2 A3 A4 c1 c2 c3 c4 f a Ea _ HA (hf.up hall) hm hc hka).mono ?_
   rintro e w2 ⟨rfl,hx⟩
   replace kg:=kE hx kg
   clear l04
   replace kf:=kE hx kf;replace ka:=kE hx ka;replace kb:=kE hx kb;replace hall:Below w.heap.size w _:=hall.trans (hx.mono hall.size);(try clear l01 l02 l03);have l01:=ld_row kf Tryz.underlying28 rfl info_fld;have l02:=ld_row ka Tryz.underlying48 rfl info_cal;have l03:=ld_row kb Tryz.underlying48 rfl info_cal;clear hx
   by_cases h0:Ea=0
   ·have HN:Hid (Pl.sameK Ea Eb 1):=Lib.hid ⟨fun _=>h0,fun h=>by omega⟩
    have q0:(Ea !=0)=false:=by simpa using h0
    go_wp2_with fail
    go_roundw
    case rel=>exact⟨1,by omega,by go_num,HN,kf,ka,kb,kg,hall⟩
    case measure=>first|(simp[intOf];done)|(simp[intOf];omega)
   ·have q0:(Ea !=0)=true:=by simpa using h0
    obtain⟨z1,z2⟩:=HE1.out h0
    have HZ:Hid (E=Ea∧V=false):=Lib.hid ⟨z1,z2⟩
    clear z1 z2 h0
    go_wp2_with fail
    go_ret2
    exact⟨by rw[HZ.out.1,HZ.out.2];rfl,hall⟩
  ·have lm:(loadVar 48 ⟨G,13,none⟩).run Tryz.prog wr=.ok (.agg (kq b)) wr:=run_loadVar_mid wr G 13 _ _ _ (mid_of (n:=13) kg rfl) Tryz.underlying48 rfl (by kernel_rfl)
   obtain⟨W2,st2,kd,hx⟩:=sp_2 (kq b) rfl (by simp[Value.oneCell']) wr
   replace kg:=kE hx kg
   replace kf:=kE hx kf;replace ka:=kE hx ka;replace kb:=kE hx kb;replace hall:Below w.heap.size w _:=hall.trans (hx.mono hall.size);(try clear l01 l02 l03);have l01:=ld_row kf Tryz.underlying28 rfl info_fld;have l02:=ld_row ka Tryz.underlying48 rfl info_cal;have l03:=ld_row kb Tryz.underlying48 rfl info_cal;clear hx
   have l04:=ld_row kd Tryz.underlying48 rfl info_cal
   go_wp2_with fail
   clear lm st2
   refine(checkCall_h A1 A2 A3 A4 c1 c2 c3 c4 f b Eb _ HB (hf.up hall) hm hc hkb).mono ?_
   rintro e w2 ⟨rfl,hx⟩
   replace kg:=kE hx kg
   clear l04
   replace kf:=kE hx kf;replace ka:=kE hx ka;replace kb:=kE hx kb;replace hall:Below w.heap.size w _:=hall.trans (hx.mono hall.size);(try clear l01 l02 l03);have l01:=ld_row kf Tryz.underlying28 rfl info_fld;have l02:=ld_row ka Tryz.underlying48 rfl info_cal;have l03:=ld_row kb Tryz.underlying48 rfl info_cal;clear hx
   by_cases h0:Eb=0
   ·have HN:Hid (Pl.sameK Ea Eb 2):=Lib.hid ⟨fun _=>hK.out.1 (by omega),fun _=>h0⟩
    have q0:(Eb !=0)=false:=by simpa using h0
    go_wp2_with fail
    go_roundw
    case rel=>exact⟨2,by omega,by go_num,HN,kf,ka,kb,kg,hall⟩
    case measure=>first|(simp[intOf];done)|(simp[intOf];omega)
   ·have q0:(Eb !=0)=true:=by simpa using h0
    obtain⟨z1,z2⟩:=HE2.out (hK.out.1 (by omega)) h0
    have HZ:Hid (E=Eb∧V=false):=Lib.hid ⟨z1,z2⟩
    clear z1 z2 h0
    go_wp2_with fail
    go_ret2
    exact⟨by rw[HZ.out.1,HZ.out.2];rfl,hall⟩
  ·obtain⟨z1,z2⟩:=HE3.out (hK.out.1 (by omega)) (hK.out.2 (by omega))
   have ya:Pl.checkCallE f a=0:=HA.out.trans (hK.out.1 (by omega))
   have yb:Pl.checkCallE f b=0:=HB.out.trans (hK.out.2 (by omega))
   have HZ:Hid (E=0∧V=Pl.sameL (Pl.boundsC f a 0) (Pl.boundsC f b 0)):=Lib.hid ⟨z1,z2⟩
   have HS:=Lib.hid (fun l m=>same_list (l:=l) (m:=m) ya yb)
   have hba:=fun W (hW:Below w.heap.size w W)=>bo_of A1 A2 A3 A4 c1 c2 c3 c4 f a W ya (hf.up hW) hm
   have hbb:=fun W (hW:Below w.heap.size w W)=>bo_of A1 A2 A3 A4 c1 c2 c3 c4 f b W yb (hf.up hW) hm
   have hsa:=fun W g cp (h:RowB W g (Pl.boundsC f a 0))=>sorted_a W g cp (Pl.boundsC f a 0) 0 h Pl.boundsC_rec (boundsC_few ya) (Pl.boundsC_nodup (tab_of ya).2 0)
   have hsb:=fun W g cp (h:RowB W g (Pl.boundsC f b 0))=>sorted_a W g cp (Pl.boundsC f b 0) 0 h Pl.boundsC_rec (boundsC_few yb) (Pl.boundsC_nodup (tab_of yb).2 0)
   have na:=boundsC_few ya
   have nb:=boundsC_few yb
   obtain⟨La,hLa⟩: ∃L,Pl.boundsC f a 0=L:=⟨_,rfl⟩
   obtain⟨Lb,hLb⟩: ∃L,Pl.boundsC f b 0=L:=⟨_,rfl⟩
   rw[hLa]at hba hsa na HS HZ
   rw[hLb]at hbb hsb nb HS HZ
   clear hLa hLb ya yb z1 z2 hK HE1 HE2 HE3 kg
   go_wp2_with fail
   replace kf:=(show wr.drew.heap[_]?=_ from kf)
   replace ka:=(show wr.drew.heap[_]?=_ from ka)
   replace kb:=(show wr.drew.heap[_]?=_ from kb)
   replace hall:=hall.drew
   go_region_held3 (fun W=>(loadVar 28 ⟨w.heap.size,0,none⟩).run Tryz.prog W=.ok (.agg (fq A1 A2 A3 A4 c1 c2 c3 c4 f)) W∧(loadVar 48 ⟨w.heap.size+1,0,none⟩).run Tryz.prog W=.ok (.agg (kq a)) W∧(loadVar 48 ⟨w.heap.size+2,0,none⟩).run Tryz.prog W=.ok (.agg (kq b)) W) (exact se3_of A1 A2 A3 A4 c1 c2 c3 c4 f kf ka kb) (first
    |(go_at_call 90;refine(hba _ hall).mono ?_;rintro e w3 ⟨ga,ca,rfl,hga,hRa,hx⟩;have hga1:w.heap.size+2<ga:=Nat.lt_of_lt_of_le (lO kb) hga;replace kf:=kE hx kf;replace ka:=kE hx ka;replace kb:=kE hx kb;replace hall:Below w.heap.size w w3:=hall.trans (hx.mono hall.size);clear hx;clear hba)
    |(go_at_call 142;refine(hsa _ ga ca hRa).mono ?_;rintro e w4 ⟨rfl,la,pa,oa,hRa,hg⟩;replace kf:=(hg.block _ (lO kf) (by simp;omega)).trans kf;replace ka:=(hg.block _ (lO ka) (by simp;omega)).trans ka;replace kb:=(hg.block _ (lO kb) (by simp;omega)).trans kb;have hga2:=hRa.lt;replace hall:Below w.heap.size w w4:=hall.grown hg hall.size (fun j e=>by cases e;omega);clear hg;clear hsa)
    |(go_at_call 90;refine(hbb _ hall).mono ?_;rintro e w5 ⟨gb,cb,rfl,hgb,hRb,hx⟩;replace kf:=kE hx kf;replace ka:=kE hx ka;replace kb:=kE hx kb;replace hRa:=hRa.kept (grownBy_of_belowF hx) (Option.some_ne_none _);have hne:ga<gb:=(by omega);replace hall:Below w.heap.size w w5:=hall.trans (hx.mono hall.size);clear hx)
    |(go_at_call 142;refine(hsb _ gb cb hRb).mono ?_;rintro e w6 ⟨rfl,lb,pb,ob,hRb,hg⟩;replace kf:=(hg.block _ (lO kf) (by simp;omega)).trans kf;replace ka:=(hg.block _ (lO ka) (by simp;omega)).trans ka;replace kb:=(hg.block _ (lO kb) (by simp;omega)).trans kb;replace hRa:=hRa.kept hg (by simp;omega);replace hall:Below w.heap.size w w6:=hall.grown hg hall.size (fun j e=>by cases e;omega);clear hg)
    |(go_at_call 141;have hq:=equalB_a _ ga gb ca cb la lb hRa hRb (by rw[pa.length_eq];omega) (by rw[pb.length_eq];omega);rw[pa.length_eq,pb.length_eq]at hq;refine hq.mono ?_;rintro e w7 ⟨rfl,q,rfl⟩;replace hall:Below w.heap.size w _:=below_drewN hall q))
   all_goals go_wp2_with fail
   all_goals go_ret2
   all_goals exact⟨by rw[HZ.out.1,HZ.out.2,<-HS.out la lb pa oa pb ob];rfl,hall⟩
end Go.Proofs.YtgbpekeoegfjpaaGreatDoor
set_option maxRecDepth 100000
namespace Go.Proofs.YtgbpekeoegfjpaaGreatDoor
open Go.RowKit
variable (A1 A2 A3 A4 : Option Addr) (c1 c2 c3 c4 : Nat) (f : Pl.Fld)
attribute [-go_sem] run_equalIn_agg storeVar loadVar
attribute [local go_sem] lv_int lv_bool lv_u8 lv_string lv_strings lv_stas lv_pars lv_vars
set_option maxHeartbeats 8000000 in
theorem deedAllows_ok (a b:Pl.Cal)(A:Option Addr)(cy:Nat)(y:List Int)(x:Bool)(i:Int)(z:Bool)(j:Int)(w:World)(hEn:Env w)(hf:FldS w w.heap.size A1 A2 A3 A4 f)(hm:Small f)(hc:Caps c1 c2 c3 c4 f)(hka:a.kind<=255)(hkb:b.kind<=255)(hv:Hid (Pl.vast f=false))(hy:Ints w w.heap.size A y)(hym:y.length<=130)(HX:Hid (Pl.allowsV f a y=x))(HI:Hid (Pl.allowsE f a y=i))(HV:Hid (Pl.sameV f a b=z))(HE:Hid (Pl.sameE f a b=j)):
  Calls Tryz.prog 16 #[.agg (fq A1 A2 A3 A4 c1 c2 c3 c4 f),.agg (kq a),.agg (kq b),.slice A y.length cy] w fun e w'=>e=.returned (.bool true)∧Below w.heap.size w w':=by
 have g2: ¬(130:Int)<(y.length:Int):=by omega
 obtain⟨W0,hW0,kf,ka,kb,hall⟩:=box3_w A1 A2 A3 A4 c1 c2 c3 c4 f a b w
 have l01:=ld_row kf Tryz.underlying28 rfl info_fld
 have l02:=ld_row ka Tryz.underlying48 rfl info_cal
 have l03:=ld_row kb Tryz.underlying48 rfl info_cal
 go_enter Tryz.func16,Tryz.ntmps16
 go_wp2_with fail
 refine(vast_a A1 A2 A3 A4 c1 c2 c3 c4 f _ (hf.up hall) false hv).mono ?_
 rintro e w1 ⟨rfl,hx⟩
 replace kf:=kE hx kf
 replace ka:=kE hx ka
 replace kb:=kE hx kb
 replace hall:Below w.heap.size w _:=hall.trans (hx.mono hall.size)
 clear l01 l02 l03 hx
 have l01:=ld_row kf Tryz.underlying28 rfl info_fld
 have l02:=ld_row ka Tryz.underlying48 rfl info_cal
 have l03:=ld_row kb Tryz.underlying48 rfl info_cal
 go_wp2_with fail
 refine(Allows_h A1 A2 A3 A4 c1 c2 c3 c4 f a A cy y x i _ HX HI (hf.up hall) hm hc hka (hy.up hall) (by omega)).mono ?_
 rintro e w2 ⟨rfl,hx⟩
 replace kf:=kE hx kf
 replace ka:=kE hx ka
 replace kb:=kE hx kb
 replace hall:Below w.heap.size w _:=hall.trans (hx.mono hall.size)
 clear l01 l02 l03 hx
 have l01:=ld_row kf Tryz.underlying28 rfl info_fld
 have l02:=ld_row ka Tryz.underlying48 rfl info_cal
 have l03:=ld_row kb Tryz.underlying48 rfl info_cal
 go_wp2_with fail
 refine(AllowsB_h A1 A2 A3 A4 c1 c2 c3 c4 f a A cy y x i _ HX HI (hf.up hall) hm hc (hy.up hall) (by omega)).mono ?_
 rintro e w3 ⟨rfl,hx⟩
 replace kf:=kE hx kf
 replace ka:=kE hx ka
 replace kb:=kE hx kb
 replace hall:Below w.heap.size w _:=hall.trans (hx.mono hall.size)
 clear l01 l02 l03 hx
 have l01:=ld_row kf Tryz.underlying28 rfl info_fld
 have l02:=ld_row ka Tryz.underlying48 rfl info_cal
 have l03:=ld_row kb Tryz.underlying48 rfl info_cal
 go_wp2_with fail
 refine(Same_h A1 A2 A3 A4 c1 c2 c3 c4 f a b z j _ HV HE (hf.up hall) hm hc hka hkb).mono ?_
 rintro e w4 ⟨rfl,hx⟩
 replace kf:=kE hx kf
 replace ka:=kE hx ka
 replace kb:=kE hx kb
 replace hall:Below w.heap.size w _:=hall.trans (hx.mono hall.size)
 clear l01 l02 l03 hx
 have l01:=ld_row kf Tryz.underlying28 rfl info_fld
 have l02:=ld_row ka Tryz.underlying48 rfl info_cal
 have l03:=ld_row kb Tryz.underlying48 rfl info_cal
 go_wp2_with fail
 refine(SameB_h A1 A2 A3 A4 c1 c2 c3 c4 f a b z j _ HV HE (hf.up hall) hm hc).mono ?_
 rintro e w5 ⟨rfl,hx⟩
 replace kf:=kE hx kf
 replace ka:=kE hx ka
 replace kb:=kE hx kb
 replace hall:Below w.heap.size w _:=hall.trans (hx.mono hall.size)
 clear l01 l02 l03 hx
 have l01:=ld_row kf Tryz.underlying28 rfl info_fld
 have l02:=ld_row ka Tryz.underlying48 rfl info_cal
 have l03:=ld_row kb Tryz.underlying48 rfl info_cal
 go_wp2_with fail
 refine(spoken_a _ (hEn.up hall)).mono ?_
 rintro e w6 ⟨rfl,hx⟩
 replace kf:=kE hx kf
 replace ka:=kE hx ka
 replace kb:=kE hx kb
 replace hall:Below w.heap.size w _:=hall.trans (hx.mono hall.size)
 clear l01 l02 l03 hx
 have l01:=ld_row kf Tryz.underlying28 rfl info_fld
 have l02:=ld_row ka Tryz.underlying48 rfl info_cal
 have l03:=ld_row kb Tryz.underlying48 rfl info_cal
 go_wp2_with fail
 go_ret
 exact⟨by first|rfl|(simp;done),hall⟩
set_option maxHeartbeats 8000000 in
theorem deedAllows_w (a b:Pl.Cal)(A:Option Addr)(cy:Nat)(y:List Int)(w:World)(hEn:Env w)(hf:FldS w w.heap.size A1 A2 A3 A4 f)(hc:Caps c1 c2 c3 c4 f)(hka:a.kind<=255)(hkb:b.kind<=255)(hy:Ints w w.heap.size A y)(hyc:y.length<=cy)(hcm:cy<=maxLen):
  Calls Tryz.prog 16 #[.agg (fq A1 A2 A3 A4 c1 c2 c3 c4 f),.agg (kq a),.agg (kq b),.slice A y.length cy] w fun e w'=>e=.returned (.bool true)∧Below w.heap.size w w':=by
 by_cases h1:Pl.vast f=true
 ·have hv:=Lib.hid h1
  clear h1
  obtain⟨W0,hW0,kf,ka,kb,hall⟩:=box3_w A1 A2 A3 A4 c1 c2 c3 c4 f a b w
  have l01:=ld_row kf Tryz.underlying28 rfl info_fld
  have l02:=ld_row ka Tryz.underlying48 rfl info_cal
  have l03:=ld_row kb Tryz.underlying48 rfl info_cal
  go_enter Tryz.func16,Tryz.ntmps16
  go_wp2_with fail
  refine(vast_a A1 A2 A3 A4 c1 c2 c3 c4 f _ (hf.up hall) true hv).mono ?_
  rintro e w1 ⟨rfl,hx⟩
  replace kf:=kE hx kf
  replace ka:=kE hx ka
  replace kb:=kE hx kb
  replace hall:Below w.heap.size w _:=hall.trans (hx.mono hall.size)
  clear l01 l02 l03 hx
  have l01:=ld_row kf Tryz.underlying28 rfl info_fld
  have l02:=ld_row ka Tryz.underlying48 rfl info_cal
  have l03:=ld_row kb Tryz.underlying48 rfl info_cal
  go_wp2_with fail
  refine(spoken_a _ (hEn.up hall)).mono ?_
  rintro e w2 ⟨rfl,hx⟩
  replace kf:=kE hx kf
  replace ka:=kE hx ka
  replace kb:=kE hx kb
  replace hall:Below w.heap.size w _:=hall.trans (hx.mono hall.size)
  clear l01 l02 l03 hx
  have l01:=ld_row kf Tryz.underlying28 rfl info_fld
  have l02:=ld_row ka Tryz.underlying48 rfl info_cal
  have l03:=ld_row kb Tryz.underlying48 rfl info_cal
  go_wp2_with fail
  go_ret
  exact⟨rfl,hall⟩
 have h1':Pl.vast f=false:=by simpa using h1
 by_cases h2:130<y.length
 ·have hv:=Lib.hid h1'
  have hyl:y.length<=9223372036854775807:=by unfold maxLen at hcm;omega
  have e2:(130:Int)<(y.length:Int):=by omega
  clear h1 h1' h2
  obtain⟨W0,hW0,kf,ka,kb,hall⟩:=box3_w A1 A2 A3 A4 c1 c2 c3 c4 f a b w
  have l01:=ld_row kf Tryz.underlying28 rfl info_fld
  have l02:=ld_row ka Tryz.underlying48 rfl info_cal
  have l03:=ld_row kb Tryz.underlying48 rfl info_cal
  go_enter Tryz.func16,Tryz.ntmps16
  go_wp2_with fail
  refine(vast_a A1 A2 A3 A4 c1 c2 c3 c4 f _ (hf.up hall) false hv).mono ?_
  rintro e w1 ⟨rfl,hx⟩
  replace kf:=kE hx kf
  replace ka:=kE hx ka
  replace kb:=kE hx kb
  replace hall:Below w.heap.size w _:=hall.trans (hx.mono hall.size)
  clear l01 l02 l03 hx
  have l01:=ld_row kf Tryz.underlying28 rfl info_fld
  have l02:=ld_row ka Tryz.underlying48 rfl info_cal
  have l03:=ld_row kb Tryz.underlying48 rfl info_cal
  go_wp2_with fail
  refine(spoken_a _ (hEn.up hall)).mono ?_
  rintro e w2 ⟨rfl,hx⟩
  replace kf:=kE hx kf
  replace ka:=kE hx ka
  replace kb:=kE hx kb
  replace hall:Below w.heap.size w _:=hall.trans (hx.mono hall.size)
  clear l01 l02 l03 hx
  have l01:=ld_row kf Tryz.underlying28 rfl info_fld
  have l02:=ld_row ka Tryz.underlying48 rfl info_cal
  have l03:=ld_row kb Tryz.underlying48 rfl info_cal
  go_wp2_with fail
  go_ret
  exact⟨rfl,hall⟩
 exact deedAllows_ok A1 A2 A3 A4 c1 c2 c3 c4 f a b A cy y _ _ _ _ w hEn hf (Pl.vast_small h1') hc hka hkb (Lib.hid h1') hy (by omega) (Lib.hid rfl) (Lib.hid rfl) (Lib.hid rfl) (Lib.hid rfl)
end Go.Proofs.YtgbpekeoegfjpaaGreatDoor
