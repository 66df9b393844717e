/- TO in one text. -/
import Derived.Test.YtgbpekeoegfjpaaGreatDoorP9
import Derived.Test.YtgbpekeoegfjpaaGreatDoorProg
import Derived.WalkKit
import Derived.WalkLawsBesides
import Derived.WalkSpells
import Derived.Handy
import Derived.Lib.Hide
import Derived.Great.BuildSlice
import Derived.Deep.QuietTactic
import Derived.BigQuiet
import Derived.Deep.RegionHeld3
import Derived.Deep.DeepCutAuto
import Derived.Test.YtgbpekeoegfjpaaGreatDoorZ03
import Derived.Test.YtgbpekeoegfjpaaGreatDoorZ20
set_option maxRecDepth 100000
namespace Go.Proofs.YtgbpekeoegfjpaaGreatDoor
open Go.RowKit
variable (A1 A2 A3 A4 : Option Addr) (c1 c2 c3 c4 : Nat) (f : Pl.Fld)
attribute [-go_sem] run_equalIn_agg loadVar storeVar
attribute [local go_sem] lv_int lv_bool lv_u8 lv_string lv_strings sv_int sv_string sv_nms
theorem sv_stas (g i:Nat)(A:Option Addr)(n c:Nat)(w:World):(storeVar 23 ⟨g,i,none⟩ (.slice A n c)).run Tryz.prog w=(store ⟨g,i,none⟩ (.slice A n c)).run Tryz.prog w:=sv_one (by kernel_rfl) g i rfl w
theorem sv_pars (g i:Nat)(A:Option Addr)(n c:Nat)(w:World):(storeVar 25 ⟨g,i,none⟩ (.slice A n c)).run Tryz.prog w=(store ⟨g,i,none⟩ (.slice A n c)).run Tryz.prog w:=sv_one (by kernel_rfl) g i rfl w
theorem sv_vars (g i:Nat)(A:Option Addr)(n c:Nat)(w:World):(storeVar 26 ⟨g,i,none⟩ (.slice A n c)).run Tryz.prog w=(store ⟨g,i,none⟩ (.slice A n c)).run Tryz.prog w:=sv_one (by kernel_rfl) g i rfl w
theorem bs_var (a b:Int)(W:World):(Instr.buildSlice 26 1 #[(0,.agg (i2 a b))]).run Tryz.prog W=.ok (.slice (some ⟨W.heap.size,0,none⟩) 1 1) (W.alloc (.cells (i2 a b) 114)):=by go_simp
theorem bs_sta (n:ByteArray)(b:Int)(W:World):(Instr.buildSlice 23 1 #[(0,.agg #[.string n,.int .i64 b])]).run Tryz.prog W=.ok (.slice (some ⟨W.heap.size,0,none⟩) 1 1) (W.alloc (.cells #[.string n,.int .i64 b] 50)):=by go_simp
theorem bs_lim (n:ByteArray)(W:World):(Instr.buildSlice 24 1 #[(0,.string n)]).run Tryz.prog W=.ok (.slice (some ⟨W.heap.size,0,none⟩) 1 1) (W.alloc (.cells #[.string n] 9)):=by go_simp
theorem bs_par (n:ByteArray)(a b c:Int)(W:World):(Instr.buildSlice 25 1 #[(0,.agg #[.string n,.int .i64 a,.int .i64 b,.int .i64 c])]).run Tryz.prog W=.ok (.slice (some ⟨W.heap.size,0,none⟩) 1 1) (W.alloc (.cells #[.string n,.int .i64 a,.int .i64 b,.int .i64 c] 112)):=by go_simp
attribute [-go_sem] Builtin.append_ Instr.buildSlice
attribute [local go_sem] lv_stas lv_pars lv_vars sv_stas sv_pars sv_vars bs_var bs_sta bs_lim bs_par
structure AdW (w:World)(fa xa:Array Value)(W:World):Prop where
 kf:W.heap[w.heap.size]?=some (.cells fa 28 (0,0))
 kx:W.heap[w.heap.size+1]?=some (.cells xa 106 (0,0))
 kr:W.heap[w.heap.size+2]?=some (.cells #[.slice none 0 0,.slice none 0 0,.slice none 0 0,.slice none 0 0] 28 (0,0))
 all:Below w.heap.size w W
theorem AdW.upB {w:World}{fa xa:Array Value}{W W':World}(h:AdW w fa xa W)(hx:Below W.heap.size W W'):AdW w fa xa W':=
 ⟨(hx.block _ (lO h.kf)).trans h.kf,(hx.block _ (lO h.kx)).trans h.kx,(hx.block _ (lO h.kr)).trans h.kr,h.all.trans (hx.mono h.all.size)⟩
theorem AdW.drew {w:World}{fa xa:Array Value}{W:World}(h:AdW w fa xa W):AdW w fa xa W.drew:=⟨h.kf,h.kx,h.kr,h.all.drew⟩
theorem ad_w (w:World)(fa xa:Array Value):AdW w fa xa (((w.alloc (.cells fa 28)).alloc (.cells xa 106)).alloc (.cells #[.slice none 0 0,.slice none 0 0,.slice none 0 0,.slice none 0 0] 28)):=by
 have k0:=heap_alloc_new w (.cells fa 28)
 have k1:=heap_alloc_new (w.alloc (.cells fa 28)) (.cells xa 106)
 have k2:=heap_alloc_new ((w.alloc (.cells fa 28)).alloc (.cells xa 106)) (.cells #[.slice none 0 0,.slice none 0 0,.slice none 0 0,.slice none 0 0] 28)
 simp only[World.size_alloc]at k1 k2
 exact⟨(Below.heap_alloc _ _ _ (by first|(simp;done)|(simp;omega))).trans ((Below.heap_alloc _ _ _ (lO k0)).trans k0),(Below.heap_alloc _ _ _ (lO k1)).trans k1,k2,(((Below.refl _ w).alloc (Nat.le_refl _) _).alloc (by simp) _).alloc (by first|(simp;done)|(simp;omega)) _⟩
theorem ad_fin {w Wb:World}{fa xa:Array Value}(h:AdW w fa xa Wb)(j:Nat)(v:Value)(fb:Array Value)(hfb:fa.setIfInBounds j v=fb)(hs:fa.size=4)(h1:fb.all (·.oneCell')=true):
  ∃W9,(loadVar 28 ⟨w.heap.size,0,none⟩).run Tryz.prog (Wb.setCell ⟨w.heap.size,j,none⟩ v)=.ok (.agg fb) (Wb.setCell ⟨w.heap.size,j,none⟩ v)∧
   (storeVar 28 ⟨w.heap.size+2,0,none⟩ (.agg fb)).run Tryz.prog (Wb.setCell ⟨w.heap.size,j,none⟩ v)=.ok () W9∧
   (loadVar 28 ⟨w.heap.size+2,0,none⟩).run Tryz.prog W9=.ok (.agg fb) W9∧
   (∀b,w.heap.size+3<=b->b<Wb.heap.size->W9.heap[b]?=Wb.heap[b]?)∧Wb.heap.size<=W9.heap.size∧Below w.heap.size w W9:=by
 have k0:=heap_setCell_same Wb w.heap.size j _ _ v h.kf
 have hi4:(Tryz.prog.info? 28).map (·.size)=some fb.size:=by rw[<-hfb,Array.size_setIfInBounds,hs];exact info_fld
 have kr:=(Below.heap_setCell Wb ⟨w.heap.size,j,none⟩ v (w.heap.size+2) (by simp)).trans h.kr
 rw[hfb]at k0
 obtain⟨W9,st,k9,hg⟩:=st_row (Wb.setCell ⟨w.heap.size,j,none⟩ v) (w.heap.size+2) 28 28 #[.slice none 0 0,.slice none 0 0,.slice none 0 0,.slice none 0 0] fb kr hi4 (by rw[<-hfb];simp[hs]) h1
 have hsz:(Wb.setCell ⟨w.heap.size,j,none⟩ v).heap.size=Wb.heap.size:=by simp
 refine⟨W9,ld_row k0 Tryz.underlying28 rfl hi4,st,ld_row k9 Tryz.underlying28 rfl hi4,fun b hb1 hb2=> ?_,?_,?_⟩
 ·rw[hg.block b (by rw[hsz];exact hb2) (by simp;omega),Below.heap_setCell _ _ _ _ (by simp;omega)]
 ·rw[<-hsz];exact hg.size
 ·exact(h.all.setCell (p:=⟨w.heap.size,j,none⟩) (Nat.le_refl _) v).grown hg (by rw[hsz];exact h.all.size) (fun i e=>by cases e;omega)
theorem ad_same {w Wb:World}{fa xa:Array Value}(h:AdW w fa xa Wb)(hs:fa.size=4)(h1:fa.all (·.oneCell')=true):
  ∃W9,(loadVar 28 ⟨w.heap.size,0,none⟩).run Tryz.prog Wb=.ok (.agg fa) Wb∧
   (storeVar 28 ⟨w.heap.size+2,0,none⟩ (.agg fa)).run Tryz.prog Wb=.ok () W9∧
   (loadVar 28 ⟨w.heap.size+2,0,none⟩).run Tryz.prog W9=.ok (.agg fa) W9∧Below w.heap.size w W9:=by
 have hi4:(Tryz.prog.info? 28).map (·.size)=some fa.size:=by rw[hs];exact info_fld
 obtain⟨W9,st,k9,hg⟩:=st_row Wb (w.heap.size+2) 28 28 #[.slice none 0 0,.slice none 0 0,.slice none 0 0,.slice none 0 0] fa h.kr hi4 (by simp[hs]) h1
 exact⟨W9,ld_row h.kf Tryz.underlying28 rfl hi4,st,ld_row k9 Tryz.underlying28 rfl hi4,h.all.grown hg h.all.size (fun i e=>by cases e;omega)⟩
theorem seg_same {α:Type}{enc:α->List Value}{size:Nat}{W W':World}{B B' g:Nat}{l:List α}(h:Seg enc size W B (some ⟨g,0,none⟩) l)(hg:g<B->W'.heap[g]?=W.heap[g]?)(hB:B<=B'):Seg enc size W' B' (some ⟨g,0,none⟩) l:=by
 rcases h with h|⟨b,off,hA,hb,hc⟩
 ·exact .inl h
 ·cases hA
  exact .inr ⟨_,_,rfl,by omega,fun k x hx j v hv=>(World.cell?_of_block (hg hb)).trans (hc k x hx j v hv)⟩
def EndAd (r:Except Int Pl.Fld)(A1 A2 A3 A4:Option Addr)(w:World)(e:Ending)(w':World):Prop:=
 ∃B1 B2 B3 B4 d1 d2 d3 d4,∃(g:Pl.Fld) (E:Int),e=.returned (.tuple #[.agg (fq B1 B2 B3 B4 d1 d2 d3 d4 g),.int .i64 E])∧
  ((r=.ok g∧E=0)∨(r=.error E∧E≠0))∧FldS w' w'.heap.size B1 B2 B3 B4 g∧Caps d1 d2 d3 d4 g∧
  (∀n,n<=w.heap.size->From n A1->From n A2->From n A3->From n A4->From n B1∧From n B2∧From n B3∧From n B4)∧Below w.heap.size w w'
set_option maxHeartbeats 16000000 in
theorem ad_var (n:ByteArray)(y e0:Int)(w:World)(hf:FldS w w.heap.size A1 A2 A3 A4 f)(hc:Caps c1 c2 c3 c4 f)(hl:f.va.length<=100000):
  Calls Tryz.prog 77 #[.agg (fq A1 A2 A3 A4 c1 c2 c3 c4 f),.agg #[.string ⟨#[118,97,114,105,97,116,105,111,110]⟩,.string n,.slice none 0 0,.int .i64 y,.int .i64 e0]] w (EndAd (Pl.added f (.variation y e0)) A1 A2 A3 A4 w):=by
 have H:=ad_w w (fq A1 A2 A3 A4 c1 c2 c3 c4 f) #[.string ⟨#[118,97,114,105,97,116,105,111,110]⟩,.string n,.slice none 0 0,.int .i64 y,.int .i64 e0]
 obtain⟨W0,hW0⟩: ∃W,(((w.alloc (.cells (fq A1 A2 A3 A4 c1 c2 c3 c4 f) 28)).alloc (.cells #[.string ⟨#[118,97,114,105,97,116,105,111,110]⟩,.string n,.slice none 0 0,.int .i64 y,.int .i64 e0] 106)).alloc (.cells #[.slice none 0 0,.slice none 0 0,.slice none 0 0,.slice none 0 0] 28))=W:=⟨_,rfl⟩
 rw[hW0]at H
 have HS:=Lib.hid (show W0.heap.size=w.heap.size+3 by rw[<-hW0];simp)
 have HW:Hid (w.heap.size+3<=W0.drew.heap.size):=Lib.hid (Nat.le_of_eq HS.out.symm)
 have HG:Hid (w.heap.size<=W0.drew.heap.size):=Lib.hid (Nat.le_trans (by omega) HW.out)
 have bs0:=fun W=>bs_nil lay_var W
 obtain⟨hcf,hff⟩:=blk_cells H.kf
 obtain⟨hcx,hfx⟩:=blk_cells H.kx
 go_enter Tryz.func77,Tryz.ntmps77
 go_wp2
 obtain⟨g1A,d1A,W1A,g2A,d2A,W2A,raA,rbA,hbaA,CA⟩:=copy_A (W:=W0.drew) (A:=A4) (c:=c4) (l:=f.va) (x:=(y,e0)) (cs:=(i2 y e0)) lay_var (hf.va.up H.drew.all) (by omega) (by omega) (by simp[encVar])
 obtain⟨g1B,d1B,W1B,g2B,d2B,W2B,raB,rbB,hbaB,CB⟩:=copy_B (W:=W0.drew) (A:=A4) (c:=c4) (l:=f.va) (x:=(y,e0)) (cs:=(i2 y e0)) lay_var (hf.va.up H.drew.all) (by omega) (by omega) (by simp[encVar])
 obtain⟨g1C,d1C,W1C,g2C,d2C,W2C,raC,rbC,hbaC,CC⟩:=copy_C (W:=W0.drew) (A:=A4) (c:=c4) (l:=f.va) (x:=(y,e0)) (cs:=(i2 y e0)) lay_var (hf.va.up H.drew.all) (by omega) (by omega) (by simp[encVar])
 have raA:(Builtin.append_ #[26,26] 26 #[.slice (some ⟨W0.heap.size,0,none⟩) 0 0,.slice A4 f.va.length c4]).run Tryz.prog (W0.alloc (.cells #[] 114)).drew=.ok (.slice (some ⟨g1A,0,none⟩) f.va.length d1A) W1A:=raA
 have raB:(Builtin.append_ #[26,26] 26 #[.slice (some ⟨W0.heap.size,0,none⟩) 0 0,.slice A4 f.va.length c4]).run Tryz.prog ((W0.alloc (.cells #[] 114)).alloc (.cells (i2 y e0) 114)).drew=.ok (.slice (some ⟨g1B,0,none⟩) f.va.length d1B) W1B:=raB
 have raC:(Builtin.append_ #[26,26] 26 #[.slice (some ⟨W0.heap.size+1,0,none⟩) 0 0,.slice A4 f.va.length c4]).run Tryz.prog ((W0.alloc (.cells (i2 y e0) 114)).alloc (.cells #[] 114)).drew=.ok (.slice (some ⟨g1C,0,none⟩) f.va.length d1C) W1C:=raC
 have rbB:(Builtin.append_ #[26,26] 26 #[.slice (some ⟨g1B,0,none⟩) f.va.length d1B,.slice (some ⟨W0.heap.size+1,0,none⟩) 1 1]).run Tryz.prog W1B=.ok (.slice (some ⟨g2B,0,none⟩) (f.va.length+1) d2B) W2B:=rbB
 have rbC:(Builtin.append_ #[26,26] 26 #[.slice (some ⟨g1C,0,none⟩) f.va.length d1C,.slice (some ⟨W0.heap.size,0,none⟩) 1 1]).run Tryz.prog W1C=.ok (.slice (some ⟨g2C,0,none⟩) (f.va.length+1) d2C) W2C:=rbC
 have H2A:=H.drew.upB CA.all
 have H1A:=H.drew.upB hbaA
 obtain⟨W9A,lbA,stA,l9A,hkA,hzA,hBA⟩:=ad_fin H2A 3 (.slice (some ⟨g2A,0,none⟩) (f.va.length+1) d2A) #[.slice A1 f.st.length c1,.slice A2 f.li.length c2,.slice A3 f.pa.length c3,.slice (some ⟨g2A,0,none⟩) (f.va.length+1) d2A] rfl rfl (by simp[Value.oneCell'])
 obtain⟨hcbA,hfbA⟩:=blk_cells H2A.kf
 have H2B:=H.drew.upB CB.all
 obtain⟨W9B,lbB,stB,l9B,hkB,hzB,hBB⟩:=ad_fin H2B 3 (.slice (some ⟨g2B,0,none⟩) (f.va.length+1) d2B) #[.slice A1 f.st.length c1,.slice A2 f.li.length c2,.slice A3 f.pa.length c3,.slice (some ⟨g2B,0,none⟩) (f.va.length+1) d2B] rfl rfl (by simp[Value.oneCell'])
 obtain⟨hcbB,hfbB⟩:=blk_cells H2B.kf
 have H2C:=H.drew.upB CC.all
 obtain⟨W9C,lbC,stC,l9C,hkC,hzC,hBC⟩:=ad_fin H2C 3 (.slice (some ⟨g2C,0,none⟩) (f.va.length+1) d2C) #[.slice A1 f.st.length c1,.slice A2 f.li.length c2,.slice A3 f.pa.length c3,.slice (some ⟨g2C,0,none⟩) (f.va.length+1) d2C] rfl rfl (by simp[Value.oneCell'])
 obtain⟨hcbC,hfbC⟩:=blk_cells H2C.kf
 have q0:=H.drew
 have q1:=(H.upB (((Below.refl _ W0).alloc (Nat.le_refl _) (.cells #[] 114)))).drew
 have q3:=(H.upB (((Below.refl _ W0).alloc (Nat.le_refl _) (.cells (i2 y e0) 114)))).drew
 have q2:=(H.upB ((((Below.refl _ W0).alloc (Nat.le_refl _) (.cells #[] 114)).alloc (by simp) (.cells (i2 y e0) 114)))).drew
 have q4:=(H.upB ((((Below.refl _ W0).alloc (Nat.le_refl _) (.cells (i2 y e0) 114)).alloc (by simp) (.cells #[] 114)))).drew
 have f0:(W0).cell? ⟨w.heap.size,3,none⟩=some (.slice A4 f.va.length c4):=(blk_cells q0.kf).1 3
 have f1:((W0.alloc (.cells #[] 114))).cell? ⟨w.heap.size,3,none⟩=some (.slice A4 f.va.length c4):=(blk_cells q1.kf).1 3
 have f2:((W0.alloc (.cells (i2 y e0) 114))).cell? ⟨w.heap.size,3,none⟩=some (.slice A4 f.va.length c4):=(blk_cells q3.kf).1 3
 have f3:(((W0.alloc (.cells #[] 114)).alloc (.cells (i2 y e0) 114))).cell? ⟨w.heap.size,3,none⟩=some (.slice A4 f.va.length c4):=(blk_cells q2.kf).1 3
 have f4:(((W0.alloc (.cells (i2 y e0) 114)).alloc (.cells #[] 114))).cell? ⟨w.heap.size,3,none⟩=some (.slice A4 f.va.length c4):=(blk_cells q4.kf).1 3
 have p0:=H1A.upB ((Below.refl _ W1A).alloc (Nat.le_refl _) (.cells (i2 y e0) 114))
 have H1B:=H.drew.upB hbaB
 have H1C:=H.drew.upB hbaC
 have z1:=(Below.heap_setCell W2A ⟨w.heap.size,3,none⟩ (.slice (some ⟨g2A,0,none⟩) (f.va.length+1) d2A) (w.heap.size+1) (by simp)).trans H2A.kx
 have z2:=(Below.heap_setCell W2B ⟨w.heap.size,3,none⟩ (.slice (some ⟨g2B,0,none⟩) (f.va.length+1) d2B) (w.heap.size+1) (by simp)).trans H2B.kx
 have z3:=(Below.heap_setCell W2C ⟨w.heap.size,3,none⟩ (.slice (some ⟨g2C,0,none⟩) (f.va.length+1) d2C) (w.heap.size+1) (by simp)).trans H2C.kx
 have finA:EndAd (Pl.added f (.variation y e0)) A1 A2 A3 A4 w (.returned (.tuple #[.agg #[.slice A1 f.st.length c1,.slice A2 f.li.length c2,.slice A3 f.pa.length c3,.slice (some ⟨g2A,0,none⟩) (f.va.length+1) d2A],.int .i64 0])) W9A:=
  ⟨A1,A2,A3,some ⟨g2A,0,none⟩,c1,c2,c3,d2A,{f with va:=f.va++[(y,e0)]},0,by simp,.inl ⟨rfl,rfl⟩,⟨hf.st.up hBA,hf.li.up hBA,hf.pa.up hBA,seg_same CA.seg (fun hg=>hkA _ (Nat.le_trans HW.out CA.new) hg) hzA⟩,⟨hc.st,hc.li,hc.pa,CA.cap⟩,fun n hn r1 r2 r3 r4=>⟨r1,r2,r3,fun a e=>by cases e;exact Nat.le_trans (Nat.le_trans hn (HG.out)) CA.new⟩,hBA⟩
 have finB:EndAd (Pl.added f (.variation y e0)) A1 A2 A3 A4 w (.returned (.tuple #[.agg #[.slice A1 f.st.length c1,.slice A2 f.li.length c2,.slice A3 f.pa.length c3,.slice (some ⟨g2B,0,none⟩) (f.va.length+1) d2B],.int .i64 0])) W9B:=
  ⟨A1,A2,A3,some ⟨g2B,0,none⟩,c1,c2,c3,d2B,{f with va:=f.va++[(y,e0)]},0,by simp,.inl ⟨rfl,rfl⟩,⟨hf.st.up hBB,hf.li.up hBB,hf.pa.up hBB,seg_same CB.seg (fun hg=>hkB _ (Nat.le_trans HW.out CB.new) hg) hzB⟩,⟨hc.st,hc.li,hc.pa,CB.cap⟩,fun n hn r1 r2 r3 r4=>⟨r1,r2,r3,fun a e=>by cases e;exact Nat.le_trans (Nat.le_trans hn (HG.out)) CB.new⟩,hBB⟩
 have finC:EndAd (Pl.added f (.variation y e0)) A1 A2 A3 A4 w (.returned (.tuple #[.agg #[.slice A1 f.st.length c1,.slice A2 f.li.length c2,.slice A3 f.pa.length c3,.slice (some ⟨g2C,0,none⟩) (f.va.length+1) d2C],.int .i64 0])) W9C:=
  ⟨A1,A2,A3,some ⟨g2C,0,none⟩,c1,c2,c3,d2C,{f with va:=f.va++[(y,e0)]},0,by simp,.inl ⟨rfl,rfl⟩,⟨hf.st.up hBC,hf.li.up hBC,hf.pa.up hBC,seg_same CC.seg (fun hg=>hkC _ (Nat.le_trans HW.out CC.new) hg) hzC⟩,⟨hc.st,hc.li,hc.pa,CC.cap⟩,fun n hn r1 r2 r3 r4=>⟨r1,r2,r3,fun a e=>by cases e;exact Nat.le_trans (Nat.le_trans hn (HG.out)) CC.new⟩,hBC⟩
 refine wp_region_held_drew (S:=fun W=>W.cell? ⟨w.heap.size+1,3,none⟩=some (.int .i64 y)∧W.cell? ⟨w.heap.size+1,4,none⟩=some (.int .i64 e0)) (by kernel_rfl) (⟨(blk_cells q0.kx).1 3,(blk_cells q0.kx).1 4⟩) (fun hHeld=> ?_)
 refine takeH 1 (some 14) (v:= ?_) rfl rfl (by kernel_rfl) (by kernel_rfl) (by kernel_rfl) (fun _ _ _ h=>h) (Or.inl ⟨by rfl,fun W hW=> ?_⟩) (by assumption) ?_
 rotate_left
 ·(try dsimp only at hW);obtain⟨s0',s1'⟩:=hW;go_simp;try with_reducible rfl
 try simp only[Act.put,List.setIfInBounds_toArray,List.set_cons_zero,List.set_cons_succ]
 refine takeH 4 (some 17) (v:= ?_) rfl rfl (by kernel_rfl) (by kernel_rfl) (by kernel_rfl) (fun _ _ _ h=>h) (Or.inl ⟨by rfl,fun W hW=> ?_⟩) (by assumption) ?_
 rotate_left
 ·(try dsimp only at hW);obtain⟨s0',s1'⟩:=hW;go_simp;try with_reducible rfl
 try simp only[Act.put,List.setIfInBounds_toArray,List.set_cons_zero,List.set_cons_succ]
 refine takeH 5 (some 18) (v:= ?_) rfl rfl (by kernel_rfl) (by kernel_rfl) (by kernel_rfl) (fun _ _ _ h=>h) (Or.inl ⟨by rfl,fun W hW=> ?_⟩) (by assumption) ?_
 rotate_left
 ·(try dsimp only at hW);obtain⟨s0',s1'⟩:=hW;go_simp;try with_reducible rfl
 try simp only[Act.put,List.setIfInBounds_toArray,List.set_cons_zero,List.set_cons_succ]
 refine takeH 6 (some 19) (v:= ?_) rfl rfl (by kernel_rfl) (by kernel_rfl) (by kernel_rfl) (fun _ _ _ h=>h) (Or.inl ⟨by rfl,fun W hW=> ?_⟩) (by assumption) ?_
 rotate_left
 ·(try dsimp only at hW);obtain⟨s0',s1'⟩:=hW;go_simp;try with_reducible rfl
 try simp only[Act.put,List.setIfInBounds_toArray,List.set_cons_zero,List.set_cons_succ]
 refine takeH 7 (some 20) (v:= ?_) rfl rfl (by kernel_rfl) (by kernel_rfl) (by kernel_rfl) (fun _ _ _ h=>h) (Or.inl ⟨by rfl,fun W hW=> ?_⟩) (by assumption) ?_
 rotate_left
 ·(try dsimp only at hW);obtain⟨s0',s1'⟩:=hW;go_simp;try with_reducible rfl
 try simp only[Act.put,List.setIfInBounds_toArray,List.set_cons_zero,List.set_cons_succ]
 refine takeH 8 (some 21) (v:= ?_) rfl rfl (by kernel_rfl) (by kernel_rfl) (by kernel_rfl) (fun _ _ _ h=>h) (Or.inl ⟨by rfl,fun W hW=> ?_⟩) (by assumption) ?_
 rotate_left
 ·(try dsimp only at hW);obtain⟨s0',s1'⟩:=hW;go_simp;try with_reducible rfl
 try simp only[Act.put,List.setIfInBounds_toArray,List.set_cons_zero,List.set_cons_succ]
 refine wpAnyH_ready (rs:=[0,2,9]) (by kernel_rfl) (by simp) ?_;refine readyH (some 13) rfl rfl (fun K hK=> ?_) (readyH (some 15) rfl rfl (fun K hK=> ?_) (readyH (some 22) rfl rfl (fun K hK=> ?_) AllReadyH.nil))
 all_goals (
  go_simp
  refine hK.out _ _ ?_ (fun hHeld=> ?_)
  first|exact⟨(blk_cells q0.kx).1 3,(blk_cells q0.kx).1 4⟩|exact⟨(blk_cells q1.kx).1 3,(blk_cells q1.kx).1 4⟩|exact⟨(blk_cells q2.kx).1 3,(blk_cells q2.kx).1 4⟩|exact⟨(blk_cells q3.kx).1 3,(blk_cells q3.kx).1 4⟩|exact⟨(blk_cells q4.kx).1 3,(blk_cells q4.kx).1 4⟩|exact⟨(blk_cells H1A.kx).1 3,(blk_cells H1A.kx).1 4⟩|exact⟨(blk_cells p0.kx).1 3,(blk_cells p0.kx).1 4⟩|exact⟨(blk_cells H1B.kx).1 3,(blk_cells H1B.kx).1 4⟩|exact⟨(blk_cells H1C.kx).1 3,(blk_cells H1C.kx).1 4⟩|exact⟨(blk_cells H2A.kx).1 3,(blk_cells H2A.kx).1 4⟩|exact⟨(blk_cells H2B.kx).1 3,(blk_cells H2B.kx).1 4⟩|exact⟨(blk_cells H2C.kx).1 3,(blk_cells H2C.kx).1 4⟩|exact⟨(blk_cells z1).1 3,(blk_cells z1).1 4⟩|exact⟨(blk_cells z2).1 3,(blk_cells z2).1 4⟩|exact⟨(blk_cells z3).1 3,(blk_cells z3).1 4⟩
  clear hK K
  try simp only[Act.put,List.setIfInBounds_toArray,List.set_cons_zero,List.set_cons_succ])
 refine wpAnyH_ready (rs:=[2,9]) (by kernel_rfl) (by simp) ?_;refine readyH (some 15) rfl rfl (fun K hK=> ?_) (readyH (some 22) rfl rfl (fun K hK=> ?_) AllReadyH.nil)
 rotate_left 2
 refine wpAnyH_ready (rs:=[0,9]) (by kernel_rfl) (by simp) ?_;refine readyH (some 13) rfl rfl (fun K hK=> ?_) (readyH (some 22) rfl rfl (fun K hK=> ?_) AllReadyH.nil)
 rotate_left 2
 refine wpAnyH_ready (rs:=[0,2]) (by kernel_rfl) (by simp) ?_;refine readyH (some 13) rfl rfl (fun K hK=> ?_) (readyH (some 15) rfl rfl (fun K hK=> ?_) AllReadyH.nil)
 rotate_left 2
 all_goals (
  go_simp
  refine hK.out _ _ ?_ (fun hHeld=> ?_)
  first|exact⟨(blk_cells q0.kx).1 3,(blk_cells q0.kx).1 4⟩|exact⟨(blk_cells q1.kx).1 3,(blk_cells q1.kx).1 4⟩|exact⟨(blk_cells q2.kx).1 3,(blk_cells q2.kx).1 4⟩|exact⟨(blk_cells q3.kx).1 3,(blk_cells q3.kx).1 4⟩|exact⟨(blk_cells q4.kx).1 3,(blk_cells q4.kx).1 4⟩|exact⟨(blk_cells H1A.kx).1 3,(blk_cells H1A.kx).1 4⟩|exact⟨(blk_cells p0.kx).1 3,(blk_cells p0.kx).1 4⟩|exact⟨(blk_cells H1B.kx).1 3,(blk_cells H1B.kx).1 4⟩|exact⟨(blk_cells H1C.kx).1 3,(blk_cells H1C.kx).1 4⟩|exact⟨(blk_cells H2A.kx).1 3,(blk_cells H2A.kx).1 4⟩|exact⟨(blk_cells H2B.kx).1 3,(blk_cells H2B.kx).1 4⟩|exact⟨(blk_cells H2C.kx).1 3,(blk_cells H2C.kx).1 4⟩|exact⟨(blk_cells z1).1 3,(blk_cells z1).1 4⟩|exact⟨(blk_cells z2).1 3,(blk_cells z2).1 4⟩|exact⟨(blk_cells z3).1 3,(blk_cells z3).1 4⟩
  clear hK K
  try simp only[Act.put,List.setIfInBounds_toArray,List.set_cons_zero,List.set_cons_succ])
 refine wpAnyH_ready (rs:=[3,9]) (by kernel_rfl) (by simp) ?_;refine readyH (some 16) rfl rfl (fun K hK=> ?_) (readyH (some 22) rfl rfl (fun K hK=> ?_) AllReadyH.nil)
 rotate_left 2
 refine wpAnyH_ready (rs:=[2]) (by kernel_rfl) (by simp) ?_;refine readyH (some 15) rfl rfl (fun K hK=> ?_) AllReadyH.nil
 rotate_left 1
 refine wpAnyH_ready (rs:=[3,9]) (by kernel_rfl) (by simp) ?_;refine readyH (some 16) rfl rfl (fun K hK=> ?_) (readyH (some 22) rfl rfl (fun K hK=> ?_) AllReadyH.nil)
 rotate_left 2
 refine wpAnyH_ready (rs:=[0]) (by kernel_rfl) (by simp) ?_;refine readyH (some 13) rfl rfl (fun K hK=> ?_) AllReadyH.nil
 rotate_left 1
 refine wpAnyH_ready (rs:=[2]) (by kernel_rfl) (by simp) ?_;refine readyH (some 15) rfl rfl (fun K hK=> ?_) AllReadyH.nil
 rotate_left 1
 refine wpAnyH_ready (rs:=[0]) (by kernel_rfl) (by simp) ?_;refine readyH (some 13) rfl rfl (fun K hK=> ?_) AllReadyH.nil
 rotate_left 1
 all_goals (
  go_simp
  refine hK.out _ _ ?_ (fun hHeld=> ?_)
  first|exact⟨(blk_cells q0.kx).1 3,(blk_cells q0.kx).1 4⟩|exact⟨(blk_cells q1.kx).1 3,(blk_cells q1.kx).1 4⟩|exact⟨(blk_cells q2.kx).1 3,(blk_cells q2.kx).1 4⟩|exact⟨(blk_cells q3.kx).1 3,(blk_cells q3.kx).1 4⟩|exact⟨(blk_cells q4.kx).1 3,(blk_cells q4.kx).1 4⟩|exact⟨(blk_cells H1A.kx).1 3,(blk_cells H1A.kx).1 4⟩|exact⟨(blk_cells p0.kx).1 3,(blk_cells p0.kx).1 4⟩|exact⟨(blk_cells H1B.kx).1 3,(blk_cells H1B.kx).1 4⟩|exact⟨(blk_cells H1C.kx).1 3,(blk_cells H1C.kx).1 4⟩|exact⟨(blk_cells H2A.kx).1 3,(blk_cells H2A.kx).1 4⟩|exact⟨(blk_cells H2B.kx).1 3,(blk_cells H2B.kx).1 4⟩|exact⟨(blk_cells H2C.kx).1 3,(blk_cells H2C.kx).1 4⟩|exact⟨(blk_cells z1).1 3,(blk_cells z1).1 4⟩|exact⟨(blk_cells z2).1 3,(blk_cells z2).1 4⟩|exact⟨(blk_cells z3).1 3,(blk_cells z3).1 4⟩
  clear hK K
  try simp only[Act.put,List.setIfInBounds_toArray,List.set_cons_zero,List.set_cons_succ])
 refine wpAnyH_ready (rs:=[9]) (by kernel_rfl) (by simp) ?_;refine readyH (some 22) rfl rfl (fun K hK=> ?_) AllReadyH.nil
 rotate_left 1
 refine wpAnyH_ready (rs:=[3]) (by kernel_rfl) (by simp) ?_;refine readyH (some 16) rfl rfl (fun K hK=> ?_) AllReadyH.nil
 rotate_left 1
 refine wpAnyH_ready (rs:=[3]) (by kernel_rfl) (by simp) ?_;refine readyH (some 16) rfl rfl (fun K hK=> ?_) AllReadyH.nil
 rotate_left 1
 refine wpAnyH_ready (rs:=[9]) (by kernel_rfl) (by simp) ?_;refine readyH (some 22) rfl rfl (fun K hK=> ?_) AllReadyH.nil
 rotate_left 1
 refine wpAnyH_ready (rs:=[3]) (by kernel_rfl) (by simp) ?_;refine readyH (some 16) rfl rfl (fun K hK=> ?_) AllReadyH.nil
 rotate_left 1
 refine wpAnyH_ready (rs:=[3]) (by kernel_rfl) (by simp) ?_;refine readyH (some 16) rfl rfl (fun K hK=> ?_) AllReadyH.nil
 rotate_left 1
 refine wpAnyH_ready (rs:=[3]) (by kernel_rfl) (by simp) ?_;refine readyH (some 16) rfl rfl (fun K hK=> ?_) AllReadyH.nil
 rotate_left 1
 refine wpAnyH_ready (rs:=[3]) (by kernel_rfl) (by simp) ?_;refine readyH (some 16) rfl rfl (fun K hK=> ?_) AllReadyH.nil
 rotate_left 1
 all_goals (
  go_simp
  refine hK.out _ _ ?_ (fun hHeld=> ?_)
  first|exact⟨(blk_cells q0.kx).1 3,(blk_cells q0.kx).1 4⟩|exact⟨(blk_cells q1.kx).1 3,(blk_cells q1.kx).1 4⟩|exact⟨(blk_cells q2.kx).1 3,(blk_cells q2.kx).1 4⟩|exact⟨(blk_cells q3.kx).1 3,(blk_cells q3.kx).1 4⟩|exact⟨(blk_cells q4.kx).1 3,(blk_cells q4.kx).1 4⟩|exact⟨(blk_cells H1A.kx).1 3,(blk_cells H1A.kx).1 4⟩|exact⟨(blk_cells p0.kx).1 3,(blk_cells p0.kx).1 4⟩|exact⟨(blk_cells H1B.kx).1 3,(blk_cells H1B.kx).1 4⟩|exact⟨(blk_cells H1C.kx).1 3,(blk_cells H1C.kx).1 4⟩|exact⟨(blk_cells H2A.kx).1 3,(blk_cells H2A.kx).1 4⟩|exact⟨(blk_cells H2B.kx).1 3,(blk_cells H2B.kx).1 4⟩|exact⟨(blk_cells H2C.kx).1 3,(blk_cells H2C.kx).1 4⟩|exact⟨(blk_cells z1).1 3,(blk_cells z1).1 4⟩|exact⟨(blk_cells z2).1 3,(blk_cells z2).1 4⟩|exact⟨(blk_cells z3).1 3,(blk_cells z3).1 4⟩
  clear hK K
  try simp only[Act.put,List.setIfInBounds_toArray,List.set_cons_zero,List.set_cons_succ])
 all_goals (refine wpAnyH_ready (rs:=[10]) (by kernel_rfl) (by simp) ?_;refine readyH (some 23) rfl rfl (fun K hK=> ?_) AllReadyH.nil)
 all_goals (
  go_simp
  refine hK.out _ _ ?_ (fun hHeld=> ?_)
  first|exact⟨(blk_cells q0.kx).1 3,(blk_cells q0.kx).1 4⟩|exact⟨(blk_cells q1.kx).1 3,(blk_cells q1.kx).1 4⟩|exact⟨(blk_cells q2.kx).1 3,(blk_cells q2.kx).1 4⟩|exact⟨(blk_cells q3.kx).1 3,(blk_cells q3.kx).1 4⟩|exact⟨(blk_cells q4.kx).1 3,(blk_cells q4.kx).1 4⟩|exact⟨(blk_cells H1A.kx).1 3,(blk_cells H1A.kx).1 4⟩|exact⟨(blk_cells p0.kx).1 3,(blk_cells p0.kx).1 4⟩|exact⟨(blk_cells H1B.kx).1 3,(blk_cells H1B.kx).1 4⟩|exact⟨(blk_cells H1C.kx).1 3,(blk_cells H1C.kx).1 4⟩|exact⟨(blk_cells H2A.kx).1 3,(blk_cells H2A.kx).1 4⟩|exact⟨(blk_cells H2B.kx).1 3,(blk_cells H2B.kx).1 4⟩|exact⟨(blk_cells H2C.kx).1 3,(blk_cells H2C.kx).1 4⟩|exact⟨(blk_cells z1).1 3,(blk_cells z1).1 4⟩|exact⟨(blk_cells z2).1 3,(blk_cells z2).1 4⟩|exact⟨(blk_cells z3).1 3,(blk_cells z3).1 4⟩
  clear hK K
  try simp only[Act.put,List.setIfInBounds_toArray,List.set_cons_zero,List.set_cons_succ])
 all_goals (
  refine takeH 11 (some 24) (v:= ?_) rfl rfl (by kernel_rfl) (by kernel_rfl) (by kernel_rfl) (fun _ _ _ h=>h) (Or.inl ⟨by rfl,fun W hW=> ?_⟩) (by assumption) ?_
  rotate_left
  ·(try dsimp only at hW);obtain⟨s0',s1'⟩:=hW;go_simp;try with_reducible rfl
  try simp only[Act.put,List.setIfInBounds_toArray,List.set_cons_zero,List.set_cons_succ])
 all_goals (refine wpAnyH_ready (rs:=[12]) (by kernel_rfl) (by simp) ?_;refine readyH none rfl rfl (fun K hK=> ?_) AllReadyH.nil)
 all_goals (
  go_simp
  refine hK.out _ _ ?_ (fun hHeld=> ?_)
  first|exact⟨(blk_cells q0.kx).1 3,(blk_cells q0.kx).1 4⟩|exact⟨(blk_cells q1.kx).1 3,(blk_cells q1.kx).1 4⟩|exact⟨(blk_cells q2.kx).1 3,(blk_cells q2.kx).1 4⟩|exact⟨(blk_cells q3.kx).1 3,(blk_cells q3.kx).1 4⟩|exact⟨(blk_cells q4.kx).1 3,(blk_cells q4.kx).1 4⟩|exact⟨(blk_cells H1A.kx).1 3,(blk_cells H1A.kx).1 4⟩|exact⟨(blk_cells p0.kx).1 3,(blk_cells p0.kx).1 4⟩|exact⟨(blk_cells H1B.kx).1 3,(blk_cells H1B.kx).1 4⟩|exact⟨(blk_cells H1C.kx).1 3,(blk_cells H1C.kx).1 4⟩|exact⟨(blk_cells H2A.kx).1 3,(blk_cells H2A.kx).1 4⟩|exact⟨(blk_cells H2B.kx).1 3,(blk_cells H2B.kx).1 4⟩|exact⟨(blk_cells H2C.kx).1 3,(blk_cells H2C.kx).1 4⟩|exact⟨(blk_cells z1).1 3,(blk_cells z1).1 4⟩|exact⟨(blk_cells z2).1 3,(blk_cells z2).1 4⟩|exact⟨(blk_cells z3).1 3,(blk_cells z3).1 4⟩
  clear hK K
  try simp only[Act.put,List.setIfInBounds_toArray,List.set_cons_zero,List.set_cons_succ])
 all_goals refine wpAnyH_done (by kernel_rfl) ?_ _
 all_goals go_wp2_with fail
 all_goals first|(refine bodyPost_ret (v:=.tuple #[.agg #[.slice A1 f.st.length c1,.slice A2 f.li.length c2,.slice A3 f.pa.length c3,.slice (some ⟨g2A,0,none⟩) (f.va.length+1) d2A],.int .i64 0]) (by simp[results,Tryz.results77,go_sem,l9A]) rfl ?_;exact finA)|(refine bodyPost_ret (v:=.tuple #[.agg #[.slice A1 f.st.length c1,.slice A2 f.li.length c2,.slice A3 f.pa.length c3,.slice (some ⟨g2B,0,none⟩) (f.va.length+1) d2B],.int .i64 0]) (by simp[results,Tryz.results77,go_sem,l9B]) rfl ?_;exact finB)|(refine bodyPost_ret (v:=.tuple #[.agg #[.slice A1 f.st.length c1,.slice A2 f.li.length c2,.slice A3 f.pa.length c3,.slice (some ⟨g2C,0,none⟩) (f.va.length+1) d2C],.int .i64 0]) (by simp[results,Tryz.results77,go_sem,l9C]) rfl ?_;exact finC)
set_option maxHeartbeats 16000000 in
theorem ad_sta (n:ByteArray)(y:Int)(w:World)(hf:FldS w w.heap.size A1 A2 A3 A4 f)(hc:Caps c1 c2 c3 c4 f)(hl:f.st.length<=100000):
  Calls Tryz.prog 77 #[.agg (fq A1 A2 A3 A4 c1 c2 c3 c4 f),.agg #[.string ⟨#[115,116,97,116,105,111,110]⟩,.string n,.slice none 0 0,.int .i64 y,.int .i64 0]] w (EndAd (Pl.added f (.station n y)) A1 A2 A3 A4 w):=by
 have H:=ad_w w (fq A1 A2 A3 A4 c1 c2 c3 c4 f) #[.string ⟨#[115,116,97,116,105,111,110]⟩,.string n,.slice none 0 0,.int .i64 y,.int .i64 0]
 obtain⟨W0,hW0⟩: ∃W,(((w.alloc (.cells (fq A1 A2 A3 A4 c1 c2 c3 c4 f) 28)).alloc (.cells #[.string ⟨#[115,116,97,116,105,111,110]⟩,.string n,.slice none 0 0,.int .i64 y,.int .i64 0] 106)).alloc (.cells #[.slice none 0 0,.slice none 0 0,.slice none 0 0,.slice none 0 0] 28))=W:=⟨_,rfl⟩
 rw[hW0]at H
 have HS:=Lib.hid (show W0.heap.size=w.heap.size+3 by rw[<-hW0];simp)
 have HW:Hid (w.heap.size+3<=W0.drew.heap.size):=Lib.hid (Nat.le_of_eq HS.out.symm)
 have HG:Hid (w.heap.size<=W0.drew.heap.size):=Lib.hid (Nat.le_trans (by omega) HW.out)
 have bs0:=fun W=>bs_nil lay_sta W
 obtain⟨hcf,hff⟩:=blk_cells H.kf
 obtain⟨hcx,hfx⟩:=blk_cells H.kx
 go_enter Tryz.func77,Tryz.ntmps77
 go_wp2
 obtain⟨g1A,d1A,W1A,g2A,d2A,W2A,raA,rbA,hbaA,CA⟩:=copy_A (W:=W0.drew) (A:=A1) (c:=c1) (l:=f.st) (x:=(n,y)) (cs:= #[.string n,.int .i64 y]) lay_sta (hf.st.up H.drew.all) (by omega) (by omega) (by simp[encSta])
 obtain⟨g1B,d1B,W1B,g2B,d2B,W2B,raB,rbB,hbaB,CB⟩:=copy_B (W:=W0.drew) (A:=A1) (c:=c1) (l:=f.st) (x:=(n,y)) (cs:= #[.string n,.int .i64 y]) lay_sta (hf.st.up H.drew.all) (by omega) (by omega) (by simp[encSta])
 obtain⟨g1C,d1C,W1C,g2C,d2C,W2C,raC,rbC,hbaC,CC⟩:=copy_C (W:=W0.drew) (A:=A1) (c:=c1) (l:=f.st) (x:=(n,y)) (cs:= #[.string n,.int .i64 y]) lay_sta (hf.st.up H.drew.all) (by omega) (by omega) (by simp[encSta])
 have raA:(Builtin.append_ #[23,23] 23 #[.slice (some ⟨W0.heap.size,0,none⟩) 0 0,.slice A1 f.st.length c1]).run Tryz.prog (W0.alloc (.cells #[] 50)).drew=.ok (.slice (some ⟨g1A,0,none⟩) f.st.length d1A) W1A:=raA
 have raB:(Builtin.append_ #[23,23] 23 #[.slice (some ⟨W0.heap.size,0,none⟩) 0 0,.slice A1 f.st.length c1]).run Tryz.prog ((W0.alloc (.cells #[] 50)).alloc (.cells #[.string n,.int .i64 y] 50)).drew=.ok (.slice (some ⟨g1B,0,none⟩) f.st.length d1B) W1B:=raB
 have raC:(Builtin.append_ #[23,23] 23 #[.slice (some ⟨W0.heap.size+1,0,none⟩) 0 0,.slice A1 f.st.length c1]).run Tryz.prog ((W0.alloc (.cells #[.string n,.int .i64 y] 50)).alloc (.cells #[] 50)).drew=.ok (.slice (some ⟨g1C,0,none⟩) f.st.length d1C) W1C:=raC
 have rbB:(Builtin.append_ #[23,23] 23 #[.slice (some ⟨g1B,0,none⟩) f.st.length d1B,.slice (some ⟨W0.heap.size+1,0,none⟩) 1 1]).run Tryz.prog W1B=.ok (.slice (some ⟨g2B,0,none⟩) (f.st.length+1) d2B) W2B:=rbB
 have rbC:(Builtin.append_ #[23,23] 23 #[.slice (some ⟨g1C,0,none⟩) f.st.length d1C,.slice (some ⟨W0.heap.size,0,none⟩) 1 1]).run Tryz.prog W1C=.ok (.slice (some ⟨g2C,0,none⟩) (f.st.length+1) d2C) W2C:=rbC
 have H2A:=H.drew.upB CA.all
 have H1A:=H.drew.upB hbaA
 obtain⟨W9A,lbA,stA,l9A,hkA,hzA,hBA⟩:=ad_fin H2A 0 (.slice (some ⟨g2A,0,none⟩) (f.st.length+1) d2A) #[.slice (some ⟨g2A,0,none⟩) (f.st.length+1) d2A,.slice A2 f.li.length c2,.slice A3 f.pa.length c3,.slice A4 f.va.length c4] rfl rfl (by simp[Value.oneCell'])
 obtain⟨hcbA,hfbA⟩:=blk_cells H2A.kf
 have H2B:=H.drew.upB CB.all
 obtain⟨W9B,lbB,stB,l9B,hkB,hzB,hBB⟩:=ad_fin H2B 0 (.slice (some ⟨g2B,0,none⟩) (f.st.length+1) d2B) #[.slice (some ⟨g2B,0,none⟩) (f.st.length+1) d2B,.slice A2 f.li.length c2,.slice A3 f.pa.length c3,.slice A4 f.va.length c4] rfl rfl (by simp[Value.oneCell'])
 obtain⟨hcbB,hfbB⟩:=blk_cells H2B.kf
 have H2C:=H.drew.upB CC.all
 obtain⟨W9C,lbC,stC,l9C,hkC,hzC,hBC⟩:=ad_fin H2C 0 (.slice (some ⟨g2C,0,none⟩) (f.st.length+1) d2C) #[.slice (some ⟨g2C,0,none⟩) (f.st.length+1) d2C,.slice A2 f.li.length c2,.slice A3 f.pa.length c3,.slice A4 f.va.length c4] rfl rfl (by simp[Value.oneCell'])
 obtain⟨hcbC,hfbC⟩:=blk_cells H2C.kf
 have q0:=H.drew
 have q1:=(H.upB (((Below.refl _ W0).alloc (Nat.le_refl _) (.cells #[] 50)))).drew
 have q3:=(H.upB (((Below.refl _ W0).alloc (Nat.le_refl _) (.cells #[.string n,.int .i64 y] 50)))).drew
 have q2:=(H.upB ((((Below.refl _ W0).alloc (Nat.le_refl _) (.cells #[] 50)).alloc (by simp) (.cells #[.string n,.int .i64 y] 50)))).drew
 have q4:=(H.upB ((((Below.refl _ W0).alloc (Nat.le_refl _) (.cells #[.string n,.int .i64 y] 50)).alloc (by simp) (.cells #[] 50)))).drew
 have f0:(W0).cell? ⟨w.heap.size,0,none⟩=some (.slice A1 f.st.length c1):=(blk_cells q0.kf).1 0
 have f1:((W0.alloc (.cells #[] 50))).cell? ⟨w.heap.size,0,none⟩=some (.slice A1 f.st.length c1):=(blk_cells q1.kf).1 0
 have f2:((W0.alloc (.cells #[.string n,.int .i64 y] 50))).cell? ⟨w.heap.size,0,none⟩=some (.slice A1 f.st.length c1):=(blk_cells q3.kf).1 0
 have f3:(((W0.alloc (.cells #[] 50)).alloc (.cells #[.string n,.int .i64 y] 50))).cell? ⟨w.heap.size,0,none⟩=some (.slice A1 f.st.length c1):=(blk_cells q2.kf).1 0
 have f4:(((W0.alloc (.cells #[.string n,.int .i64 y] 50)).alloc (.cells #[] 50))).cell? ⟨w.heap.size,0,none⟩=some (.slice A1 f.st.length c1):=(blk_cells q4.kf).1 0
 have p0:=H1A.upB ((Below.refl _ W1A).alloc (Nat.le_refl _) (.cells #[.string n,.int .i64 y] 50))
 have H1B:=H.drew.upB hbaB
 have H1C:=H.drew.upB hbaC
 have z1:=(Below.heap_setCell W2A ⟨w.heap.size,0,none⟩ (.slice (some ⟨g2A,0,none⟩) (f.st.length+1) d2A) (w.heap.size+1) (by simp)).trans H2A.kx
 have z2:=(Below.heap_setCell W2B ⟨w.heap.size,0,none⟩ (.slice (some ⟨g2B,0,none⟩) (f.st.length+1) d2B) (w.heap.size+1) (by simp)).trans H2B.kx
 have z3:=(Below.heap_setCell W2C ⟨w.heap.size,0,none⟩ (.slice (some ⟨g2C,0,none⟩) (f.st.length+1) d2C) (w.heap.size+1) (by simp)).trans H2C.kx
 have finA:EndAd (Pl.added f (.station n y)) A1 A2 A3 A4 w (.returned (.tuple #[.agg #[.slice (some ⟨g2A,0,none⟩) (f.st.length+1) d2A,.slice A2 f.li.length c2,.slice A3 f.pa.length c3,.slice A4 f.va.length c4],.int .i64 0])) W9A:=
  ⟨some ⟨g2A,0,none⟩,A2,A3,A4,d2A,c2,c3,c4,{f with st:=f.st++[(n,y)]},0,by simp,.inl ⟨rfl,rfl⟩,⟨seg_same CA.seg (fun hg=>hkA _ (Nat.le_trans HW.out CA.new) hg) hzA,hf.li.up hBA,hf.pa.up hBA,hf.va.up hBA⟩,⟨CA.cap,hc.li,hc.pa,hc.va⟩,fun n hn r1 r2 r3 r4=>⟨fun a e=>by cases e;exact Nat.le_trans (Nat.le_trans hn (HG.out)) CA.new,r2,r3,r4⟩,hBA⟩
 have finB:EndAd (Pl.added f (.station n y)) A1 A2 A3 A4 w (.returned (.tuple #[.agg #[.slice (some ⟨g2B,0,none⟩) (f.st.length+1) d2B,.slice A2 f.li.length c2,.slice A3 f.pa.length c3,.slice A4 f.va.length c4],.int .i64 0])) W9B:=
  ⟨some ⟨g2B,0,none⟩,A2,A3,A4,d2B,c2,c3,c4,{f with st:=f.st++[(n,y)]},0,by simp,.inl ⟨rfl,rfl⟩,⟨seg_same CB.seg (fun hg=>hkB _ (Nat.le_trans HW.out CB.new) hg) hzB,hf.li.up hBB,hf.pa.up hBB,hf.va.up hBB⟩,⟨CB.cap,hc.li,hc.pa,hc.va⟩,fun n hn r1 r2 r3 r4=>⟨fun a e=>by cases e;exact Nat.le_trans (Nat.le_trans hn (HG.out)) CB.new,r2,r3,r4⟩,hBB⟩
 have finC:EndAd (Pl.added f (.station n y)) A1 A2 A3 A4 w (.returned (.tuple #[.agg #[.slice (some ⟨g2C,0,none⟩) (f.st.length+1) d2C,.slice A2 f.li.length c2,.slice A3 f.pa.length c3,.slice A4 f.va.length c4],.int .i64 0])) W9C:=
  ⟨some ⟨g2C,0,none⟩,A2,A3,A4,d2C,c2,c3,c4,{f with st:=f.st++[(n,y)]},0,by simp,.inl ⟨rfl,rfl⟩,⟨seg_same CC.seg (fun hg=>hkC _ (Nat.le_trans HW.out CC.new) hg) hzC,hf.li.up hBC,hf.pa.up hBC,hf.va.up hBC⟩,⟨CC.cap,hc.li,hc.pa,hc.va⟩,fun n hn r1 r2 r3 r4=>⟨fun a e=>by cases e;exact Nat.le_trans (Nat.le_trans hn (HG.out)) CC.new,r2,r3,r4⟩,hBC⟩
 refine wp_region_held_drew (S:=fun W=>W.cell? ⟨w.heap.size+1,1,none⟩=some (.string n)∧W.cell? ⟨w.heap.size+1,3,none⟩=some (.int .i64 y)) (by kernel_rfl) (⟨(blk_cells q0.kx).1 1,(blk_cells q0.kx).1 3⟩) (fun hHeld=> ?_)
 refine takeH 1 (some 28) (v:= ?_) rfl rfl (by kernel_rfl) (by kernel_rfl) (by kernel_rfl) (fun _ _ _ h=>h) (Or.inl ⟨by rfl,fun W hW=> ?_⟩) (by assumption) ?_
 rotate_left
 ·(try dsimp only at hW);obtain⟨s0',s1'⟩:=hW;go_simp;try with_reducible rfl
 try simp only[Act.put,List.setIfInBounds_toArray,List.set_cons_zero,List.set_cons_succ]
 refine takeH 4 (some 31) (v:= ?_) rfl rfl (by kernel_rfl) (by kernel_rfl) (by kernel_rfl) (fun _ _ _ h=>h) (Or.inl ⟨by rfl,fun W hW=> ?_⟩) (by assumption) ?_
 rotate_left
 ·(try dsimp only at hW);obtain⟨s0',s1'⟩:=hW;go_simp;try with_reducible rfl
 try simp only[Act.put,List.setIfInBounds_toArray,List.set_cons_zero,List.set_cons_succ]
 refine takeH 5 (some 32) (v:= ?_) rfl rfl (by kernel_rfl) (by kernel_rfl) (by kernel_rfl) (fun _ _ _ h=>h) (Or.inl ⟨by rfl,fun W hW=> ?_⟩) (by assumption) ?_
 rotate_left
 ·(try dsimp only at hW);obtain⟨s0',s1'⟩:=hW;go_simp;try with_reducible rfl
 try simp only[Act.put,List.setIfInBounds_toArray,List.set_cons_zero,List.set_cons_succ]
 refine takeH 6 (some 33) (v:= ?_) rfl rfl (by kernel_rfl) (by kernel_rfl) (by kernel_rfl) (fun _ _ _ h=>h) (Or.inl ⟨by rfl,fun W hW=> ?_⟩) (by assumption) ?_
 rotate_left
 ·(try dsimp only at hW);obtain⟨s0',s1'⟩:=hW;go_simp;try with_reducible rfl
 try simp only[Act.put,List.setIfInBounds_toArray,List.set_cons_zero,List.set_cons_succ]
 refine takeH 7 (some 34) (v:= ?_) rfl rfl (by kernel_rfl) (by kernel_rfl) (by kernel_rfl) (fun _ _ _ h=>h) (Or.inl ⟨by rfl,fun W hW=> ?_⟩) (by assumption) ?_
 rotate_left
 ·(try dsimp only at hW);obtain⟨s0',s1'⟩:=hW;go_simp;try with_reducible rfl
 try simp only[Act.put,List.setIfInBounds_toArray,List.set_cons_zero,List.set_cons_succ]
 refine takeH 8 (some 35) (v:= ?_) rfl rfl (by kernel_rfl) (by kernel_rfl) (by kernel_rfl) (fun _ _ _ h=>h) (Or.inl ⟨by rfl,fun W hW=> ?_⟩) (by assumption) ?_
 rotate_left
 ·(try dsimp only at hW);obtain⟨s0',s1'⟩:=hW;go_simp;try with_reducible rfl
 try simp only[Act.put,List.setIfInBounds_toArray,List.set_cons_zero,List.set_cons_succ]
 refine wpAnyH_ready (rs:=[0,2,9]) (by kernel_rfl) (by simp) ?_;refine readyH (some 27) rfl rfl (fun K hK=> ?_) (readyH (some 29) rfl rfl (fun K hK=> ?_) (readyH (some 36) rfl rfl (fun K hK=> ?_) AllReadyH.nil))
 all_goals (
  go_simp
  refine hK.out _ _ ?_ (fun hHeld=> ?_)
  first|exact⟨(blk_cells q0.kx).1 1,(blk_cells q0.kx).1 3⟩|exact⟨(blk_cells q1.kx).1 1,(blk_cells q1.kx).1 3⟩|exact⟨(blk_cells q2.kx).1 1,(blk_cells q2.kx).1 3⟩|exact⟨(blk_cells q3.kx).1 1,(blk_cells q3.kx).1 3⟩|exact⟨(blk_cells q4.kx).1 1,(blk_cells q4.kx).1 3⟩|exact⟨(blk_cells H1A.kx).1 1,(blk_cells H1A.kx).1 3⟩|exact⟨(blk_cells p0.kx).1 1,(blk_cells p0.kx).1 3⟩|exact⟨(blk_cells H1B.kx).1 1,(blk_cells H1B.kx).1 3⟩|exact⟨(blk_cells H1C.kx).1 1,(blk_cells H1C.kx).1 3⟩|exact⟨(blk_cells H2A.kx).1 1,(blk_cells H2A.kx).1 3⟩|exact⟨(blk_cells H2B.kx).1 1,(blk_cells H2B.kx).1 3⟩|exact⟨(blk_cells H2C.kx).1 1,(blk_cells H2C.kx).1 3⟩|exact⟨(blk_cells z1).1 1,(blk_cells z1).1 3⟩|exact⟨(blk_cells z2).1 1,(blk_cells z2).1 3⟩|exact⟨(blk_cells z3).1 1,(blk_cells z3).1 3⟩
  clear hK K
  try simp only[Act.put,List.setIfInBounds_toArray,List.set_cons_zero,List.set_cons_succ])
 refine wpAnyH_ready (rs:=[2,9]) (by kernel_rfl) (by simp) ?_;refine readyH (some 29) rfl rfl (fun K hK=> ?_) (readyH (some 36) rfl rfl (fun K hK=> ?_) AllReadyH.nil)
 rotate_left 2
 refine wpAnyH_ready (rs:=[0,9]) (by kernel_rfl) (by simp) ?_;refine readyH (some 27) rfl rfl (fun K hK=> ?_) (readyH (some 36) rfl rfl (fun K hK=> ?_) AllReadyH.nil)
 rotate_left 2
 refine wpAnyH_ready (rs:=[0,2]) (by kernel_rfl) (by simp) ?_;refine readyH (some 27) rfl rfl (fun K hK=> ?_) (readyH (some 29) rfl rfl (fun K hK=> ?_) AllReadyH.nil)
 rotate_left 2
 all_goals (
  go_simp
  refine hK.out _ _ ?_ (fun hHeld=> ?_)
  first|exact⟨(blk_cells q0.kx).1 1,(blk_cells q0.kx).1 3⟩|exact⟨(blk_cells q1.kx).1 1,(blk_cells q1.kx).1 3⟩|exact⟨(blk_cells q2.kx).1 1,(blk_cells q2.kx).1 3⟩|exact⟨(blk_cells q3.kx).1 1,(blk_cells q3.kx).1 3⟩|exact⟨(blk_cells q4.kx).1 1,(blk_cells q4.kx).1 3⟩|exact⟨(blk_cells H1A.kx).1 1,(blk_cells H1A.kx).1 3⟩|exact⟨(blk_cells p0.kx).1 1,(blk_cells p0.kx).1 3⟩|exact⟨(blk_cells H1B.kx).1 1,(blk_cells H1B.kx).1 3⟩|exact⟨(blk_cells H1C.kx).1 1,(blk_cells H1C.kx).1 3⟩|exact⟨(blk_cells H2A.kx).1 1,(blk_cells H2A.kx).1 3⟩|exact⟨(blk_cells H2B.kx).1 1,(blk_cells H2B.kx).1 3⟩|exact⟨(blk_cells H2C.kx).1 1,(blk_cells H2C.kx).1 3⟩|exact⟨(blk_cells z1).1 1,(blk_cells z1).1 3⟩|exact⟨(blk_cells z2).1 1,(blk_cells z2).1 3⟩|exact⟨(blk_cells z3).1 1,(blk_cells z3).1 3⟩
  clear hK K
  try simp only[Act.put,List.setIfInBounds_toArray,List.set_cons_zero,List.set_cons_succ])
 refine wpAnyH_ready (rs:=[3,9]) (by kernel_rfl) (by simp) ?_;refine readyH (some 30) rfl rfl (fun K hK=> ?_) (readyH (some 36) rfl rfl (fun K hK=> ?_) AllReadyH.nil)
 rotate_left 2
 refine wpAnyH_ready (rs:=[2]) (by kernel_rfl) (by simp) ?_;refine readyH (some 29) rfl rfl (fun K hK=> ?_) AllReadyH.nil
 rotate_left 1
 refine wpAnyH_ready (rs:=[3,9]) (by kernel_rfl) (by simp) ?_;refine readyH (some 30) rfl rfl (fun K hK=> ?_) (readyH (some 36) rfl rfl (fun K hK=> ?_) AllReadyH.nil)
 rotate_left 2
 refine wpAnyH_ready (rs:=[0]) (by kernel_rfl) (by simp) ?_;refine readyH (some 27) rfl rfl (fun K hK=> ?_) AllReadyH.nil
 rotate_left 1
 refine wpAnyH_ready (rs:=[2]) (by kernel_rfl) (by simp) ?_;refine readyH (some 29) rfl rfl (fun K hK=> ?_) AllReadyH.nil
 rotate_left 1
 refine wpAnyH_ready (rs:=[0]) (by kernel_rfl) (by simp) ?_;refine readyH (some 27) rfl rfl (fun K hK=> ?_) AllReadyH.nil
 rotate_left 1
 all_goals (
  go_simp
  refine hK.out _ _ ?_ (fun hHeld=> ?_)
  first|exact⟨(blk_cells q0.kx).1 1,(blk_cells q0.kx).1 3⟩|exact⟨(blk_cells q1.kx).1 1,(blk_cells q1.kx).1 3⟩|exact⟨(blk_cells q2.kx).1 1,(blk_cells q2.kx).1 3⟩|exact⟨(blk_cells q3.kx).1 1,(blk_cells q3.kx).1 3⟩|exact⟨(blk_cells q4.kx).1 1,(blk_cells q4.kx).1 3⟩|exact⟨(blk_cells H1A.kx).1 1,(blk_cells H1A.kx).1 3⟩|exact⟨(blk_cells p0.kx).1 1,(blk_cells p0.kx).1 3⟩|exact⟨(blk_cells H1B.kx).1 1,(blk_cells H1B.kx).1 3⟩|exact⟨(blk_cells H1C.kx).1 1,(blk_cells H1C.kx).1 3⟩|exact⟨(blk_cells H2A.kx).1 1,(blk_cells H2A.kx).1 3⟩|exact⟨(blk_cells H2B.kx).1 1,(blk_cells H2B.kx).1 3⟩|exact⟨(blk_cells H2C.kx).1 1,(blk_cells H2C.kx).1 3⟩|exact⟨(blk_cells z1).1 1,(blk_cells z1).1 3⟩|exact⟨(blk_cells z2).1 1,(blk_cells z2).1 3⟩|exact⟨(blk_cells z3).1 1,(blk_cells z3).1 3⟩
  clear hK K
  try simp only[Act.put,List.setIfInBounds_toArray,List.set_cons_zero,List.set_cons_succ])
 refine wpAnyH_ready (rs:=[9]) (by kernel_rfl) (by simp) ?_;refine readyH (some 36) rfl rfl (fun K hK=> ?_) AllReadyH.nil
 rotate_left 1
 refine wpAnyH_ready (rs:=[3]) (by kernel_rfl) (by simp) ?_;refine readyH (some 30) rfl rfl (fun K hK=> ?_) AllReadyH.nil
 rotate_left 1
 refine wpAnyH_ready (rs:=[3]) (by kernel_rfl) (by simp) ?_;refine readyH (some 30) rfl rfl (fun K hK=> ?_) AllReadyH.nil
 rotate_left 1
 refine wpAnyH_ready (rs:=[9]) (by kernel_rfl) (by simp) ?_;refine readyH (some 36) rfl rfl (fun K hK=> ?_) AllReadyH.nil
 rotate_left 1
 refine wpAnyH_ready (rs:=[3]) (by kernel_rfl) (by simp) ?_;refine readyH (some 30) rfl rfl (fun K hK=> ?_) AllReadyH.nil
 rotate_left 1
 refine wpAnyH_ready (rs:=[3]) (by kernel_rfl) (by simp) ?_;refine readyH (some 30) rfl rfl (fun K hK=> ?_) AllReadyH.nil
 rotate_left 1
 refine wpAnyH_ready (rs:=[3]) (by kernel_rfl) (by simp) ?_;refine readyH (some 30) rfl rfl (fun K hK=> ?_) AllReadyH.nil
 rotate_left 1
 refine wpAnyH_ready (rs:=[3]) (by kernel_rfl) (by simp) ?_;refine readyH (some 30) rfl rfl (fun K hK=> ?_) AllReadyH.nil
 rotate_left 1
 all_goals (
  go_simp
  refine hK.out _ _ ?_ (fun hHeld=> ?_)
  first|exact⟨(blk_cells q0.kx).1 1,(blk_cells q0.kx).1 3⟩|exact⟨(blk_cells q1.kx).1 1,(blk_cells q1.kx).1 3⟩|exact⟨(blk_cells q2.kx).1 1,(blk_cells q2.kx).1 3⟩|exact⟨(blk_cells q3.kx).1 1,(blk_cells q3.kx).1 3⟩|exact⟨(blk_cells q4.kx).1 1,(blk_cells q4.kx).1 3⟩|exact⟨(blk_cells H1A.kx).1 1,(blk_cells H1A.kx).1 3⟩|exact⟨(blk_cells p0.kx).1 1,(blk_cells p0.kx).1 3⟩|exact⟨(blk_cells H1B.kx).1 1,(blk_cells H1B.kx).1 3⟩|exact⟨(blk_cells H1C.kx).1 1,(blk_cells H1C.kx).1 3⟩|exact⟨(blk_cells H2A.kx).1 1,(blk_cells H2A.kx).1 3⟩|exact⟨(blk_cells H2B.kx).1 1,(blk_cells H2B.kx).1 3⟩|exact⟨(blk_cells H2C.kx).1 1,(blk_cells H2C.kx).1 3⟩|exact⟨(blk_cells z1).1 1,(blk_cells z1).1 3⟩|exact⟨(blk_cells z2).1 1,(blk_cells z2).1 3⟩|exact⟨(blk_cells z3).1 1,(blk_cells z3).1 3⟩
  clear hK K
  try simp only[Act.put,List.setIfInBounds_toArray,List.set_cons_zero,List.set_cons_succ])
 all_goals (refine wpAnyH_ready (rs:=[10]) (by kernel_rfl) (by simp) ?_;refine readyH (some 37) rfl rfl (fun K hK=> ?_) AllReadyH.nil)
 all_goals (
  go_simp
  refine hK.out _ _ ?_ (fun hHeld=> ?_)
  first|exact⟨(blk_cells q0.kx).1 1,(blk_cells q0.kx).1 3⟩|exact⟨(blk_cells q1.kx).1 1,(blk_cells q1.kx).1 3⟩|exact⟨(blk_cells q2.kx).1 1,(blk_cells q2.kx).1 3⟩|exact⟨(blk_cells q3.kx).1 1,(blk_cells q3.kx).1 3⟩|exact⟨(blk_cells q4.kx).1 1,(blk_cells q4.kx).1 3⟩|exact⟨(blk_cells H1A.kx).1 1,(blk_cells H1A.kx).1 3⟩|exact⟨(blk_cells p0.kx).1 1,(blk_cells p0.kx).1 3⟩|exact⟨(blk_cells H1B.kx).1 1,(blk_cells H1B.kx).1 3⟩|exact⟨(blk_cells H1C.kx).1 1,(blk_cells H1C.kx).1 3⟩|exact⟨(blk_cells H2A.kx).1 1,(blk_cells H2A.kx).1 3⟩|exact⟨(blk_cells H2B.kx).1 1,(blk_cells H2B.kx).1 3⟩|exact⟨(blk_cells H2C.kx).1 1,(blk_cells H2C.kx).1 3⟩|exact⟨(blk_cells z1).1 1,(blk_cells z1).1 3⟩|exact⟨(blk_cells z2).1 1,(blk_cells z2).1 3⟩|exact⟨(blk_cells z3).1 1,(blk_cells z3).1 3⟩
  clear hK K
  try simp only[Act.put,List.setIfInBounds_toArray,List.set_cons_zero,List.set_cons_succ])
 all_goals (
  refine takeH 11 (some 38) (v:= ?_) rfl rfl (by kernel_rfl) (by kernel_rfl) (by kernel_rfl) (fun _ _ _ h=>h) (Or.inl ⟨by rfl,fun W hW=> ?_⟩) (by assumption) ?_
  rotate_left
  ·(try dsimp only at hW);obtain⟨s0',s1'⟩:=hW;go_simp;try with_reducible rfl
  try simp only[Act.put,List.setIfInBounds_toArray,List.set_cons_zero,List.set_cons_succ])
 all_goals (refine wpAnyH_ready (rs:=[12]) (by kernel_rfl) (by simp) ?_;refine readyH none rfl rfl (fun K hK=> ?_) AllReadyH.nil)
 all_goals (
  go_simp
  refine hK.out _ _ ?_ (fun hHeld=> ?_)
  first|exact⟨(blk_cells q0.kx).1 1,(blk_cells q0.kx).1 3⟩|exact⟨(blk_cells q1.kx).1 1,(blk_cells q1.kx).1 3⟩|exact⟨(blk_cells q2.kx).1 1,(blk_cells q2.kx).1 3⟩|exact⟨(blk_cells q3.kx).1 1,(blk_cells q3.kx).1 3⟩|exact⟨(blk_cells q4.kx).1 1,(blk_cells q4.kx).1 3⟩|exact⟨(blk_cells H1A.kx).1 1,(blk_cells H1A.kx).1 3⟩|exact⟨(blk_cells p0.kx).1 1,(blk_cells p0.kx).1 3⟩|exact⟨(blk_cells H1B.kx).1 1,(blk_cells H1B.kx).1 3⟩|exact⟨(blk_cells H1C.kx).1 1,(blk_cells H1C.kx).1 3⟩|exact⟨(blk_cells H2A.kx).1 1,(blk_cells H2A.kx).1 3⟩|exact⟨(blk_cells H2B.kx).1 1,(blk_cells H2B.kx).1 3⟩|exact⟨(blk_cells H2C.kx).1 1,(blk_cells H2C.kx).1 3⟩|exact⟨(blk_cells z1).1 1,(blk_cells z1).1 3⟩|exact⟨(blk_cells z2).1 1,(blk_cells z2).1 3⟩|exact⟨(blk_cells z3).1 1,(blk_cells z3).1 3⟩
  clear hK K
  try simp only[Act.put,List.setIfInBounds_toArray,List.set_cons_zero,List.set_cons_succ])
 all_goals refine wpAnyH_done (by kernel_rfl) ?_ _
 all_goals go_wp2_with fail
 all_goals first|(refine bodyPost_ret (v:=.tuple #[.agg #[.slice (some ⟨g2A,0,none⟩) (f.st.length+1) d2A,.slice A2 f.li.length c2,.slice A3 f.pa.length c3,.slice A4 f.va.length c4],.int .i64 0]) (by simp[results,Tryz.results77,go_sem,l9A]) rfl ?_;exact finA)|(refine bodyPost_ret (v:=.tuple #[.agg #[.slice (some ⟨g2B,0,none⟩) (f.st.length+1) d2B,.slice A2 f.li.length c2,.slice A3 f.pa.length c3,.slice A4 f.va.length c4],.int .i64 0]) (by simp[results,Tryz.results77,go_sem,l9B]) rfl ?_;exact finB)|(refine bodyPost_ret (v:=.tuple #[.agg #[.slice (some ⟨g2C,0,none⟩) (f.st.length+1) d2C,.slice A2 f.li.length c2,.slice A3 f.pa.length c3,.slice A4 f.va.length c4],.int .i64 0]) (by simp[results,Tryz.results77,go_sem,l9C]) rfl ?_;exact finC)
set_option maxHeartbeats 16000000 in
theorem ad_lim (n:ByteArray)(w:World)(hf:FldS w w.heap.size A1 A2 A3 A4 f)(hc:Caps c1 c2 c3 c4 f)(hl:f.li.length<=100000):
  Calls Tryz.prog 77 #[.agg (fq A1 A2 A3 A4 c1 c2 c3 c4 f),.agg #[.string ⟨#[108,105,109,105,116]⟩,.string n,.slice none 0 0,.int .i64 0,.int .i64 0]] w (EndAd (Pl.added f (.limit n)) A1 A2 A3 A4 w):=by
 have H:=ad_w w (fq A1 A2 A3 A4 c1 c2 c3 c4 f) #[.string ⟨#[108,105,109,105,116]⟩,.string n,.slice none 0 0,.int .i64 0,.int .i64 0]
 obtain⟨W0,hW0⟩: ∃W,(((w.alloc (.cells (fq A1 A2 A3 A4 c1 c2 c3 c4 f) 28)).alloc (.cells #[.string ⟨#[108,105,109,105,116]⟩,.string n,.slice none 0 0,.int .i64 0,.int .i64 0] 106)).alloc (.cells #[.slice none 0 0,.slice none 0 0,.slice none 0 0,.slice none 0 0] 28))=W:=⟨_,rfl⟩
 rw[hW0]at H
 have HS:=Lib.hid (show W0.heap.size=w.heap.size+3 by rw[<-hW0];simp)
 have HW:Hid (w.heap.size+3<=W0.drew.heap.size):=Lib.hid (Nat.le_of_eq HS.out.symm)
 have HG:Hid (w.heap.size<=W0.drew.heap.size):=Lib.hid (Nat.le_trans (by omega) HW.out)
 have bs0:=fun W=>bs_nil lay_nm W
 obtain⟨hcf,hff⟩:=blk_cells H.kf
 obtain⟨hcx,hfx⟩:=blk_cells H.kx
 go_enter Tryz.func77,Tryz.ntmps77
 go_wp2
 obtain⟨g1A,d1A,W1A,g2A,d2A,W2A,raA,rbA,hbaA,CA⟩:=copy_A (W:=W0.drew) (A:=A2) (c:=c2) (l:=f.li) (x:=n) (cs:= #[.string n]) lay_nm (hf.li.up H.drew.all) (by omega) (by omega) (by simp[encNm])
 obtain⟨g1B,d1B,W1B,g2B,d2B,W2B,raB,rbB,hbaB,CB⟩:=copy_B (W:=W0.drew) (A:=A2) (c:=c2) (l:=f.li) (x:=n) (cs:= #[.string n]) lay_nm (hf.li.up H.drew.all) (by omega) (by omega) (by simp[encNm])
 obtain⟨g1C,d1C,W1C,g2C,d2C,W2C,raC,rbC,hbaC,CC⟩:=copy_C (W:=W0.drew) (A:=A2) (c:=c2) (l:=f.li) (x:=n) (cs:= #[.string n]) lay_nm (hf.li.up H.drew.all) (by omega) (by omega) (by simp[encNm])
 have raA:(Builtin.append_ #[24,24] 24 #[.slice (some ⟨W0.heap.size,0,none⟩) 0 0,.slice A2 f.li.length c2]).run Tryz.prog (W0.alloc (.cells #[] 9)).drew=.ok (.slice (some ⟨g1A,0,none⟩) f.li.length d1A) W1A:=raA
 have raB:(Builtin.append_ #[24,24] 24 #[.slice (some ⟨W0.heap.size,0,none⟩) 0 0,.slice A2 f.li.length c2]).run Tryz.prog ((W0.alloc (.cells #[] 9)).alloc (.cells #[.string n] 9)).drew=.ok (.slice (some ⟨g1B,0,none⟩) f.li.length d1B) W1B:=raB
 have raC:(Builtin.append_ #[24,24] 24 #[.slice (some ⟨W0.heap.size+1,0,none⟩) 0 0,.slice A2 f.li.length c2]).run Tryz.prog ((W0.alloc (.cells #[.string n] 9)).alloc (.cells #[] 9)).drew=.ok (.slice (some ⟨g1C,0,none⟩) f.li.length d1C) W1C:=raC
 have rbB:(Builtin.append_ #[24,24] 24 #[.slice (some ⟨g1B,0,none⟩) f.li.length d1B,.slice (some ⟨W0.heap.size+1,0,none⟩) 1 1]).run Tryz.prog W1B=.ok (.slice (some ⟨g2B,0,none⟩) (f.li.length+1) d2B) W2B:=rbB
 have rbC:(Builtin.append_ #[24,24] 24 #[.slice (some ⟨g1C,0,none⟩) f.li.length d1C,.slice (some ⟨W0.heap.size,0,none⟩) 1 1]).run Tryz.prog W1C=.ok (.slice (some ⟨g2C,0,none⟩) (f.li.length+1) d2C) W2C:=rbC
 have H2A:=H.drew.upB CA.all
 have H1A:=H.drew.upB hbaA
 obtain⟨W9A,lbA,stA,l9A,hkA,hzA,hBA⟩:=ad_fin H2A 1 (.slice (some ⟨g2A,0,none⟩) (f.li.length+1) d2A) #[.slice A1 f.st.length c1,.slice (some ⟨g2A,0,none⟩) (f.li.length+1) d2A,.slice A3 f.pa.length c3,.slice A4 f.va.length c4] rfl rfl (by simp[Value.oneCell'])
 obtain⟨hcbA,hfbA⟩:=blk_cells H2A.kf
 have H2B:=H.drew.upB CB.all
 obtain⟨W9B,lbB,stB,l9B,hkB,hzB,hBB⟩:=ad_fin H2B 1 (.slice (some ⟨g2B,0,none⟩) (f.li.length+1) d2B) #[.slice A1 f.st.length c1,.slice (some ⟨g2B,0,none⟩) (f.li.length+1) d2B,.slice A3 f.pa.length c3,.slice A4 f.va.length c4] rfl rfl (by simp[Value.oneCell'])
 obtain⟨hcbB,hfbB⟩:=blk_cells H2B.kf
 have H2C:=H.drew.upB CC.all
 obtain⟨W9C,lbC,stC,l9C,hkC,hzC,hBC⟩:=ad_fin H2C 1 (.slice (some ⟨g2C,0,none⟩) (f.li.length+1) d2C) #[.slice A1 f.st.length c1,.slice (some ⟨g2C,0,none⟩) (f.li.length+1) d2C,.slice A3 f.pa.length c3,.slice A4 f.va.length c4] rfl rfl (by simp[Value.oneCell'])
 obtain⟨hcbC,hfbC⟩:=blk_cells H2C.kf
 have q0:=H.drew
 have q1:=(H.upB (((Below.refl _ W0).alloc (Nat.le_refl _) (.cells #[] 9)))).drew
 have q3:=(H.upB (((Below.refl _ W0).alloc (Nat.le_refl _) (.cells #[.string n] 9)))).drew
 have q2:=(H.upB ((((Below.refl _ W0).alloc (Nat.le_refl _) (.cells #[] 9)).alloc (by simp) (.cells #[.string n] 9)))).drew
 have q4:=(H.upB ((((Below.refl _ W0).alloc (Nat.le_refl _) (.cells #[.string n] 9)).alloc (by simp) (.cells #[] 9)))).drew
 have f0:(W0).cell? ⟨w.heap.size,1,none⟩=some (.slice A2 f.li.length c2):=(blk_cells q0.kf).1 1
 have f1:((W0.alloc (.cells #[] 9))).cell? ⟨w.heap.size,1,none⟩=some (.slice A2 f.li.length c2):=(blk_cells q1.kf).1 1
 have f2:((W0.alloc (.cells #[.string n] 9))).cell? ⟨w.heap.size,1,none⟩=some (.slice A2 f.li.length c2):=(blk_cells q3.kf).1 1
 have f3:(((W0.alloc (.cells #[] 9)).alloc (.cells #[.string n] 9))).cell? ⟨w.heap.size,1,none⟩=some (.slice A2 f.li.length c2):=(blk_cells q2.kf).1 1
 have f4:(((W0.alloc (.cells #[.string n] 9)).alloc (.cells #[] 9))).cell? ⟨w.heap.size,1,none⟩=some (.slice A2 f.li.length c2):=(blk_cells q4.kf).1 1
 have p0:=H1A.upB ((Below.refl _ W1A).alloc (Nat.le_refl _) (.cells #[.string n] 9))
 have H1B:=H.drew.upB hbaB
 have H1C:=H.drew.upB hbaC
 have z1:=(Below.heap_setCell W2A ⟨w.heap.size,1,none⟩ (.slice (some ⟨g2A,0,none⟩) (f.li.length+1) d2A) (w.heap.size+1) (by simp)).trans H2A.kx
 have z2:=(Below.heap_setCell W2B ⟨w.heap.size,1,none⟩ (.slice (some ⟨g2B,0,none⟩) (f.li.length+1) d2B) (w.heap.size+1) (by simp)).trans H2B.kx
 have z3:=(Below.heap_setCell W2C ⟨w.heap.size,1,none⟩ (.slice (some ⟨g2C,0,none⟩) (f.li.length+1) d2C) (w.heap.size+1) (by simp)).trans H2C.kx
 have finA:EndAd (Pl.added f (.limit n)) A1 A2 A3 A4 w (.returned (.tuple #[.agg #[.slice A1 f.st.length c1,.slice (some ⟨g2A,0,none⟩) (f.li.length+1) d2A,.slice A3 f.pa.length c3,.slice A4 f.va.length c4],.int .i64 0])) W9A:=
  ⟨A1,some ⟨g2A,0,none⟩,A3,A4,c1,d2A,c3,c4,{f with li:=f.li++[n]},0,by simp,.inl ⟨rfl,rfl⟩,⟨hf.st.up hBA,seg_same CA.seg (fun hg=>hkA _ (Nat.le_trans HW.out CA.new) hg) hzA,hf.pa.up hBA,hf.va.up hBA⟩,⟨hc.st,CA.cap,hc.pa,hc.va⟩,fun n hn r1 r2 r3 r4=>⟨r1,fun a e=>by cases e;exact Nat.le_trans (Nat.le_trans hn (HG.out)) CA.new,r3,r4⟩,hBA⟩
 have finB:EndAd (Pl.added f (.limit n)) A1 A2 A3 A4 w (.returned (.tuple #[.agg #[.slice A1 f.st.length c1,.slice (some ⟨g2B,0,none⟩) (f.li.length+1) d2B,.slice A3 f.pa.length c3,.slice A4 f.va.length c4],.int .i64 0])) W9B:=
  ⟨A1,some ⟨g2B,0,none⟩,A3,A4,c1,d2B,c3,c4,{f with li:=f.li++[n]},0,by simp,.inl ⟨rfl,rfl⟩,⟨hf.st.up hBB,seg_same CB.seg (fun hg=>hkB _ (Nat.le_trans HW.out CB.new) hg) hzB,hf.pa.up hBB,hf.va.up hBB⟩,⟨hc.st,CB.cap,hc.pa,hc.va⟩,fun n hn r1 r2 r3 r4=>⟨r1,fun a e=>by cases e;exact Nat.le_trans (Nat.le_trans hn (HG.out)) CB.new,r3,r4⟩,hBB⟩
 have finC:EndAd (Pl.added f (.limit n)) A1 A2 A3 A4 w (.returned (.tuple #[.agg #[.slice A1 f.st.length c1,.slice (some ⟨g2C,0,none⟩) (f.li.length+1) d2C,.slice A3 f.pa.length c3,.slice A4 f.va.length c4],.int .i64 0])) W9C:=
  ⟨A1,some ⟨g2C,0,none⟩,A3,A4,c1,d2C,c3,c4,{f with li:=f.li++[n]},0,by simp,.inl ⟨rfl,rfl⟩,⟨hf.st.up hBC,seg_same CC.seg (fun hg=>hkC _ (Nat.le_trans HW.out CC.new) hg) hzC,hf.pa.up hBC,hf.va.up hBC⟩,⟨hc.st,CC.cap,hc.pa,hc.va⟩,fun n hn r1 r2 r3 r4=>⟨r1,fun a e=>by cases e;exact Nat.le_trans (Nat.le_trans hn (HG.out)) CC.new,r3,r4⟩,hBC⟩
 refine wp_region_held_drew (S:=fun W=>W.cell? ⟨w.heap.size+1,1,none⟩=some (.string n)) (by kernel_rfl) ((blk_cells q0.kx).1 1) (fun hHeld=> ?_)
 refine takeH 1 (some 42) (v:= ?_) rfl rfl (by kernel_rfl) (by kernel_rfl) (by kernel_rfl) (fun _ _ _ h=>h) (Or.inl ⟨by rfl,fun W hW=> ?_⟩) (by assumption) ?_
 rotate_left
 ·(try dsimp only at hW);go_simp;try with_reducible rfl
 try simp only[Act.put,List.setIfInBounds_toArray,List.set_cons_zero,List.set_cons_succ]
 refine takeH 4 (some 45) (v:= ?_) rfl rfl (by kernel_rfl) (by kernel_rfl) (by kernel_rfl) (fun _ _ _ h=>h) (Or.inl ⟨by rfl,fun W hW=> ?_⟩) (by assumption) ?_
 rotate_left
 ·(try dsimp only at hW);go_simp;try with_reducible rfl
 try simp only[Act.put,List.setIfInBounds_toArray,List.set_cons_zero,List.set_cons_succ]
 refine takeH 5 (some 46) (v:= ?_) rfl rfl (by kernel_rfl) (by kernel_rfl) (by kernel_rfl) (fun _ _ _ h=>h) (Or.inl ⟨by rfl,fun W hW=> ?_⟩) (by assumption) ?_
 rotate_left
 ·(try dsimp only at hW);go_simp;try with_reducible rfl
 try simp only[Act.put,List.setIfInBounds_toArray,List.set_cons_zero,List.set_cons_succ]
 refine wpAnyH_ready (rs:=[0,2,6]) (by kernel_rfl) (by simp) ?_;refine readyH (some 41) rfl rfl (fun K hK=> ?_) (readyH (some 43) rfl rfl (fun K hK=> ?_) (readyH (some 47) rfl rfl (fun K hK=> ?_) AllReadyH.nil))
 all_goals (
  go_simp
  refine hK.out _ _ ?_ (fun hHeld=> ?_)
  first|exact(blk_cells q0.kx).1 1|exact(blk_cells q1.kx).1 1|exact(blk_cells q2.kx).1 1|exact(blk_cells q3.kx).1 1|exact(blk_cells q4.kx).1 1|exact(blk_cells H1A.kx).1 1|exact(blk_cells p0.kx).1 1|exact(blk_cells H1B.kx).1 1|exact(blk_cells H1C.kx).1 1|exact(blk_cells H2A.kx).1 1|exact(blk_cells H2B.kx).1 1|exact(blk_cells H2C.kx).1 1|exact(blk_cells z1).1 1|exact(blk_cells z2).1 1|exact(blk_cells z3).1 1
  clear hK K
  try simp only[Act.put,List.setIfInBounds_toArray,List.set_cons_zero,List.set_cons_succ])
 refine wpAnyH_ready (rs:=[2,6]) (by kernel_rfl) (by simp) ?_;refine readyH (some 43) rfl rfl (fun K hK=> ?_) (readyH (some 47) rfl rfl (fun K hK=> ?_) AllReadyH.nil)
 rotate_left 2
 refine wpAnyH_ready (rs:=[0,6]) (by kernel_rfl) (by simp) ?_;refine readyH (some 41) rfl rfl (fun K hK=> ?_) (readyH (some 47) rfl rfl (fun K hK=> ?_) AllReadyH.nil)
 rotate_left 2
 refine wpAnyH_ready (rs:=[0,2]) (by kernel_rfl) (by simp) ?_;refine readyH (some 41) rfl rfl (fun K hK=> ?_) (readyH (some 43) rfl rfl (fun K hK=> ?_) AllReadyH.nil)
 rotate_left 2
 all_goals (
  go_simp
  refine hK.out _ _ ?_ (fun hHeld=> ?_)
  first|exact(blk_cells q0.kx).1 1|exact(blk_cells q1.kx).1 1|exact(blk_cells q2.kx).1 1|exact(blk_cells q3.kx).1 1|exact(blk_cells q4.kx).1 1|exact(blk_cells H1A.kx).1 1|exact(blk_cells p0.kx).1 1|exact(blk_cells H1B.kx).1 1|exact(blk_cells H1C.kx).1 1|exact(blk_cells H2A.kx).1 1|exact(blk_cells H2B.kx).1 1|exact(blk_cells H2C.kx).1 1|exact(blk_cells z1).1 1|exact(blk_cells z2).1 1|exact(blk_cells z3).1 1
  clear hK K
  try simp only[Act.put,List.setIfInBounds_toArray,List.set_cons_zero,List.set_cons_succ])
 refine wpAnyH_ready (rs:=[3,6]) (by kernel_rfl) (by simp) ?_;refine readyH (some 44) rfl rfl (fun K hK=> ?_) (readyH (some 47) rfl rfl (fun K hK=> ?_) AllReadyH.nil)
 rotate_left 2
 refine wpAnyH_ready (rs:=[2]) (by kernel_rfl) (by simp) ?_;refine readyH (some 43) rfl rfl (fun K hK=> ?_) AllReadyH.nil
 rotate_left 1
 refine wpAnyH_ready (rs:=[3,6]) (by kernel_rfl) (by simp) ?_;refine readyH (some 44) rfl rfl (fun K hK=> ?_) (readyH (some 47) rfl rfl (fun K hK=> ?_) AllReadyH.nil)
 rotate_left 2
 refine wpAnyH_ready (rs:=[0]) (by kernel_rfl) (by simp) ?_;refine readyH (some 41) rfl rfl (fun K hK=> ?_) AllReadyH.nil
 rotate_left 1
 refine wpAnyH_ready (rs:=[2]) (by kernel_rfl) (by simp) ?_;refine readyH (some 43) rfl rfl (fun K hK=> ?_) AllReadyH.nil
 rotate_left 1
 refine wpAnyH_ready (rs:=[0]) (by kernel_rfl) (by simp) ?_;refine readyH (some 41) rfl rfl (fun K hK=> ?_) AllReadyH.nil
 rotate_left 1
 all_goals (
  go_simp
  refine hK.out _ _ ?_ (fun hHeld=> ?_)
  first|exact(blk_cells q0.kx).1 1|exact(blk_cells q1.kx).1 1|exact(blk_cells q2.kx).1 1|exact(blk_cells q3.kx).1 1|exact(blk_cells q4.kx).1 1|exact(blk_cells H1A.kx).1 1|exact(blk_cells p0.kx).1 1|exact(blk_cells H1B.kx).1 1|exact(blk_cells H1C.kx).1 1|exact(blk_cells H2A.kx).1 1|exact(blk_cells H2B.kx).1 1|exact(blk_cells H2C.kx).1 1|exact(blk_cells z1).1 1|exact(blk_cells z2).1 1|exact(blk_cells z3).1 1
  clear hK K
  try simp only[Act.put,List.setIfInBounds_toArray,List.set_cons_zero,List.set_cons_succ])
 refine wpAnyH_ready (rs:=[6]) (by kernel_rfl) (by simp) ?_;refine readyH (some 47) rfl rfl (fun K hK=> ?_) AllReadyH.nil
 rotate_left 1
 refine wpAnyH_ready (rs:=[3]) (by kernel_rfl) (by simp) ?_;refine readyH (some 44) rfl rfl (fun K hK=> ?_) AllReadyH.nil
 rotate_left 1
 refine wpAnyH_ready (rs:=[3]) (by kernel_rfl) (by simp) ?_;refine readyH (some 44) rfl rfl (fun K hK=> ?_) AllReadyH.nil
 rotate_left 1
 refine wpAnyH_ready (rs:=[6]) (by kernel_rfl) (by simp) ?_;refine readyH (some 47) rfl rfl (fun K hK=> ?_) AllReadyH.nil
 rotate_left 1
 refine wpAnyH_ready (rs:=[3]) (by kernel_rfl) (by simp) ?_;refine readyH (some 44) rfl rfl (fun K hK=> ?_) AllReadyH.nil
 rotate_left 1
 refine wpAnyH_ready (rs:=[3]) (by kernel_rfl) (by simp) ?_;refine readyH (some 44) rfl rfl (fun K hK=> ?_) AllReadyH.nil
 rotate_left 1
 refine wpAnyH_ready (rs:=[3]) (by kernel_rfl) (by simp) ?_;refine readyH (some 44) rfl rfl (fun K hK=> ?_) AllReadyH.nil
 rotate_left 1
 refine wpAnyH_ready (rs:=[3]) (by kernel_rfl) (by simp) ?_;refine readyH (some 44) rfl rfl (fun K hK=> ?_) AllReadyH.nil
 rotate_left 1
 all_goals (
  go_simp
  refine hK.out _ _ ?_ (fun hHeld=> ?_)
  first|exact(blk_cells q0.kx).1 1|exact(blk_cells q1.kx).1 1|exact(blk_cells q2.kx).1 1|exact(blk_cells q3.kx).1 1|exact(blk_cells q4.kx).1 1|exact(blk_cells H1A.kx).1 1|exact(blk_cells p0.kx).1 1|exact(blk_cells H1B.kx).1 1|exact(blk_cells H1C.kx).1 1|exact(blk_cells H2A.kx).1 1|exact(blk_cells H2B.kx).1 1|exact(blk_cells H2C.kx).1 1|exact(blk_cells z1).1 1|exact(blk_cells z2).1 1|exact(blk_cells z3).1 1
  clear hK K
  try simp only[Act.put,List.setIfInBounds_toArray,List.set_cons_zero,List.set_cons_succ])
 all_goals (refine wpAnyH_ready (rs:=[7]) (by kernel_rfl) (by simp) ?_;refine readyH (some 48) rfl rfl (fun K hK=> ?_) AllReadyH.nil)
 all_goals (
  go_simp
  refine hK.out _ _ ?_ (fun hHeld=> ?_)
  first|exact(blk_cells q0.kx).1 1|exact(blk_cells q1.kx).1 1|exact(blk_cells q2.kx).1 1|exact(blk_cells q3.kx).1 1|exact(blk_cells q4.kx).1 1|exact(blk_cells H1A.kx).1 1|exact(blk_cells p0.kx).1 1|exact(blk_cells H1B.kx).1 1|exact(blk_cells H1C.kx).1 1|exact(blk_cells H2A.kx).1 1|exact(blk_cells H2B.kx).1 1|exact(blk_cells H2C.kx).1 1|exact(blk_cells z1).1 1|exact(blk_cells z2).1 1|exact(blk_cells z3).1 1
  clear hK K
  try simp only[Act.put,List.setIfInBounds_toArray,List.set_cons_zero,List.set_cons_succ])
 all_goals (
  refine takeH 8 (some 49) (v:= ?_) rfl rfl (by kernel_rfl) (by kernel_rfl) (by kernel_rfl) (fun _ _ _ h=>h) (Or.inl ⟨by rfl,fun W hW=> ?_⟩) (by assumption) ?_
  rotate_left
  ·(try dsimp only at hW);go_simp;try with_reducible rfl
  try simp only[Act.put,List.setIfInBounds_toArray,List.set_cons_zero,List.set_cons_succ])
 all_goals (refine wpAnyH_ready (rs:=[9]) (by kernel_rfl) (by simp) ?_;refine readyH none rfl rfl (fun K hK=> ?_) AllReadyH.nil)
 all_goals (
  go_simp
  refine hK.out _ _ ?_ (fun hHeld=> ?_)
  first|exact(blk_cells q0.kx).1 1|exact(blk_cells q1.kx).1 1|exact(blk_cells q2.kx).1 1|exact(blk_cells q3.kx).1 1|exact(blk_cells q4.kx).1 1|exact(blk_cells H1A.kx).1 1|exact(blk_cells p0.kx).1 1|exact(blk_cells H1B.kx).1 1|exact(blk_cells H1C.kx).1 1|exact(blk_cells H2A.kx).1 1|exact(blk_cells H2B.kx).1 1|exact(blk_cells H2C.kx).1 1|exact(blk_cells z1).1 1|exact(blk_cells z2).1 1|exact(blk_cells z3).1 1
  clear hK K
  try simp only[Act.put,List.setIfInBounds_toArray,List.set_cons_zero,List.set_cons_succ])
 all_goals refine wpAnyH_done (by kernel_rfl) ?_ _
 all_goals go_wp2_with fail
 all_goals first|(refine bodyPost_ret (v:=.tuple #[.agg #[.slice A1 f.st.length c1,.slice (some ⟨g2A,0,none⟩) (f.li.length+1) d2A,.slice A3 f.pa.length c3,.slice A4 f.va.length c4],.int .i64 0]) (by simp[results,Tryz.results77,go_sem,l9A]) rfl ?_;exact finA)|(refine bodyPost_ret (v:=.tuple #[.agg #[.slice A1 f.st.length c1,.slice (some ⟨g2B,0,none⟩) (f.li.length+1) d2B,.slice A3 f.pa.length c3,.slice A4 f.va.length c4],.int .i64 0]) (by simp[results,Tryz.results77,go_sem,l9B]) rfl ?_;exact finB)|(refine bodyPost_ret (v:=.tuple #[.agg #[.slice A1 f.st.length c1,.slice (some ⟨g2C,0,none⟩) (f.li.length+1) d2C,.slice A3 f.pa.length c3,.slice A4 f.va.length c4],.int .i64 0]) (by simp[results,Tryz.results77,go_sem,l9C]) rfl ?_;exact finC)
end Go.Proofs.YtgbpekeoegfjpaaGreatDoor
