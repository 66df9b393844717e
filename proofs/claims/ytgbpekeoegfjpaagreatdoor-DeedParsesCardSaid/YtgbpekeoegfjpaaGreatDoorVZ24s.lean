/- Proved: parts of the walk. -/
import Derived.Test.YtgbpekeoegfjpaaGreatDoorVRD
set_option maxRecDepth 100000
set_option maxHeartbeats 4000000
namespace Go.Proofs
open Tryz RowKit Shelf
variable (A1 A2 A3 A4 : Option Addr) (c1 c2 c3 c4 : Nat) (f : Pl.aL)
attribute [-go_sem] run_equalIn_agg storeVar loadVar
attribute [local go_sem] bZ bH dU aT eB
theorem JK (w:World)(hf:bB w w.heap.size A1 A2 A3 A4 f)(hm:Small f)(hc:dY c1 c2 c3 c4 f)(hE:Pl.aR f=0):
  Calls prog 35 #[.agg (fq A1 A2 A3 A4 c1 c2 c3 c4 f)] w fun e w'=>e=.returned (.int .i64 (1+(f.li.length:Int)*f.st.length))∧Below w.heap.size w w':=by
 have HE:=Lib.hid hE
 have hok:=Pl.iV hE
 have h1:=hok.KD
 have h2:=hok.I9
 clear hE hok
 have kf:=(heap_alloc_new w (.cells (fq A1 A2 A3 A4 c1 c2 c3 c4 f) 28))
 have l0:=ak kf underlying28 rfl av
 have hall:Below w.heap.size w (w.alloc (.cells (fq A1 A2 A3 A4 c1 c2 c3 c4 f) 28)):=((Below.refl _ w).alloc (Nat.le_refl _) _)
 go_enter func35,ntmps35
 go_wp2_with (first
  |(go_at_call 22;refine(bX A1 A2 A3 A4 c1 c2 c3 c4 f 0 _ HE (hf.up hall) hm hc).mono ?_;rintro e w1 ⟨rfl,hx⟩;have kf:=(hx.block _ (lO kf)).trans kf;have hall:Below w.heap.size w w1:=hall.trans (hx.mono hall.size);clear l0;have l1:=ak kf underlying28 rfl av;clear hx)
  |(go_at_call 106;refine(CR A1 A2 A3 A4 c1 c2 c3 c4 f _ (by omega) (by omega)).mono ?_;rintro e w2 ⟨rfl,hx⟩;have hall:Below w.heap.size w w2:=hall.trans (hx.mono hall.size);clear hx))
 go_ret
 exact⟨rfl,hall⟩
theorem YC (w:World)(hE:Env w):Calls prog 19 #[.string Pl.Pf] w (Ru (Pl.f0,0,0) w):=by
 rw[<-Pl.Rx]
 exact BG Pl.Pf w hE (by decide)
theorem nN :Small Pl.f0:=by
 refine⟨by decide,by decide,by decide,by decide,?_,?_,?_⟩<;>decide
theorem YD (A1 A2 A3 A4:Option Addr)(d1 d2 d3 d4:Nat)(w:World)(hE:Env w)(hf:bB w w.heap.size A1 A2 A3 A4 Pl.f0)(hc:dY d1 d2 d3 d4 Pl.f0):Calls prog 31 #[.agg #[.slice A1 2 d1,.slice A2 2 d2,.slice A3 1 d3,.slice A4 1 d4],.string Pl.Iz,.int .i64 1750] w fun e w'=>e=.returned (.tuple #[.agg (bR 3 0 0 0 1 0 0 50 2 1000 1750 0 100),.int .i64 0])∧Below w.heap.size w w':=by
 have:=qQ A1 A2 A3 A4 d1 d2 d3 d4 Pl.f0 Pl.Iz 1750 w hE hf nN hc (by decide)
 rw[Pl.Tz]at this
 exact this.mono fun _ _ ⟨hb,he⟩=>⟨he,hb⟩
theorem YE (A1 A2 A3 A4:Option Addr)(d1 d2 d3 d4:Nat)(w:World)(hE:Env w)(hf:bB w w.heap.size A1 A2 A3 A4 Pl.f0)(hc:dY d1 d2 d3 d4 Pl.f0):Calls prog 31 #[.agg #[.slice A1 2 d1,.slice A2 2 d2,.slice A3 1 d3,.slice A4 1 d4],.string Pl.IB,.int .i64 1750] w fun e w'=>e=.returned (.tuple #[.agg (ka 1 0 0 1 0 250 2),.int .i64 0])∧Below w.heap.size w w':=by
 have:=qQ A1 A2 A3 A4 d1 d2 d3 d4 Pl.f0 Pl.IB 1750 w hE hf nN hc (by decide)
 rw[Pl.TA]at this
 exact this.mono fun _ _ ⟨hb,he⟩=>⟨he,hb⟩
theorem YF :Pl.iO Pl.f0 Pl.c1 7=0:=by unfold Pl.iO Pl.aM;rw[if_pos Pl.oZ,if_pos Pl.Rz,if_pos (by decide)]
theorem YG :Pl.iO Pl.f0 Pl.c2 7=0:=by unfold Pl.iO Pl.aM;rw[if_pos Pl.oZ,if_pos Pl.Tx,if_pos (by decide)]
theorem YH (A1 A2 A3 A4:Option Addr)(d1 d2 d3 d4:Nat)(w:World)(_hE:Env w)(hf:bB w w.heap.size A1 A2 A3 A4 Pl.f0)(hc:dY d1 d2 d3 d4 Pl.f0):Calls prog 27 #[.agg #[.slice A1 2 d1,.slice A2 2 d2,.slice A3 1 d3,.slice A4 1 d4],.agg (bR 3 0 0 0 1 0 0 50 2 1000 1750 0 100),.int .i64 7] w (LY [⟨1,2,519,7⟩,⟨2,1,-480,7⟩] 0 w):=by
 have:=D9 A1 A2 A3 A4 d1 d2 d3 d4 Pl.f0 Pl.c1 7 w hf nN hc (by decide) (by decide)
 rw[Pl.qo,YF,if_pos rfl,Pl.Pg]at this
 exact this
theorem YI (A1 A2 A3 A4:Option Addr)(d1 d2 d3 d4:Nat)(w:World)(_hE:Env w)(hf:bB w w.heap.size A1 A2 A3 A4 Pl.f0)(hc:dY d1 d2 d3 d4 Pl.f0):Calls prog 27 #[.agg #[.slice A1 2 d1,.slice A2 2 d2,.slice A3 1 d3,.slice A4 1 d4],.agg (ka 1 0 0 1 0 250 2),.int .i64 7] w (LY [⟨0,2,252,7⟩,⟨2,0,-248,7⟩] 0 w):=by
 have:=D9 A1 A2 A3 A4 d1 d2 d3 d4 Pl.f0 Pl.c2 7 w hf nN hc (by decide) (by decide)
 rw[Pl.qo,YG,if_pos rfl,Pl.Ph]at this
 exact this
theorem VB (A1 A2 A3 A4:Option Addr)(d1 d2 d3 d4:Nat)(w:World)(_hE:Env w)(hf:bB w w.heap.size A1 A2 A3 A4 Pl.f0)(hc:dY d1 d2 d3 d4 Pl.f0):Calls prog 26 #[.agg #[.slice A1 2 d1,.slice A2 2 d2,.slice A3 1 d3,.slice A4 1 d4]] w fun e w'=> ∃A c,e=.returned (.tuple #[.slice A 10 c,.int .i64 0])∧R_ w' w'.heap.size A (Pl.nature 2 2)∧From w.heap.size A∧Below w.heap.size w w':=by
 have h:=Jg A1 A2 A3 A4 d1 d2 d3 d4 Pl.f0 w hf nN hc Pl.oZ
 have hl:(Pl.nature Pl.f0.st.length Pl.f0.li.length).length=10:=Pl.BK.1
 rw[hl]at h
 exact h
theorem zG (A1 A2 A3 A4:Option Addr)(d1 d2 d3 d4:Nat)(w:World)(_hE:Env w)(hf:bB w w.heap.size A1 A2 A3 A4 Pl.f0)(hc:dY d1 d2 d3 d4 Pl.f0)(A:Option Addr)(c:Nat)(hy:Ints w w.heap.size A [0,100,100,150,150]):Calls prog 54 #[.agg #[.slice A1 2 d1,.slice A2 2 d2,.slice A3 1 d3,.slice A4 1 d4],.int .i64 0,.int .i64 120,.slice A 5 c] w fun e w'=>e=.returned (.tuple (i2 0 0))∧Below w.heap.size w w':=by
 have h:=TD A1 A2 A3 A4 d1 d2 d3 d4 Pl.f0 0 120 A c [0,100,100,150,150] w hf nN hc Pl.oZ hy (by decide)
 rw[Pl.Vz]at h
 exact h
theorem Xe :Pl.aM Pl.f0 Pl.c1=0:=by unfold Pl.aM;rw[if_pos Pl.oZ,Pl.Rz]
theorem bk1 (A1 A2 A3 A4:Option Addr)(d1 d2 d3 d4:Nat)(w:World)(_hE:Env w)(hf:bB w w.heap.size A1 A2 A3 A4 Pl.f0)(hc:dY d1 d2 d3 d4 Pl.f0):Calls prog 66 #[.agg #[.slice A1 2 d1,.slice A2 2 d2,.slice A3 1 d3,.slice A4 1 d4],.agg (bR 3 0 0 0 1 0 0 50 2 1000 1750 0 100)] w fun e w'=>e=.returned (.tuple #[.agg (bR 3 0 0 1 0 0 0 230 2 1000 1750 0 100),.int .i64 0])∧Below w.heap.size w w':=by
 have h:=Rt A1 A2 A3 A4 d1 d2 d3 d4 Pl.f0 Pl.c1 w hf nN hc (by decide)
 rw[Pl.mg,if_pos Xe,Xe,Pl.TB]at h
 exact h
theorem YJ (A1 A2 A3 A4:Option Addr)(d1 d2 d3 d4:Nat)(w:World)(hE:Env w)(hf:bB w w.heap.size A1 A2 A3 A4 Pl.f0)(hc:dY d1 d2 d3 d4 Pl.f0):Calls prog 24 #[.agg #[.slice A1 2 d1,.slice A2 2 d2,.slice A3 1 d3,.slice A4 1 d4],.string Pl.Ry] w fun e w'=> ∃xA xc,e=.returned (.tuple #[.slice xA 0 xc,.agg (i2 4 1)])∧Below w.heap.size w w':=by
 have hp:Pl.dz Pl.f0 Pl.Ry=([],4,1):=by
  unfold Pl.dz
  rw[if_neg (by simp[Pl.oZ]),if_neg (by decide),show(Pl.iA Pl.Ry).map Pl.aW=[[⟨#[115,116,111,110,101]⟩,⟨#[119,97,108,108]⟩,⟨#[97,115,104]⟩,⟨#[49]⟩,⟨#[48]⟩]] from by kernel_rfl]
  have hd:Pl.dn Pl.f0 [] [⟨#[115,116,111,110,101]⟩,⟨#[119,97,108,108]⟩,⟨#[97,115,104]⟩,⟨#[49]⟩,⟨#[48]⟩]=.error 4:=by
   unfold Pl.dn
   rw[if_neg (by simp[Pl.CQ])]
   generalize Pl.form _=o
   cases o<;>rfl
  unfold Pl.DJ
  rw[if_neg (by simp),hd]
  rfl
 refine(aAs A1 A2 A3 A4 d1 d2 d3 d4 Pl.f0 Pl.Ry w hE hf nN hc (by decide)).mono ?_
 rintro e w' ⟨l,A,c,hl,rfl,_,_,hx⟩
 rw[hp]at hl ⊢
 obtain rfl:l=[]:=by simpa using hl
 exact⟨A,c,rfl,hx⟩
theorem VE (A1 A2 A3 A4:Option Addr)(d1 d2 d3 d4:Nat)(w:World)(_hE:Env w)(hf:bB w w.heap.size A1 A2 A3 A4 Pl.f0)(hc:dY d1 d2 d3 d4 Pl.f0):Calls prog 35 #[.agg #[.slice A1 2 d1,.slice A2 2 d2,.slice A3 1 d3,.slice A4 1 d4]] w fun e w'=>e=.returned (.int .i64 5)∧Below w.heap.size w w':=
 JK A1 A2 A3 A4 d1 d2 d3 d4 Pl.f0 w hf nN hc Pl.oZ
theorem VF (A1 A2 A3 A4:Option Addr)(c1 c2 c3 c4:Nat)(w:World):
  ∃W2 W3,(storeVar 28 ⟨w.heap.size,0,none⟩ (.agg #[.slice A1 2 c1,.slice A2 2 c2,.slice A3 1 c3,.slice A4 1 c4])).run prog ((w.alloc (.cells #[.slice none 0 0,.slice none 0 0,.slice none 0 0,.slice none 0 0] 28)).alloc (.cells (i2 0 0) 31))=.ok () W2∧
   (storeVar 31 ⟨w.heap.size+1,0,none⟩ (.agg (i2 0 0))).run prog W2=.ok () W3∧
   W3.heap[w.heap.size]?=some (.cells #[.slice A1 2 c1,.slice A2 2 c2,.slice A3 1 c3,.slice A4 1 c4] 28 (0,0))∧W3.heap[w.heap.size+1]?=some (.cells (i2 0 0) 31 (0,0))∧Below w.heap.size w W3:=by
 have ko:=heap_alloc2_old w (.cells #[.slice none 0 0,.slice none 0 0,.slice none 0 0,.slice none 0 0] 28) (.cells (i2 0 0) 31)
 have kn:=heap_alloc2_new w (.cells #[.slice none 0 0,.slice none 0 0,.slice none 0 0,.slice none 0 0] 28) (.cells (i2 0 0) 31)
 have hb:Below w.heap.size w ((w.alloc (.cells #[.slice none 0 0,.slice none 0 0,.slice none 0 0,.slice none 0 0] 28)).alloc (.cells (i2 0 0) 31)):=((Below.refl _ w).alloc (Nat.le_refl _) _).alloc (by simp) _
 obtain⟨W2,st2,k2,hg2⟩:=aG _ w.heap.size _ 28 _ #[.slice A1 2 c1,.slice A2 2 c2,.slice A3 1 c3,.slice A4 1 c4] ko av rfl (by simp[Value.oneCell'])
 have YK:=(hg2.block _ (lO kn) (by simp)).trans kn
 obtain⟨W3,Qe,k3,hg3⟩:=aG W2 (w.heap.size+1) _ 31 _ (i2 0 0) YK j_ rfl (by simp[Value.oneCell'])
 exact⟨W2,W3,st2,Qe,(hg3.block _ (lO k2) (by simp)).trans k2,k3,(hb.grown hg2 hb.size (fun k e=>by cases e;omega)).grown hg3 (by have:=hb.size;have:=hg2.size;omega) (fun k e=>by cases e;omega)⟩
theorem RA (cs:Array Value)(hs:cs.size=13)(h1:cs.all (·.oneCell')=true)(w:World):
  ∃W,(storeVar 48 ⟨w.heap.size,0,none⟩ (.agg cs)).run prog (w.alloc (.cells bP 48))=.ok () W∧W.heap[w.heap.size]?=some (.cells cs 48 (0,0))∧Below w.heap.size w W:=by
 have kn:=heap_alloc_new w (.cells bP 48)
 have hb:Below w.heap.size w (w.alloc (.cells bP 48)):=(Below.refl _ w).alloc (Nat.le_refl _) _
 obtain⟨W2,st2,k2,hg2⟩:=aG _ w.heap.size _ 48 _ cs kn (by rw[hs];exact aj) (by rw[hs];rfl) h1
 exact⟨W2,st2,k2,hb.grown hg2 hb.size (fun k e=>by cases e;omega)⟩
theorem TJ (u:World):Ints (u.alloc (.cells (i5 0 100 100 150 150) 3)) (u.alloc (.cells (i5 0 100 100 150 150) 3)).heap.size (some ⟨u.heap.size,0,none⟩) [0,100,100,150,150]:=by
 refine .inr ⟨_,0,rfl,by simp,fun k x hk j v hv=> ?_⟩
 rw[(ah (heap_alloc_new u (.cells (i5 0 100 100 150 150) 3))).1]
 match k,j,hk,hv with
 |0,0,hk,hv=>simp at hk;subst hk;simpa [jK]using hv
 |1,0,hk,hv=>simp at hk;subst hk;simpa [jK]using hv
 |2,0,hk,hv=>simp at hk;subst hk;simpa [jK]using hv
 |3,0,hk,hv=>simp at hk;subst hk;simpa [jK]using hv
 |4,0,hk,hv=>simp at hk;subst hk;simpa [jK]using hv
 |k+5,_,hk,_=>simp at hk
 |_,j+1,_,hv=>simp[jK]at hv
theorem VG (a b:Int)(w:World):
  ∃W,(storeVar 31 ⟨w.heap.size,0,none⟩ (.agg (i2 a b))).run prog (w.alloc (.cells (i2 0 0) 31))=.ok () W∧W.heap[w.heap.size]?=some (.cells (i2 a b) 31 (0,0))∧Below w.heap.size w W:=by
 have kn:=heap_alloc_new w (.cells (i2 0 0) 31)
 have hb:Below w.heap.size w (w.alloc (.cells (i2 0 0) 31)):=(Below.refl _ w).alloc (Nat.le_refl _) _
 obtain⟨W2,st2,k2,hg2⟩:=aG _ w.heap.size _ 31 _ (i2 a b) kn j_ rfl (by simp[Value.oneCell'])
 exact⟨W2,st2,k2,hb.grown hg2 hb.size (fun k e=>by cases e;omega)⟩
theorem TK (W:World):(Op.equalIn 10000 31 (.agg (i2 0 0)) (.agg (i2 0 0))).run prog W=.ok true W:=by kernel_rfl
theorem TM (W:World):(Op.equalIn 10000 31 (.agg (i2 4 1)) (.agg (i2 4 1))).run prog W=.ok true W:=by kernel_rfl
theorem TN (W:World):(Op.equalIn 10000 99 (.agg (i4 1 2 519 7)) (.agg (i4 1 2 519 7))).run prog W=.ok true W:=by kernel_rfl
theorem TP (W:World):(Op.equalIn 10000 99 (.agg (i4 2 1 (-480) 7)) (.agg (i4 2 1 (-480) 7))).run prog W=.ok true W:=by kernel_rfl
theorem TQ (W:World):(Op.equalIn 10000 99 (.agg (i4 2 0 (-248) 7)) (.agg (i4 2 0 (-248) 7))).run prog W=.ok true W:=by kernel_rfl
theorem TR (W:World):(Op.equalIn 10000 99 (.agg (i4 4 2 0 0)) (.agg (i4 4 2 0 0))).run prog W=.ok true W:=by kernel_rfl
theorem Me {W:World}{B:Nat}{X:Option Addr}{l:List Pl.Bd}(h:Seg gP 4 W B X l)(hne:l≠ []): ∃b off,X=some ⟨b,off,none⟩∧ ∀k x,l[k]?=some x->
  (loadVar 99 ⟨b,off+k*4,none⟩).run prog W=.ok (.agg (i4 (x.fr:Int) (x.till:Int) x.most x.record)) W:=by
 rcases h with h|⟨b,off,rfl,hlt,hc⟩
 ·exact absurd h hne
 ·refine⟨b,off,rfl,fun k x hk=> ?_⟩
  refine run_loadVar_mid W b (off+k*4) _ [.int .i64 (x.fr:Int),.int .i64 (x.till:Int),.int .i64 x.most,.int .i64 x.record] _ (fun j v hv=> ?_) underlying99 rfl (by kernel_rfl)
  exact hc k x hk j v (by simpa [gP]using hv)
theorem yc (w:World)(hE:Env w):Calls prog 18 #[] w fun e w'=>e=.returned (.bool true)∧Below w.heap.size w w':=by
 have hp:=YC w hE
 unfold Pl.Pf Ru Pl.f0 at hp
 go_enter func18,ntmps18
 go_wp2_with fail
 refine hp.mono ?_;rintro e w1 ⟨A1,c1,A2,c2,A3,c3,A4,c4,rfl,hf,hc,hx⟩;obtain⟨W2,W3,st2,Qe,kF,kT,hb3⟩:=VF A1 A2 A3 A4 c1 c2 c3 c4 w1;have l3:=ak kF underlying28 rfl av;have o7:=hf.up hb3;have ow:=(hE.up hx).up hb3;have hA:Below w.heap.size w W3:=hx.trans (hb3.mono hx.size)
 go_wp2_with fail
 refine(YD A1 A2 A3 A4 c1 c2 c3 c4 _ ow o7 hc).mono ?_;rintro e u ⟨rfl,hx⟩;(try have kF:=(hx.block _ (lO kF)).trans kF);(try have kT:=(hx.block _ (lO kT)).trans kT);(try have kC:=(hx.block _ (lO kC)).trans kC);(try have kD:=(hx.block _ (lO kD)).trans kD);(try have kB:=(hx.block _ (lO kB)).trans kB);have hA:=hA.trans (hx.mono hA.size);have o7:=o7.up hx;have ow:=ow.up hx;(try have hS1:=hS1.up hx);(try have hS2:=hS2.up hx);(try have vG:=vG.up hx);obtain⟨ZV,YL,kC,hx⟩:=RA (bR 3 0 0 0 1 0 0 50 2 1000 1750 0 100) (by rfl) (by simp[Value.oneCell']) u;(try have kF:=(hx.block _ (lO kF)).trans kF);(try have kT:=(hx.block _ (lO kT)).trans kT);(try have kC:=(hx.block _ (lO kC)).trans kC);(try have kD:=(hx.block _ (lO kD)).trans kD);(try have kB:=(hx.block _ (lO kB)).trans kB);have hA:=hA.trans (hx.mono hA.size);have o7:=o7.up hx;have ow:=ow.up hx;(try have hS1:=hS1.up hx);(try have hS2:=hS2.up hx);(try have vG:=vG.up hx);have lF:=ak kF underlying28 rfl av;(try have RB:=ak kC underlying48 rfl aj);(try have UF:=ak kD underlying48 rfl aj)
 go_wp2_with fail
 refine(YH A1 A2 A3 A4 c1 c2 c3 c4 _ ow o7 hc).mono ?_;rintro e u ⟨X1,x1,rfl,hS1,_,_,hx⟩;(try have kF:=(hx.block _ (lO kF)).trans kF);(try have kT:=(hx.block _ (lO kT)).trans kT);(try have kC:=(hx.block _ (lO kC)).trans kC);(try have kD:=(hx.block _ (lO kD)).trans kD);(try have kB:=(hx.block _ (lO kB)).trans kB);have hA:=hA.trans (hx.mono hA.size);have o7:=o7.up hx;have ow:=ow.up hx;(try have hS2:=hS2.up hx);(try have vG:=vG.up hx);have lF:=ak kF underlying28 rfl av;(try have RB:=ak kC underlying48 rfl aj);(try have UF:=ak kD underlying48 rfl aj)
 go_wp2_with fail
 refine(YE A1 A2 A3 A4 c1 c2 c3 c4 _ ow o7 hc).mono ?_;rintro e u ⟨rfl,hx⟩;(try have kF:=(hx.block _ (lO kF)).trans kF);(try have kT:=(hx.block _ (lO kT)).trans kT);(try have kC:=(hx.block _ (lO kC)).trans kC);(try have kD:=(hx.block _ (lO kD)).trans kD);(try have kB:=(hx.block _ (lO kB)).trans kB);have hA:=hA.trans (hx.mono hA.size);have o7:=o7.up hx;have ow:=ow.up hx;(try have hS1:=hS1.up hx);(try have hS2:=hS2.up hx);(try have vG:=vG.up hx);obtain⟨ZW,YM,kD,hx⟩:=RA (ka 1 0 0 1 0 250 2) (by rfl) (by simp[Value.oneCell']) u;(try have kF:=(hx.block _ (lO kF)).trans kF);(try have kT:=(hx.block _ (lO kT)).trans kT);(try have kC:=(hx.block _ (lO kC)).trans kC);(try have kD:=(hx.block _ (lO kD)).trans kD);(try have kB:=(hx.block _ (lO kB)).trans kB);have hA:=hA.trans (hx.mono hA.size);have o7:=o7.up hx;have ow:=ow.up hx;(try have hS1:=hS1.up hx);(try have hS2:=hS2.up hx);(try have vG:=vG.up hx);have lF:=ak kF underlying28 rfl av;(try have RB:=ak kC underlying48 rfl aj);(try have UF:=ak kD underlying48 rfl aj)
 go_wp2_with fail
 refine(YI A1 A2 A3 A4 c1 c2 c3 c4 _ ow o7 hc).mono ?_;rintro e u ⟨X2,x2,rfl,hS2,_,_,hx⟩;(try have kF:=(hx.block _ (lO kF)).trans kF);(try have kT:=(hx.block _ (lO kT)).trans kT);(try have kC:=(hx.block _ (lO kC)).trans kC);(try have kD:=(hx.block _ (lO kD)).trans kD);(try have kB:=(hx.block _ (lO kB)).trans kB);have hA:=hA.trans (hx.mono hA.size);have o7:=o7.up hx;have ow:=ow.up hx;(try have hS1:=hS1.up hx);(try have vG:=vG.up hx);have lF:=ak kF underlying28 rfl av;(try have RB:=ak kC underlying48 rfl aj);(try have UF:=ak kD underlying48 rfl aj)
 go_wp2_with fail
 refine(VB A1 A2 A3 A4 c1 c2 c3 c4 _ ow o7 hc).mono ?_;rintro e u ⟨X3,x3,rfl,vG,_,hx⟩;(try have kF:=(hx.block _ (lO kF)).trans kF);(try have kT:=(hx.block _ (lO kT)).trans kT);(try have kC:=(hx.block _ (lO kC)).trans kC);(try have kD:=(hx.block _ (lO kD)).trans kD);(try have kB:=(hx.block _ (lO kB)).trans kB);have hA:=hA.trans (hx.mono hA.size);have o7:=o7.up hx;have ow:=ow.up hx;(try have hS1:=hS1.up hx);(try have hS2:=hS2.up hx);have lF:=ak kF underlying28 rfl av;(try have RB:=ak kC underlying48 rfl aj);(try have UF:=ak kD underlying48 rfl aj)
 go_wp2_with fail
 have hx:Below u.heap.size u (u.alloc (.cells (i5 0 100 100 150 150) 3)):=(Below.refl _ u).alloc (Nat.le_refl _) _
 have Sc:=TJ u
 (try have kF:=(hx.block _ (lO kF)).trans kF);(try have kT:=(hx.block _ (lO kT)).trans kT);(try have kC:=(hx.block _ (lO kC)).trans kC);(try have kD:=(hx.block _ (lO kD)).trans kD);(try have kB:=(hx.block _ (lO kB)).trans kB);have hA:=hA.trans (hx.mono hA.size);have o7:=o7.up hx;have ow:=ow.up hx;(try have hS1:=hS1.up hx);(try have hS2:=hS2.up hx);(try have vG:=vG.up hx)
 refine(zG A1 A2 A3 A4 c1 c2 c3 c4 _ ow o7 hc _ 5 Sc).mono ?_
 clear Sc
 rintro e u ⟨rfl,hx⟩
 (try have kF:=(hx.block _ (lO kF)).trans kF);(try have kT:=(hx.block _ (lO kT)).trans kT);(try have kC:=(hx.block _ (lO kC)).trans kC);(try have kD:=(hx.block _ (lO kD)).trans kD);(try have kB:=(hx.block _ (lO kB)).trans kB);have hA:=hA.trans (hx.mono hA.size);have o7:=o7.up hx;have ow:=ow.up hx;(try have hS1:=hS1.up hx);(try have hS2:=hS2.up hx);(try have vG:=vG.up hx);have lF:=ak kF underlying28 rfl av;(try have RB:=ak kC underlying48 rfl aj);(try have Xf:=ak kB underlying48 rfl aj)
 go_wp2_with fail
 refine(bk1 A1 A2 A3 A4 c1 c2 c3 c4 _ ow o7 hc).mono ?_
 rintro e u ⟨rfl,hx⟩
 (try have kF:=(hx.block _ (lO kF)).trans kF);(try have kT:=(hx.block _ (lO kT)).trans kT);(try have kC:=(hx.block _ (lO kC)).trans kC);(try have kD:=(hx.block _ (lO kD)).trans kD);(try have kB:=(hx.block _ (lO kB)).trans kB);have hA:=hA.trans (hx.mono hA.size);have o7:=o7.up hx;have ow:=ow.up hx;(try have hS1:=hS1.up hx);(try have hS2:=hS2.up hx);(try have vG:=vG.up hx);obtain⟨ZX,YN,kB,hx⟩:=RA (bR 3 0 0 1 0 0 0 230 2 1000 1750 0 100) (by rfl) (by simp[Value.oneCell']) u;(try have kF:=(hx.block _ (lO kF)).trans kF);(try have kT:=(hx.block _ (lO kT)).trans kT);(try have kC:=(hx.block _ (lO kC)).trans kC);(try have kD:=(hx.block _ (lO kD)).trans kD);(try have kB:=(hx.block _ (lO kB)).trans kB);have hA:=hA.trans (hx.mono hA.size);have o7:=o7.up hx;have ow:=ow.up hx;(try have hS1:=hS1.up hx);(try have hS2:=hS2.up hx);(try have vG:=vG.up hx);have lF:=ak kF underlying28 rfl av;(try have RB:=ak kC underlying48 rfl aj);(try have Xf:=ak kB underlying48 rfl aj)
 go_wp2_with fail
 refine(YJ A1 A2 A3 A4 c1 c2 c3 c4 _ ow o7 hc).mono ?_
 rintro e u ⟨xA,xc,rfl,hx⟩
 (try have kF:=(hx.block _ (lO kF)).trans kF);(try have kT:=(hx.block _ (lO kT)).trans kT);(try have kC:=(hx.block _ (lO kC)).trans kC);(try have kD:=(hx.block _ (lO kD)).trans kD);(try have kB:=(hx.block _ (lO kB)).trans kB);have hA:=hA.trans (hx.mono hA.size);have o7:=o7.up hx;have ow:=ow.up hx;(try have hS1:=hS1.up hx);(try have hS2:=hS2.up hx);(try have vG:=vG.up hx);have lF:=ak kF underlying28 rfl av;(try have RB:=ak kC underlying48 rfl aj);(try have Xf:=ak kB underlying48 rfl aj)
 obtain⟨ZY,YO,kE,hx⟩:=VG 4 1 u
 (try have kF:=(hx.block _ (lO kF)).trans kF);(try have kT:=(hx.block _ (lO kT)).trans kT);(try have kC:=(hx.block _ (lO kC)).trans kC);(try have kD:=(hx.block _ (lO kD)).trans kD);(try have kB:=(hx.block _ (lO kB)).trans kB);have hA:=hA.trans (hx.mono hA.size);have o7:=o7.up hx;have ow:=ow.up hx;(try have hS1:=hS1.up hx);(try have hS2:=hS2.up hx);(try have vG:=vG.up hx)
 have q1:=TK;have q2:=TM;have q3:=TN;have q4:=TP;have q5:=TQ;have q6:=TR
 have lE:=ak kE underlying31 rfl j_
 have lT:=ak kT underlying31 rfl j_
 have lF:=ak kF underlying28 rfl av
 obtain⟨b1,o1,rfl,g1⟩:=Me hS1 (by simp)
 obtain⟨b2,o2,rfl,g2⟩:=Me hS2 (by simp)
 obtain⟨b3,o3,rfl,g3⟩:=Me vG (by intro h;have:=Pl.BK.1;rw[show Pl.nature Pl.f0.st.length Pl.f0.li.length=Pl.nature 2 2 from rfl,h]at this;cases this)
 have g10:=g1 0 _ rfl
 have g11:=g1 1 _ rfl
 have g21:=g2 1 _ rfl
 have YP:=g3 9 _ Pl.BK.2
 simp only[Nat.zero_mul,Nat.add_zero,Nat.one_mul,Nat.reduceMul,Int.cast_ofNat_Int]at g10 g11 g21 YP
 clear g1 g2 g3
 obtain⟨hcB,hfB⟩:=ah kB
 go_wp2_with fail
 refine(VE A1 A2 A3 A4 c1 c2 c3 c4 _ ow o7 hc).mono ?_
 rintro e u ⟨rfl,hx⟩
 go_wp2_with fail
 go_ret
 exact⟨rfl,hA.trans (hx.mono hA.size)⟩
