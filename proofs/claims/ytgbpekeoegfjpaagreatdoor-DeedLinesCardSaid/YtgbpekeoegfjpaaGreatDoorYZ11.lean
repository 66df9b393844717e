/- Proved: parts of the walk. -/
import Derived.Test.YtgbpekeoegfjpaaGreatDoorYZ09
import Derived.Test.YtgbpekeoegfjpaaGreatDoorYZ10
set_option maxRecDepth 100000
set_option maxHeartbeats 4000000
namespace Go.Proofs
open Tryz RowKit
variable (A1 A2 A3 A4 : Option Addr) (c1 c2 c3 c4 : Nat) (f : Pl.aL)
attribute [-go_sem] run_equalIn_agg storeVar loadVar
attribute [local go_sem] bZ bH dU aT eB
def jf (n₀ N:Nat)(w:World)(o:Option Pl.aZ)(e:Ending)(w':World):Prop:=
 aU n₀ (fun i=>i<N) w w'∧match o with
  |some c=>e=.returned (.agg (kq c))
  |none=>e=.panicked (gave 5)
theorem jf.ok {n₀ N:Nat}{w w':World}{o:Option Pl.aZ}{e:Ending}(c:Pl.aZ)(ho:o=some c)(hb:aU n₀ (fun i=>i<N) w w')(he:e=.returned (.agg (kq c))):jf n₀ N w o e w':=by subst ho;exact⟨hb,he⟩
theorem jf.no {n₀ N:Nat}{w w':World}{o:Option Pl.aZ}{e:Ending}(ho:o=none)(hb:aU n₀ (fun i=>i<N) w w')(he:e=.panicked (gave 5)):jf n₀ N w o e w':=by subst ho;exact⟨hb,he⟩
theorem bB.more {w:World}{B B':Nat}{A1 A2 A3 A4:Option Addr}{f:Pl.aL}(h:bB w B A1 A2 A3 A4 f)(hB:B<=B'):bB w B' A1 A2 A3 A4 f:=⟨h.st.more hB,h.li.more hB,h.pa.more hB,h.va.more hB⟩
theorem bB.below {w w':World}{B:Nat}{A1 A2 A3 A4:Option Addr}{f:Pl.aL}(h:bB w B A1 A2 A3 A4 f)(hb:Below B w w'):bB w' B A1 A2 A3 A4 f:=⟨h.st.below hb,h.li.below hb,h.pa.below hb,h.va.below hb⟩
theorem Bj (f:Pl.aL)(l fr:ByteArray)(size er:Int)(year:Int):Pl.looked f ⟨1,l,⟨#[]⟩,fr,⟨#[]⟩,size,er,Pl.bF.zero⟩ year=(Pl.eX f l).bind fun(i0:Nat)=>(Pl.dW f fr).bind fun(i1:Nat)=>some (⟨1,((i0:Nat):Int),0,((i1:Nat):Int),0,size,er,Pl.bF.zero⟩:Pl.aZ):=by
 unfold Pl.looked
 cases Pl.eX f l<;>cases Pl.dW f fr<;>rfl
theorem FK (n₀ N:Nat)(l fr:ByteArray)(size er:Int)(b0 b1 b2 b3:Nat)(year:Int)(w:World)(hf:bB w n₀ A1 A2 A3 A4 f)(hn:n₀<=w.heap.size)(hm:Small f)
  (k0:w.heap[b0]?=some (.cells #[.string l] 9 (0,0))) (k1:w.heap[b1]?=some (.cells #[.string fr] 9 (0,0))) (k2:w.heap[b2]?=some (.cells #[.int .i64 size] 3 (0,0))) (k3:w.heap[b3]?=some (.cells #[.int .i64 er] 3 (0,0))):
  Calls prog 223 #[.agg (fq A1 A2 A3 A4 c1 c2 c3 c4 f),.int .i64 year,.pointer (some ⟨b0,0,none⟩),.pointer (some ⟨b1,0,none⟩),.pointer (some ⟨b2,0,none⟩),.pointer (some ⟨b3,0,none⟩)] w (jf n₀ N w (Pl.looked f ⟨1,l,⟨#[]⟩,fr,⟨#[]⟩,size,er,Pl.bF.zero⟩ year)):=by
 have zl:=(lO k0)
 have zm:=(lO k1)
 have zn:=(lO k2)
 have FL:=(lO k3)
 have HL:=Lib.hid (Bj f l fr size er year)
 have kf:=heap_alloc2_old w (.cells (fq A1 A2 A3 A4 c1 c2 c3 c4 f) 28) (.cells bP 48)
 have kr:=heap_alloc2_new w (.cells (fq A1 A2 A3 A4 c1 c2 c3 c4 f) 28) (.cells bP 48)
 have hb:Below w.heap.size w ((w.alloc (.cells (fq A1 A2 A3 A4 c1 c2 c3 c4 f) 28)).alloc (.cells bP 48)):=((Below.refl _ w).alloc (Nat.le_refl _) _).alloc (by simp) _
 have k0:=(hb.block b0 (lO k0)).trans k0
 have k1:=(hb.block b1 (lO k1)).trans k1
 have k2:=(hb.block b2 (lO k2)).trans k2
 have k3:=(hb.block b3 (lO k3)).trans k3
 go_enter func223,ntmps223
 go_wp2
 generalize (w.alloc (.cells (fq A1 A2 A3 A4 c1 c2 c3 c4 f) 28)).alloc (.cells bP 48)=W0 at*
 have hlt:=(lO kr)
 refine wp_region_held_drew (S:=fun W=>(loadVar 28 ⟨w.heap.size,0,none⟩).run prog W=.ok (.agg (fq A1 A2 A3 A4 c1 c2 c3 c4 f)) W∧W.cell? ⟨b0,0,none⟩=some (.string l)∧W.cell? ⟨b1,0,none⟩=some (.string fr)∧W.cell? ⟨b2,0,none⟩=some (.int .i64 size)∧W.cell? ⟨b3,0,none⟩=some (.int .i64 er)) (by kernel_rfl) ⟨ak kf underlying28 rfl av,(ah k0).1 0,(ah k1).1 0,(ah k2).1 0,(ah k3).1 0⟩ (fun hHeld=> ?_)
 have hb:Below w.heap.size w W0.drew:=hb.drew
 have kf:W0.drew.heap[w.heap.size]?=_:=kf
 have kr:W0.drew.heap[w.heap.size+1]?=_:=kr
 have k0:W0.drew.heap[b0]?=_:=k0
 have k1:W0.drew.heap[b1]?=_:=k1
 have k2:W0.drew.heap[b2]?=_:=k2
 have k3:W0.drew.heap[b3]?=_:=k3
 have hlt:w.heap.size+1<W0.drew.heap.size:=hlt
 generalize W0.drew=W0 at*
 refine tJ 0 9 rfl rfl ?_
 try simp only[au]
 refine tJ 1 10 rfl rfl ?_
 try simp only[au]
 refine tJ 3 12 rfl rfl ?_
 try simp only[au]
 refine tJ 4 13 rfl rfl ?_
 try simp only[au]
 refine tJ 6 15 rfl rfl ?_
 try simp only[au]
 refine tJ 7 16 rfl rfl ?_
 try simp only[au]
 refine wpAnyH_ready (rs:=[2]) (by kernel_rfl) (by simp) ?_
 refine aI (some 11) rfl rfl (fun K hK=> ?_) AllReadyH.nil
 go_simp
 refine(iX A1 A2 A3 A4 c1 c2 c3 c4 f l _ ((hf.below (hb.mono hn)).more (by have:=hb.size;omega)).li hm.li).mono ?_
 rintro e w1 ⟨he,hx⟩
 have hb:Below w.heap.size w w1:=hb.trans (hx.mono hb.size)
 cases h0:Pl.eX f l with
 |none=>
  rw[h0]at he
  subst he
  exact⟨rfl,jf.no (by rw[HL.out,h0];rfl) (aU.of_below hb hn) rfl⟩
 |some i0=>
 rw[h0]at he
 subst he
 have H0:=Lib.hid h0
 clear h0
 have kf:=kE hx kf
 have kr:=kE hx kr
 have k0:=kE hx k0
 have k1:=kE hx k1
 have k2:=kE hx k2
 have k3:=kE hx k3
 clear hx
 refine hK.out _ _ ⟨ak kf underlying28 rfl av,(ah k0).1 0,(ah k1).1 0,(ah k2).1 0,(ah k3).1 0⟩ (fun hHeld=> ?_)
 clear hK K
 try simp only[au]
 refine wpAnyH_ready (rs:=[5]) (by kernel_rfl) (by simp) ?_
 refine aI (some 14) rfl rfl (fun K hK=> ?_) AllReadyH.nil
 go_simp
 refine(eF A1 A2 A3 A4 c1 c2 c3 c4 f fr _ ((hf.below (hb.mono hn)).more (by have:=hb.size;omega)).st hm.st).mono ?_
 rintro e w2 ⟨he,hx⟩
 have hb:Below w.heap.size w w2:=hb.trans (hx.mono hb.size)
 cases h1:Pl.dW f fr with
 |none=>
  rw[h1]at he
  subst he
  exact⟨rfl,jf.no (by rw[HL.out,H0.out,h1];rfl) (aU.of_below hb hn) rfl⟩
 |some i1=>
 rw[h1]at he
 subst he
 have H1:=Lib.hid h1
 clear h1
 have kf:=kE hx kf
 have kr:=kE hx kr
 have k0:=kE hx k0
 have k1:=kE hx k1
 have k2:=kE hx k2
 have k3:=kE hx k3
 clear hx
 refine hK.out _ _ ⟨ak kf underlying28 rfl av,(ah k0).1 0,(ah k1).1 0,(ah k2).1 0,(ah k3).1 0⟩ (fun hHeld=> ?_)
 clear hK K
 try simp only[au]
 refine tJ 8 17 rfl rfl ?_
 try simp only[au]
 obtain⟨W5,hst,FM,hg⟩:=aG _ (w.heap.size+1) _ 48 _ (ka 1 (i0:Int) 0 (i1:Int) 0 size er) kr aj rfl (by simp[Value.oneCell'])
 have hld:=ak FM underlying48 rfl aj
 have hb5:Below w.heap.size w W5:=hb.grown hg hb.size (fun k e=>by cases e;omega)
 have kf:=(hg.block _ (lO kf) (by simp)).trans kf
 have k0:=(hg.block _ (lO k0) (by have:=zl;simp;omega)).trans k0
 have k1:=(hg.block _ (lO k1) (by have:=zm;simp;omega)).trans k1
 have k2:=(hg.block _ (lO k2) (by have:=zn;simp;omega)).trans k2
 have k3:=(hg.block _ (lO k3) (by have:=FL;simp;omega)).trans k3
 refine wpAnyH_ready (rs:=[9]) (by kernel_rfl) (by simp) ?_
 refine aI none rfl rfl (fun K hK=> ?_) AllReadyH.nil
 go_simp
 refine hK.out _ _ ⟨ak kf underlying28 rfl av,(ah k0).1 0,(ah k1).1 0,(ah k2).1 0,(ah k3).1 0⟩ (fun hHeld=> ?_)
 clear hK K
 try simp only[au]
 refine wpAnyH_done (by kernel_rfl) ?_ _
 go_wp2
 refine bodyPost_ret (v:=.agg (ka 1 (i0:Int) 0 (i1:Int) 0 size er)) (by simp[results,results223,go_sem,hld]) rfl ?_
 exact jf.ok ⟨1,i0,0,i1,0,size,er,Pl.bF.zero⟩ (by rw[HL.out,H0.out,H1.out];rfl) (aU.of_below hb5 hn) rfl
theorem Bl (f:Pl.aL)(l o fr:ByteArray)(size er:Int)(year:Int):Pl.looked f ⟨2,l,o,fr,⟨#[]⟩,size,er,Pl.bF.zero⟩ year=(Pl.eX f l).bind fun(i0:Nat)=>(Pl.eX f o).bind fun(i1:Nat)=>(Pl.dW f fr).bind fun(i2:Nat)=>some (⟨2,((i0:Nat):Int),((i1:Nat):Int),((i2:Nat):Int),0,size,er,Pl.bF.zero⟩:Pl.aZ):=by
 unfold Pl.looked
 cases Pl.eX f l<;>cases Pl.eX f o<;>cases Pl.dW f fr<;>rfl
theorem FN (n₀ N:Nat)(l o fr:ByteArray)(size er:Int)(b0 b1 b2 b3 b4:Nat)(year:Int)(w:World)(hf:bB w n₀ A1 A2 A3 A4 f)(hn:n₀<=w.heap.size)(hm:Small f)
  (k0:w.heap[b0]?=some (.cells #[.string l] 9 (0,0))) (k1:w.heap[b1]?=some (.cells #[.string o] 9 (0,0))) (k2:w.heap[b2]?=some (.cells #[.string fr] 9 (0,0))) (k3:w.heap[b3]?=some (.cells #[.int .i64 size] 3 (0,0))) (k4:w.heap[b4]?=some (.cells #[.int .i64 er] 3 (0,0))):
  Calls prog 225 #[.agg (fq A1 A2 A3 A4 c1 c2 c3 c4 f),.int .i64 year,.pointer (some ⟨b0,0,none⟩),.pointer (some ⟨b1,0,none⟩),.pointer (some ⟨b2,0,none⟩),.pointer (some ⟨b3,0,none⟩),.pointer (some ⟨b4,0,none⟩)] w (jf n₀ N w (Pl.looked f ⟨2,l,o,fr,⟨#[]⟩,size,er,Pl.bF.zero⟩ year)):=by
 have zl:=(lO k0)
 have zm:=(lO k1)
 have zn:=(lO k2)
 have FL:=(lO k3)
 have QJ:=(lO k4)
 have HL:=Lib.hid (Bl f l o fr size er year)
 have kf:=heap_alloc2_old w (.cells (fq A1 A2 A3 A4 c1 c2 c3 c4 f) 28) (.cells bP 48)
 have kr:=heap_alloc2_new w (.cells (fq A1 A2 A3 A4 c1 c2 c3 c4 f) 28) (.cells bP 48)
 have hb:Below w.heap.size w ((w.alloc (.cells (fq A1 A2 A3 A4 c1 c2 c3 c4 f) 28)).alloc (.cells bP 48)):=((Below.refl _ w).alloc (Nat.le_refl _) _).alloc (by simp) _
 have k0:=(hb.block b0 (lO k0)).trans k0
 have k1:=(hb.block b1 (lO k1)).trans k1
 have k2:=(hb.block b2 (lO k2)).trans k2
 have k3:=(hb.block b3 (lO k3)).trans k3
 have k4:=(hb.block b4 (lO k4)).trans k4
 go_enter func225,ntmps225
 go_wp2
 generalize (w.alloc (.cells (fq A1 A2 A3 A4 c1 c2 c3 c4 f) 28)).alloc (.cells bP 48)=W0 at*
 have hlt:=(lO kr)
 refine wp_region_held_drew (S:=fun W=>(loadVar 28 ⟨w.heap.size,0,none⟩).run prog W=.ok (.agg (fq A1 A2 A3 A4 c1 c2 c3 c4 f)) W∧W.cell? ⟨b0,0,none⟩=some (.string l)∧W.cell? ⟨b1,0,none⟩=some (.string o)∧W.cell? ⟨b2,0,none⟩=some (.string fr)∧W.cell? ⟨b3,0,none⟩=some (.int .i64 size)∧W.cell? ⟨b4,0,none⟩=some (.int .i64 er)) (by kernel_rfl) ⟨ak kf underlying28 rfl av,(ah k0).1 0,(ah k1).1 0,(ah k2).1 0,(ah k3).1 0,(ah k4).1 0⟩ (fun hHeld=> ?_)
 have hb:Below w.heap.size w W0.drew:=hb.drew
 have kf:W0.drew.heap[w.heap.size]?=_:=kf
 have kr:W0.drew.heap[w.heap.size+1]?=_:=kr
 have k0:W0.drew.heap[b0]?=_:=k0
 have k1:W0.drew.heap[b1]?=_:=k1
 have k2:W0.drew.heap[b2]?=_:=k2
 have k3:W0.drew.heap[b3]?=_:=k3
 have k4:W0.drew.heap[b4]?=_:=k4
 have hlt:w.heap.size+1<W0.drew.heap.size:=hlt
 generalize W0.drew=W0 at*
 refine tJ 0 10 rfl rfl ?_
 try simp only[au]
 refine tJ 1 11 rfl rfl ?_
 try simp only[au]
 refine tJ 3 13 rfl rfl ?_
 try simp only[au]
 refine tJ 4 14 rfl rfl ?_
 try simp only[au]
 refine tJ 6 16 rfl rfl ?_
 try simp only[au]
 refine tJ 7 17 rfl rfl ?_
 try simp only[au]
 refine tJ 9 19 rfl rfl ?_
 try simp only[au]
 refine tJ 10 20 rfl rfl ?_
 try simp only[au]
 refine wpAnyH_ready (rs:=[2]) (by kernel_rfl) (by simp) ?_
 refine aI (some 12) rfl rfl (fun K hK=> ?_) AllReadyH.nil
 go_simp
 refine(iX A1 A2 A3 A4 c1 c2 c3 c4 f l _ ((hf.below (hb.mono hn)).more (by have:=hb.size;omega)).li hm.li).mono ?_
 rintro e w1 ⟨he,hx⟩
 have hb:Below w.heap.size w w1:=hb.trans (hx.mono hb.size)
 cases h0:Pl.eX f l with
 |none=>
  rw[h0]at he
  subst he
  exact⟨rfl,jf.no (by rw[HL.out,h0];rfl) (aU.of_below hb hn) rfl⟩
 |some i0=>
 rw[h0]at he
 subst he
 have H0:=Lib.hid h0
 clear h0
 have kf:=kE hx kf
 have kr:=kE hx kr
 have k0:=kE hx k0
 have k1:=kE hx k1
 have k2:=kE hx k2
 have k3:=kE hx k3
 have k4:=kE hx k4
 clear hx
 refine hK.out _ _ ⟨ak kf underlying28 rfl av,(ah k0).1 0,(ah k1).1 0,(ah k2).1 0,(ah k3).1 0,(ah k4).1 0⟩ (fun hHeld=> ?_)
 clear hK K
 try simp only[au]
 refine wpAnyH_ready (rs:=[5]) (by kernel_rfl) (by simp) ?_
 refine aI (some 15) rfl rfl (fun K hK=> ?_) AllReadyH.nil
 go_simp
 refine(iX A1 A2 A3 A4 c1 c2 c3 c4 f o _ ((hf.below (hb.mono hn)).more (by have:=hb.size;omega)).li hm.li).mono ?_
 rintro e w2 ⟨he,hx⟩
 have hb:Below w.heap.size w w2:=hb.trans (hx.mono hb.size)
 cases h1:Pl.eX f o with
 |none=>
  rw[h1]at he
  subst he
  exact⟨rfl,jf.no (by rw[HL.out,H0.out,h1];rfl) (aU.of_below hb hn) rfl⟩
 |some i1=>
 rw[h1]at he
 subst he
 have H1:=Lib.hid h1
 clear h1
 have kf:=kE hx kf
 have kr:=kE hx kr
 have k0:=kE hx k0
 have k1:=kE hx k1
 have k2:=kE hx k2
 have k3:=kE hx k3
 have k4:=kE hx k4
 clear hx
 refine hK.out _ _ ⟨ak kf underlying28 rfl av,(ah k0).1 0,(ah k1).1 0,(ah k2).1 0,(ah k3).1 0,(ah k4).1 0⟩ (fun hHeld=> ?_)
 clear hK K
 try simp only[au]
 refine wpAnyH_ready (rs:=[8]) (by kernel_rfl) (by simp) ?_
 refine aI (some 18) rfl rfl (fun K hK=> ?_) AllReadyH.nil
 go_simp
 refine(eF A1 A2 A3 A4 c1 c2 c3 c4 f fr _ ((hf.below (hb.mono hn)).more (by have:=hb.size;omega)).st hm.st).mono ?_
 rintro e w3 ⟨he,hx⟩
 have hb:Below w.heap.size w w3:=hb.trans (hx.mono hb.size)
 cases h2:Pl.dW f fr with
 |none=>
  rw[h2]at he
  subst he
  exact⟨rfl,jf.no (by rw[HL.out,H0.out,H1.out,h2];rfl) (aU.of_below hb hn) rfl⟩
 |some i2=>
 rw[h2]at he
 subst he
 have H2:=Lib.hid h2
 clear h2
 have kf:=kE hx kf
 have kr:=kE hx kr
 have k0:=kE hx k0
 have k1:=kE hx k1
 have k2:=kE hx k2
 have k3:=kE hx k3
 have k4:=kE hx k4
 clear hx
 refine hK.out _ _ ⟨ak kf underlying28 rfl av,(ah k0).1 0,(ah k1).1 0,(ah k2).1 0,(ah k3).1 0,(ah k4).1 0⟩ (fun hHeld=> ?_)
 clear hK K
 try simp only[au]
 refine tJ 11 21 rfl rfl ?_
 try simp only[au]
 obtain⟨W5,hst,FM,hg⟩:=aG _ (w.heap.size+1) _ 48 _ (ka 2 (i0:Int) (i1:Int) (i2:Int) 0 size er) kr aj rfl (by simp[Value.oneCell'])
 have hld:=ak FM underlying48 rfl aj
 have hb5:Below w.heap.size w W5:=hb.grown hg hb.size (fun k e=>by cases e;omega)
 have kf:=(hg.block _ (lO kf) (by simp)).trans kf
 have k0:=(hg.block _ (lO k0) (by have:=zl;simp;omega)).trans k0
 have k1:=(hg.block _ (lO k1) (by have:=zm;simp;omega)).trans k1
 have k2:=(hg.block _ (lO k2) (by have:=zn;simp;omega)).trans k2
 have k3:=(hg.block _ (lO k3) (by have:=FL;simp;omega)).trans k3
 have k4:=(hg.block _ (lO k4) (by have:=QJ;simp;omega)).trans k4
 refine wpAnyH_ready (rs:=[12]) (by kernel_rfl) (by simp) ?_
 refine aI none rfl rfl (fun K hK=> ?_) AllReadyH.nil
 go_simp
 refine hK.out _ _ ⟨ak kf underlying28 rfl av,(ah k0).1 0,(ah k1).1 0,(ah k2).1 0,(ah k3).1 0,(ah k4).1 0⟩ (fun hHeld=> ?_)
 clear hK K
 try simp only[au]
 refine wpAnyH_done (by kernel_rfl) ?_ _
 go_wp2
 refine bodyPost_ret (v:=.agg (ka 2 (i0:Int) (i1:Int) (i2:Int) 0 size er)) (by simp[results,results225,go_sem,hld]) rfl ?_
 exact jf.ok ⟨2,i0,i1,i2,0,size,er,Pl.bF.zero⟩ (by rw[HL.out,H0.out,H1.out,H2.out];rfl) (aU.of_below hb5 hn) rfl
theorem Bn (f:Pl.aL)(l o fr t:ByteArray)(year:Int):Pl.looked f ⟨4,l,o,fr,t,0,0,Pl.bF.zero⟩ year=(Pl.eX f l).bind fun(i0:Nat)=>(Pl.eX f o).bind fun(i1:Nat)=>(Pl.dW f fr).bind fun(i2:Nat)=>(Pl.dW f t).bind fun(i3:Nat)=>some (⟨4,((i0:Nat):Int),((i1:Nat):Int),((i2:Nat):Int),((i3:Nat):Int),0,0,Pl.bF.zero⟩:Pl.aZ):=by
 unfold Pl.looked
 cases Pl.eX f l<;>cases Pl.eX f o<;>cases Pl.dW f fr<;>cases Pl.dW f t<;>rfl
theorem FP (n₀ N:Nat)(l o fr t:ByteArray)(b0 b1 b2 b3:Nat)(year:Int)(w:World)(hf:bB w n₀ A1 A2 A3 A4 f)(hn:n₀<=w.heap.size)(hm:Small f)
  (k0:w.heap[b0]?=some (.cells #[.string l] 9 (0,0))) (k1:w.heap[b1]?=some (.cells #[.string o] 9 (0,0))) (k2:w.heap[b2]?=some (.cells #[.string fr] 9 (0,0))) (k3:w.heap[b3]?=some (.cells #[.string t] 9 (0,0))):
  Calls prog 227 #[.agg (fq A1 A2 A3 A4 c1 c2 c3 c4 f),.int .i64 year,.pointer (some ⟨b0,0,none⟩),.pointer (some ⟨b1,0,none⟩),.pointer (some ⟨b2,0,none⟩),.pointer (some ⟨b3,0,none⟩)] w (jf n₀ N w (Pl.looked f ⟨4,l,o,fr,t,0,0,Pl.bF.zero⟩ year)):=by
 have zl:=(lO k0)
 have zm:=(lO k1)
 have zn:=(lO k2)
 have FL:=(lO k3)
 have HL:=Lib.hid (Bn f l o fr t year)
 have kf:=heap_alloc2_old w (.cells (fq A1 A2 A3 A4 c1 c2 c3 c4 f) 28) (.cells bP 48)
 have kr:=heap_alloc2_new w (.cells (fq A1 A2 A3 A4 c1 c2 c3 c4 f) 28) (.cells bP 48)
 have hb:Below w.heap.size w ((w.alloc (.cells (fq A1 A2 A3 A4 c1 c2 c3 c4 f) 28)).alloc (.cells bP 48)):=((Below.refl _ w).alloc (Nat.le_refl _) _).alloc (by simp) _
 have k0:=(hb.block b0 (lO k0)).trans k0
 have k1:=(hb.block b1 (lO k1)).trans k1
 have k2:=(hb.block b2 (lO k2)).trans k2
 have k3:=(hb.block b3 (lO k3)).trans k3
 go_enter func227,ntmps227
 go_wp2
 generalize (w.alloc (.cells (fq A1 A2 A3 A4 c1 c2 c3 c4 f) 28)).alloc (.cells bP 48)=W0 at*
 have hlt:=(lO kr)
 refine wp_region_held_drew (S:=fun W=>(loadVar 28 ⟨w.heap.size,0,none⟩).run prog W=.ok (.agg (fq A1 A2 A3 A4 c1 c2 c3 c4 f)) W∧W.cell? ⟨b0,0,none⟩=some (.string l)∧W.cell? ⟨b1,0,none⟩=some (.string o)∧W.cell? ⟨b2,0,none⟩=some (.string fr)∧W.cell? ⟨b3,0,none⟩=some (.string t)) (by kernel_rfl) ⟨ak kf underlying28 rfl av,(ah k0).1 0,(ah k1).1 0,(ah k2).1 0,(ah k3).1 0⟩ (fun hHeld=> ?_)
 have hb:Below w.heap.size w W0.drew:=hb.drew
 have kf:W0.drew.heap[w.heap.size]?=_:=kf
 have kr:W0.drew.heap[w.heap.size+1]?=_:=kr
 have k0:W0.drew.heap[b0]?=_:=k0
 have k1:W0.drew.heap[b1]?=_:=k1
 have k2:W0.drew.heap[b2]?=_:=k2
 have k3:W0.drew.heap[b3]?=_:=k3
 have hlt:w.heap.size+1<W0.drew.heap.size:=hlt
 generalize W0.drew=W0 at*
 refine tJ 0 9 rfl rfl ?_
 try simp only[au]
 refine tJ 1 10 rfl rfl ?_
 try simp only[au]
 refine tJ 3 12 rfl rfl ?_
 try simp only[au]
 refine tJ 4 13 rfl rfl ?_
 try simp only[au]
 refine tJ 6 15 rfl rfl ?_
 try simp only[au]
 refine tJ 7 16 rfl rfl ?_
 try simp only[au]
 refine tJ 9 18 rfl rfl ?_
 try simp only[au]
 refine tJ 10 19 rfl rfl ?_
 try simp only[au]
 refine wpAnyH_ready (rs:=[2]) (by kernel_rfl) (by simp) ?_
 refine aI (some 11) rfl rfl (fun K hK=> ?_) AllReadyH.nil
 go_simp
 refine(iX A1 A2 A3 A4 c1 c2 c3 c4 f l _ ((hf.below (hb.mono hn)).more (by have:=hb.size;omega)).li hm.li).mono ?_
 rintro e w1 ⟨he,hx⟩
 have hb:Below w.heap.size w w1:=hb.trans (hx.mono hb.size)
 cases h0:Pl.eX f l with
 |none=>
  rw[h0]at he
  subst he
  exact⟨rfl,jf.no (by rw[HL.out,h0];rfl) (aU.of_below hb hn) rfl⟩
 |some i0=>
 rw[h0]at he
 subst he
 have H0:=Lib.hid h0
 clear h0
 have kf:=kE hx kf
 have kr:=kE hx kr
 have k0:=kE hx k0
 have k1:=kE hx k1
 have k2:=kE hx k2
 have k3:=kE hx k3
 clear hx
 refine hK.out _ _ ⟨ak kf underlying28 rfl av,(ah k0).1 0,(ah k1).1 0,(ah k2).1 0,(ah k3).1 0⟩ (fun hHeld=> ?_)
 clear hK K
 try simp only[au]
 refine wpAnyH_ready (rs:=[5]) (by kernel_rfl) (by simp) ?_
 refine aI (some 14) rfl rfl (fun K hK=> ?_) AllReadyH.nil
 go_simp
 refine(iX A1 A2 A3 A4 c1 c2 c3 c4 f o _ ((hf.below (hb.mono hn)).more (by have:=hb.size;omega)).li hm.li).mono ?_
 rintro e w2 ⟨he,hx⟩
 have hb:Below w.heap.size w w2:=hb.trans (hx.mono hb.size)
 cases h1:Pl.eX f o with
 |none=>
  rw[h1]at he
  subst he
  exact⟨rfl,jf.no (by rw[HL.out,H0.out,h1];rfl) (aU.of_below hb hn) rfl⟩
 |some i1=>
 rw[h1]at he
 subst he
 have H1:=Lib.hid h1
 clear h1
 have kf:=kE hx kf
 have kr:=kE hx kr
 have k0:=kE hx k0
 have k1:=kE hx k1
 have k2:=kE hx k2
 have k3:=kE hx k3
 clear hx
 refine hK.out _ _ ⟨ak kf underlying28 rfl av,(ah k0).1 0,(ah k1).1 0,(ah k2).1 0,(ah k3).1 0⟩ (fun hHeld=> ?_)
 clear hK K
 try simp only[au]
 refine wpAnyH_ready (rs:=[8]) (by kernel_rfl) (by simp) ?_
 refine aI (some 17) rfl rfl (fun K hK=> ?_) AllReadyH.nil
 go_simp
 refine(eF A1 A2 A3 A4 c1 c2 c3 c4 f fr _ ((hf.below (hb.mono hn)).more (by have:=hb.size;omega)).st hm.st).mono ?_
 rintro e w3 ⟨he,hx⟩
 have hb:Below w.heap.size w w3:=hb.trans (hx.mono hb.size)
 cases h2:Pl.dW f fr with
 |none=>
  rw[h2]at he
  subst he
  exact⟨rfl,jf.no (by rw[HL.out,H0.out,H1.out,h2];rfl) (aU.of_below hb hn) rfl⟩
 |some i2=>
 rw[h2]at he
 subst he
 have H2:=Lib.hid h2
 clear h2
 have kf:=kE hx kf
 have kr:=kE hx kr
 have k0:=kE hx k0
 have k1:=kE hx k1
 have k2:=kE hx k2
 have k3:=kE hx k3
 clear hx
 refine hK.out _ _ ⟨ak kf underlying28 rfl av,(ah k0).1 0,(ah k1).1 0,(ah k2).1 0,(ah k3).1 0⟩ (fun hHeld=> ?_)
 clear hK K
 try simp only[au]
 refine wpAnyH_ready (rs:=[11]) (by kernel_rfl) (by simp) ?_
 refine aI (some 20) rfl rfl (fun K hK=> ?_) AllReadyH.nil
 go_simp
 refine(eF A1 A2 A3 A4 c1 c2 c3 c4 f t _ ((hf.below (hb.mono hn)).more (by have:=hb.size;omega)).st hm.st).mono ?_
 rintro e w4 ⟨he,hx⟩
 have hb:Below w.heap.size w w4:=hb.trans (hx.mono hb.size)
 cases h3:Pl.dW f t with
 |none=>
  rw[h3]at he
  subst he
  exact⟨rfl,jf.no (by rw[HL.out,H0.out,H1.out,H2.out,h3];rfl) (aU.of_below hb hn) rfl⟩
 |some i3=>
 rw[h3]at he
 subst he
 have H3:=Lib.hid h3
 clear h3
 have kf:=kE hx kf
 have kr:=kE hx kr
 have k0:=kE hx k0
 have k1:=kE hx k1
 have k2:=kE hx k2
 have k3:=kE hx k3
 clear hx
 refine hK.out _ _ ⟨ak kf underlying28 rfl av,(ah k0).1 0,(ah k1).1 0,(ah k2).1 0,(ah k3).1 0⟩ (fun hHeld=> ?_)
 clear hK K
 try simp only[au]
 refine tJ 12 21 rfl rfl ?_
 try simp only[au]
 obtain⟨W5,hst,FM,hg⟩:=aG _ (w.heap.size+1) _ 48 _ (ka 4 (i0:Int) (i1:Int) (i2:Int) (i3:Int) 0 0) kr aj rfl (by simp[Value.oneCell'])
 have hld:=ak FM underlying48 rfl aj
 have hb5:Below w.heap.size w W5:=hb.grown hg hb.size (fun k e=>by cases e;omega)
 have kf:=(hg.block _ (lO kf) (by simp)).trans kf
 have k0:=(hg.block _ (lO k0) (by have:=zl;simp;omega)).trans k0
 have k1:=(hg.block _ (lO k1) (by have:=zm;simp;omega)).trans k1
 have k2:=(hg.block _ (lO k2) (by have:=zn;simp;omega)).trans k2
 have k3:=(hg.block _ (lO k3) (by have:=FL;simp;omega)).trans k3
 refine wpAnyH_ready (rs:=[13]) (by kernel_rfl) (by simp) ?_
 refine aI none rfl rfl (fun K hK=> ?_) AllReadyH.nil
 go_simp
 refine hK.out _ _ ⟨ak kf underlying28 rfl av,(ah k0).1 0,(ah k1).1 0,(ah k2).1 0,(ah k3).1 0⟩ (fun hHeld=> ?_)
 clear hK K
 try simp only[au]
 refine wpAnyH_done (by kernel_rfl) ?_ _
 go_wp2
 refine bodyPost_ret (v:=.agg (ka 4 (i0:Int) (i1:Int) (i2:Int) (i3:Int) 0 0)) (by simp[results,results227,go_sem,hld]) rfl ?_
 exact jf.ok ⟨4,i0,i1,i2,i3,0,0,Pl.bF.zero⟩ (by rw[HL.out,H0.out,H1.out,H2.out,H3.out];rfl) (aU.of_below hb5 hn) rfl
theorem Bo (f:Pl.aL)(l fr t:ByteArray)(size er:Int)(year:Int):Pl.looked f ⟨5,l,⟨#[]⟩,fr,t,size,er,Pl.bF.zero⟩ year=(Pl.eX f l).bind fun(i0:Nat)=>(Pl.dW f fr).bind fun(i1:Nat)=>(Pl.dW f t).bind fun(i2:Nat)=>some (⟨5,((i0:Nat):Int),0,((i1:Nat):Int),((i2:Nat):Int),size,er,Pl.bF.zero⟩:Pl.aZ):=by
 unfold Pl.looked
 cases Pl.eX f l<;>cases Pl.dW f fr<;>cases Pl.dW f t<;>rfl
theorem FQ (n₀ N:Nat)(l fr t:ByteArray)(size er:Int)(b0 b1 b2 b3 b4:Nat)(year:Int)(w:World)(hf:bB w n₀ A1 A2 A3 A4 f)(hn:n₀<=w.heap.size)(hm:Small f)
  (k0:w.heap[b0]?=some (.cells #[.string l] 9 (0,0))) (k1:w.heap[b1]?=some (.cells #[.string fr] 9 (0,0))) (k2:w.heap[b2]?=some (.cells #[.string t] 9 (0,0))) (k3:w.heap[b3]?=some (.cells #[.int .i64 size] 3 (0,0))) (k4:w.heap[b4]?=some (.cells #[.int .i64 er] 3 (0,0))):
  Calls prog 229 #[.agg (fq A1 A2 A3 A4 c1 c2 c3 c4 f),.int .i64 year,.pointer (some ⟨b0,0,none⟩),.pointer (some ⟨b1,0,none⟩),.pointer (some ⟨b2,0,none⟩),.pointer (some ⟨b3,0,none⟩),.pointer (some ⟨b4,0,none⟩)] w (jf n₀ N w (Pl.looked f ⟨5,l,⟨#[]⟩,fr,t,size,er,Pl.bF.zero⟩ year)):=by
 have zl:=(lO k0)
 have zm:=(lO k1)
 have zn:=(lO k2)
 have FL:=(lO k3)
 have QJ:=(lO k4)
 have HL:=Lib.hid (Bo f l fr t size er year)
 have kf:=heap_alloc2_old w (.cells (fq A1 A2 A3 A4 c1 c2 c3 c4 f) 28) (.cells bP 48)
 have kr:=heap_alloc2_new w (.cells (fq A1 A2 A3 A4 c1 c2 c3 c4 f) 28) (.cells bP 48)
 have hb:Below w.heap.size w ((w.alloc (.cells (fq A1 A2 A3 A4 c1 c2 c3 c4 f) 28)).alloc (.cells bP 48)):=((Below.refl _ w).alloc (Nat.le_refl _) _).alloc (by simp) _
 have k0:=(hb.block b0 (lO k0)).trans k0
 have k1:=(hb.block b1 (lO k1)).trans k1
 have k2:=(hb.block b2 (lO k2)).trans k2
 have k3:=(hb.block b3 (lO k3)).trans k3
 have k4:=(hb.block b4 (lO k4)).trans k4
 go_enter func229,ntmps229
 go_wp2
 generalize (w.alloc (.cells (fq A1 A2 A3 A4 c1 c2 c3 c4 f) 28)).alloc (.cells bP 48)=W0 at*
 have hlt:=(lO kr)
 refine wp_region_held_drew (S:=fun W=>(loadVar 28 ⟨w.heap.size,0,none⟩).run prog W=.ok (.agg (fq A1 A2 A3 A4 c1 c2 c3 c4 f)) W∧W.cell? ⟨b0,0,none⟩=some (.string l)∧W.cell? ⟨b1,0,none⟩=some (.string fr)∧W.cell? ⟨b2,0,none⟩=some (.string t)∧W.cell? ⟨b3,0,none⟩=some (.int .i64 size)∧W.cell? ⟨b4,0,none⟩=some (.int .i64 er)) (by kernel_rfl) ⟨ak kf underlying28 rfl av,(ah k0).1 0,(ah k1).1 0,(ah k2).1 0,(ah k3).1 0,(ah k4).1 0⟩ (fun hHeld=> ?_)
 have hb:Below w.heap.size w W0.drew:=hb.drew
 have kf:W0.drew.heap[w.heap.size]?=_:=kf
 have kr:W0.drew.heap[w.heap.size+1]?=_:=kr
 have k0:W0.drew.heap[b0]?=_:=k0
 have k1:W0.drew.heap[b1]?=_:=k1
 have k2:W0.drew.heap[b2]?=_:=k2
 have k3:W0.drew.heap[b3]?=_:=k3
 have k4:W0.drew.heap[b4]?=_:=k4
 have hlt:w.heap.size+1<W0.drew.heap.size:=hlt
 generalize W0.drew=W0 at*
 refine tJ 0 10 rfl rfl ?_
 try simp only[au]
 refine tJ 1 11 rfl rfl ?_
 try simp only[au]
 refine tJ 3 13 rfl rfl ?_
 try simp only[au]
 refine tJ 4 14 rfl rfl ?_
 try simp only[au]
 refine tJ 6 16 rfl rfl ?_
 try simp only[au]
 refine tJ 7 17 rfl rfl ?_
 try simp only[au]
 refine tJ 9 19 rfl rfl ?_
 try simp only[au]
 refine tJ 10 20 rfl rfl ?_
 try simp only[au]
 refine wpAnyH_ready (rs:=[2]) (by kernel_rfl) (by simp) ?_
 refine aI (some 12) rfl rfl (fun K hK=> ?_) AllReadyH.nil
 go_simp
 refine(iX A1 A2 A3 A4 c1 c2 c3 c4 f l _ ((hf.below (hb.mono hn)).more (by have:=hb.size;omega)).li hm.li).mono ?_
 rintro e w1 ⟨he,hx⟩
 have hb:Below w.heap.size w w1:=hb.trans (hx.mono hb.size)
 cases h0:Pl.eX f l with
 |none=>
  rw[h0]at he
  subst he
  exact⟨rfl,jf.no (by rw[HL.out,h0];rfl) (aU.of_below hb hn) rfl⟩
 |some i0=>
 rw[h0]at he
 subst he
 have H0:=Lib.hid h0
 clear h0
 have kf:=kE hx kf
 have kr:=kE hx kr
 have k0:=kE hx k0
 have k1:=kE hx k1
 have k2:=kE hx k2
 have k3:=kE hx k3
 have k4:=kE hx k4
 clear hx
 refine hK.out _ _ ⟨ak kf underlying28 rfl av,(ah k0).1 0,(ah k1).1 0,(ah k2).1 0,(ah k3).1 0,(ah k4).1 0⟩ (fun hHeld=> ?_)
 clear hK K
 try simp only[au]
 refine wpAnyH_ready (rs:=[5]) (by kernel_rfl) (by simp) ?_
 refine aI (some 15) rfl rfl (fun K hK=> ?_) AllReadyH.nil
 go_simp
 refine(eF A1 A2 A3 A4 c1 c2 c3 c4 f fr _ ((hf.below (hb.mono hn)).more (by have:=hb.size;omega)).st hm.st).mono ?_
 rintro e w2 ⟨he,hx⟩
 have hb:Below w.heap.size w w2:=hb.trans (hx.mono hb.size)
 cases h1:Pl.dW f fr with
 |none=>
  rw[h1]at he
  subst he
  exact⟨rfl,jf.no (by rw[HL.out,H0.out,h1];rfl) (aU.of_below hb hn) rfl⟩
 |some i1=>
 rw[h1]at he
 subst he
 have H1:=Lib.hid h1
 clear h1
 have kf:=kE hx kf
 have kr:=kE hx kr
 have k0:=kE hx k0
 have k1:=kE hx k1
 have k2:=kE hx k2
 have k3:=kE hx k3
 have k4:=kE hx k4
 clear hx
 refine hK.out _ _ ⟨ak kf underlying28 rfl av,(ah k0).1 0,(ah k1).1 0,(ah k2).1 0,(ah k3).1 0,(ah k4).1 0⟩ (fun hHeld=> ?_)
 clear hK K
 try simp only[au]
 refine wpAnyH_ready (rs:=[8]) (by kernel_rfl) (by simp) ?_
 refine aI (some 18) rfl rfl (fun K hK=> ?_) AllReadyH.nil
 go_simp
 refine(eF A1 A2 A3 A4 c1 c2 c3 c4 f t _ ((hf.below (hb.mono hn)).more (by have:=hb.size;omega)).st hm.st).mono ?_
 rintro e w3 ⟨he,hx⟩
 have hb:Below w.heap.size w w3:=hb.trans (hx.mono hb.size)
 cases h2:Pl.dW f t with
 |none=>
  rw[h2]at he
  subst he
  exact⟨rfl,jf.no (by rw[HL.out,H0.out,H1.out,h2];rfl) (aU.of_below hb hn) rfl⟩
 |some i2=>
 rw[h2]at he
 subst he
 have H2:=Lib.hid h2
 clear h2
 have kf:=kE hx kf
 have kr:=kE hx kr
 have k0:=kE hx k0
 have k1:=kE hx k1
 have k2:=kE hx k2
 have k3:=kE hx k3
 have k4:=kE hx k4
 clear hx
 refine hK.out _ _ ⟨ak kf underlying28 rfl av,(ah k0).1 0,(ah k1).1 0,(ah k2).1 0,(ah k3).1 0,(ah k4).1 0⟩ (fun hHeld=> ?_)
 clear hK K
 try simp only[au]
 refine tJ 11 21 rfl rfl ?_
 try simp only[au]
 obtain⟨W5,hst,FM,hg⟩:=aG _ (w.heap.size+1) _ 48 _ (ka 5 (i0:Int) 0 (i1:Int) (i2:Int) size er) kr aj rfl (by simp[Value.oneCell'])
 have hld:=ak FM underlying48 rfl aj
 have hb5:Below w.heap.size w W5:=hb.grown hg hb.size (fun k e=>by cases e;omega)
 have kf:=(hg.block _ (lO kf) (by simp)).trans kf
 have k0:=(hg.block _ (lO k0) (by have:=zl;simp;omega)).trans k0
 have k1:=(hg.block _ (lO k1) (by have:=zm;simp;omega)).trans k1
 have k2:=(hg.block _ (lO k2) (by have:=zn;simp;omega)).trans k2
 have k3:=(hg.block _ (lO k3) (by have:=FL;simp;omega)).trans k3
 have k4:=(hg.block _ (lO k4) (by have:=QJ;simp;omega)).trans k4
 refine wpAnyH_ready (rs:=[12]) (by kernel_rfl) (by simp) ?_
 refine aI none rfl rfl (fun K hK=> ?_) AllReadyH.nil
 go_simp
 refine hK.out _ _ ⟨ak kf underlying28 rfl av,(ah k0).1 0,(ah k1).1 0,(ah k2).1 0,(ah k3).1 0,(ah k4).1 0⟩ (fun hHeld=> ?_)
 clear hK K
 try simp only[au]
 refine wpAnyH_done (by kernel_rfl) ?_ _
 go_wp2
 refine bodyPost_ret (v:=.agg (ka 5 (i0:Int) 0 (i1:Int) (i2:Int) size er)) (by simp[results,results229,go_sem,hld]) rfl ?_
 exact jf.ok ⟨5,i0,0,i1,i2,size,er,Pl.bF.zero⟩ (by rw[HL.out,H0.out,H1.out,H2.out];rfl) (aU.of_below hb5 hn) rfl
