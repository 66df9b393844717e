/- Texts of mine, merged: EG. -/
import Derived.Test.YtgbpekeoegfjpaaGreatDoorZ09
import Derived.Test.YtgbpekeoegfjpaaGreatDoorZ10
import Derived.Test.YtgbpekeoegfjpaaGreatDoorZ00
import Derived.Test.YtgbpekeoegfjpaaGreatDoorZ02
/- Walks: the calls that forms make in a field. -/
set_option maxRecDepth 100000
namespace Go.Proofs.YtgbpekeoegfjpaaGreatDoor
open Go.RowKit
variable (A1 A2 A3 A4 : Option Addr) (c1 c2 c3 c4 : Nat) (f : Pl.Fld)
attribute [-go_sem] run_equalIn_agg storeVar loadVar
attribute [local go_sem] lv_int lv_bool lv_u8 lv_string lv_vars
def EndM (n₀ N:Nat)(w:World)(o:Option Pl.Cal)(e:Ending)(w':World):Prop:=
 BelowE n₀ (fun i=>i<N) w w'∧match o with
  |some c=>e=.returned (.agg (kq c))
  |none=>e=.panicked (gave 5)
theorem EndM.ok {n₀ N:Nat}{w w':World}{o:Option Pl.Cal}{e:Ending}(c:Pl.Cal)(ho:o=some c)(hb:BelowE n₀ (fun i=>i<N) w w')(he:e=.returned (.agg (kq c))):EndM n₀ N w o e w':=by subst ho;exact⟨hb,he⟩
theorem EndM.no {n₀ N:Nat}{w w':World}{o:Option Pl.Cal}{e:Ending}(ho:o=none)(hb:BelowE n₀ (fun i=>i<N) w w')(he:e=.panicked (gave 5)):EndM n₀ N w o e w':=by subst ho;exact⟨hb,he⟩
theorem FldS.more {w:World}{B B':Nat}{A1 A2 A3 A4:Option Addr}{f:Pl.Fld}(h:FldS w B A1 A2 A3 A4 f)(hB:B<=B'):FldS w B' A1 A2 A3 A4 f:=⟨h.st.more hB,h.li.more hB,h.pa.more hB,h.va.more hB⟩
theorem FldS.below {w w':World}{B:Nat}{A1 A2 A3 A4:Option Addr}{f:Pl.Fld}(h:FldS w B A1 A2 A3 A4 f)(hb:Below B w w'):FldS w' B A1 A2 A3 A4 f:=⟨h.st.below hb,h.li.below hb,h.pa.below hb,h.va.below hb⟩
theorem looked_stone (f:Pl.Fld)(l fr:ByteArray)(size er:Int)(year:Int):Pl.looked f ⟨1,l,⟨#[]⟩,fr,⟨#[]⟩,size,er,Pl.Crs.zero⟩ year=(Pl.limOf f l).bind fun(i0:Nat)=>(Pl.staOf f fr).bind fun(i1:Nat)=>some (⟨1,((i0:Nat):Int),0,((i1:Nat):Int),0,size,er,Pl.Crs.zero⟩:Pl.Cal):=by
 unfold Pl.looked
 cases Pl.limOf f l<;>cases Pl.staOf f fr<;>rfl
set_option maxHeartbeats 4000000 in
theorem made_stone (n₀ N:Nat)(l fr:ByteArray)(size er:Int)(b0 b1 b2 b3:Nat)(year:Int)(w:World)(hf:FldS w n₀ A1 A2 A3 A4 f)(hn:n₀<=w.heap.size)(hm:Small f)
  (k0:w.heap[b0]?=some (.cells #[.string l] 9 (0,0))) (k1:w.heap[b1]?=some (.cells #[.string fr] 9 (0,0))) (k2:w.heap[b2]?=some (.cells #[.int .i64 size] 3 (0,0))) (k3:w.heap[b3]?=some (.cells #[.int .i64 er] 3 (0,0))):
  Calls Tryz.prog 223 #[.agg (fq A1 A2 A3 A4 c1 c2 c3 c4 f),.int .i64 year,.pointer (some ⟨b0,0,none⟩),.pointer (some ⟨b1,0,none⟩),.pointer (some ⟨b2,0,none⟩),.pointer (some ⟨b3,0,none⟩)] w (EndM n₀ N w (Pl.looked f ⟨1,l,⟨#[]⟩,fr,⟨#[]⟩,size,er,Pl.Crs.zero⟩ year)):=by
 have hlb0:=(lO k0)
 have hlb1:=(lO k1)
 have hlb2:=(lO k2)
 have hlb3:=(lO k3)
 have HL:=Lib.hid (looked_stone f l fr size er year)
 have kf:=heap_alloc2_old w (.cells (fq A1 A2 A3 A4 c1 c2 c3 c4 f) 28) (.cells z13 48)
 have kr:=heap_alloc2_new w (.cells (fq A1 A2 A3 A4 c1 c2 c3 c4 f) 28) (.cells z13 48)
 have hb:Below w.heap.size w ((w.alloc (.cells (fq A1 A2 A3 A4 c1 c2 c3 c4 f) 28)).alloc (.cells z13 48)):=((Below.refl _ w).alloc (Nat.le_refl _) _).alloc (by simp) _
 have k0:=(hb.block b0 (lO k0)).trans k0
 have k1:=(hb.block b1 (lO k1)).trans k1
 have k2:=(hb.block b2 (lO k2)).trans k2
 have k3:=(hb.block b3 (lO k3)).trans k3
 go_enter Tryz.func223,Tryz.ntmps223
 go_wp2
 generalize (w.alloc (.cells (fq A1 A2 A3 A4 c1 c2 c3 c4 f) 28)).alloc (.cells z13 48)=W0 at*
 have hlt:=(lO kr)
 refine wp_region_held_drew (S:=fun W=>(loadVar 28 ⟨w.heap.size,0,none⟩).run Tryz.prog W=.ok (.agg (fq A1 A2 A3 A4 c1 c2 c3 c4 f)) W∧W.cell? ⟨b0,0,none⟩=some (.string l)∧W.cell? ⟨b1,0,none⟩=some (.string fr)∧W.cell? ⟨b2,0,none⟩=some (.int .i64 size)∧W.cell? ⟨b3,0,none⟩=some (.int .i64 er)) (by kernel_rfl) ⟨ld_row kf Tryz.underlying28 rfl info_fld,(blk_cells k0).1 0,(blk_cells k1).1 0,(blk_cells k2).1 0,(blk_cells k3).1 0⟩ (fun hHeld=> ?_)
 have hb:Below w.heap.size w W0.drew:=hb.drew
 have kf:W0.drew.heap[w.heap.size]?=_:=kf
 have kr:W0.drew.heap[w.heap.size+1]?=_:=kr
 have k0:W0.drew.heap[b0]?=_:=k0
 have k1:W0.drew.heap[b1]?=_:=k1
 have k2:W0.drew.heap[b2]?=_:=k2
 have k3:W0.drew.heap[b3]?=_:=k3
 have hlt:w.heap.size+1<W0.drew.heap.size:=hlt
 generalize W0.drew=W0 at*
 refine tH 0 (some 9) (v:= ?v0) rfl rfl (fun W hW=> ?hy0) ?hr0
 case hy0=>(try dsimp only at hW);go_simp;try with_reducible rfl
 try simp only[Act.put,q1,q2,q3]
 refine tH 1 (some 10) (v:= ?v1) rfl rfl (fun W hW=> ?hy1) ?hr1
 case hy1=>(try dsimp only at hW);go_simp;try with_reducible rfl
 try simp only[Act.put,q1,q2,q3]
 refine tH 3 (some 12) (v:= ?v3) rfl rfl (fun W hW=> ?hy3) ?hr3
 case hy3=>(try dsimp only at hW);go_simp;try with_reducible rfl
 try simp only[Act.put,q1,q2,q3]
 refine tH 4 (some 13) (v:= ?v4) rfl rfl (fun W hW=> ?hy4) ?hr4
 case hy4=>(try dsimp only at hW);go_simp;try with_reducible rfl
 try simp only[Act.put,q1,q2,q3]
 refine tH 6 (some 15) (v:= ?v6) rfl rfl (fun W hW=> ?hy6) ?hr6
 case hy6=>(try dsimp only at hW);go_simp;try with_reducible rfl
 try simp only[Act.put,q1,q2,q3]
 refine tH 7 (some 16) (v:= ?v7) rfl rfl (fun W hW=> ?hy7) ?hr7
 case hy7=>(try dsimp only at hW);go_simp;try with_reducible rfl
 try simp only[Act.put,q1,q2,q3]
 refine wpAnyH_ready (rs:=[2]) (by kernel_rfl) (by simp) ?_
 refine readyH (some 11) rfl rfl (fun K hK=> ?_) AllReadyH.nil
 go_simp
 refine(limitOf_a A1 A2 A3 A4 c1 c2 c3 c4 f l _ ((hf.below (hb.mono hn)).more (by have:=hb.size;omega)).li hm.li).mono ?_
 rintro e w1 ⟨he,hx⟩
 have hb:Below w.heap.size w w1:=hb.trans (hx.mono hb.size)
 cases h0:Pl.limOf f l with
 |none=>
  rw[h0]at he
  subst he
  exact⟨rfl,EndM.no (by rw[HL.out,h0];rfl) (BelowE.of_below hb hn) rfl⟩
 |some i0=>
 rw[h0]at he
 subst he
 have H0:=Lib.hid h0
 clear h0
 have kf:=kE hx kf
 have kr:=kE hx kr
 have k0:=kE hx k0
 have k1:=kE hx k1
 have k2:=kE hx k2
 have k3:=kE hx k3
 clear hx
 refine hK.out _ _ ⟨ld_row kf Tryz.underlying28 rfl info_fld,(blk_cells k0).1 0,(blk_cells k1).1 0,(blk_cells k2).1 0,(blk_cells k3).1 0⟩ (fun hHeld=> ?_)
 clear hK K
 try simp only[Act.put,q1,q2,q3]
 refine wpAnyH_ready (rs:=[5]) (by kernel_rfl) (by simp) ?_
 refine readyH (some 14) rfl rfl (fun K hK=> ?_) AllReadyH.nil
 go_simp
 refine(stationOf_a A1 A2 A3 A4 c1 c2 c3 c4 f fr _ ((hf.below (hb.mono hn)).more (by have:=hb.size;omega)).st hm.st).mono ?_
 rintro e w2 ⟨he,hx⟩
 have hb:Below w.heap.size w w2:=hb.trans (hx.mono hb.size)
 cases h1:Pl.staOf f fr with
 |none=>
  rw[h1]at he
  subst he
  exact⟨rfl,EndM.no (by rw[HL.out,H0.out,h1];rfl) (BelowE.of_below hb hn) rfl⟩
 |some i1=>
 rw[h1]at he
 subst he
 have H1:=Lib.hid h1
 clear h1
 have kf:=kE hx kf
 have kr:=kE hx kr
 have k0:=kE hx k0
 have k1:=kE hx k1
 have k2:=kE hx k2
 have k3:=kE hx k3
 clear hx
 refine hK.out _ _ ⟨ld_row kf Tryz.underlying28 rfl info_fld,(blk_cells k0).1 0,(blk_cells k1).1 0,(blk_cells k2).1 0,(blk_cells k3).1 0⟩ (fun hHeld=> ?_)
 clear hK K
 try simp only[Act.put,q1,q2,q3]
 refine tH 8 (some 17) (v:= ?v8) rfl rfl (fun W hW=> ?hy8) ?hr8
 case hy8=>(try dsimp only at hW);go_simp;try with_reducible rfl
 try simp only[Act.put,q1,q2,q3]
 obtain⟨W5,hst,kr5,hg⟩:=st_row _ (w.heap.size+1) _ 48 _ (ka 1 (i0:Int) 0 (i1:Int) 0 size er) kr info_cal rfl (by simp[Value.oneCell'])
 have hld:=ld_row kr5 Tryz.underlying48 rfl info_cal
 have hb5:Below w.heap.size w W5:=hb.grown hg hb.size (fun k e=>by cases e;omega)
 have kf:=(hg.block _ (lO kf) (by simp)).trans kf
 have k0:=(hg.block _ (lO k0) (by have:=hlb0;simp;omega)).trans k0
 have k1:=(hg.block _ (lO k1) (by have:=hlb1;simp;omega)).trans k1
 have k2:=(hg.block _ (lO k2) (by have:=hlb2;simp;omega)).trans k2
 have k3:=(hg.block _ (lO k3) (by have:=hlb3;simp;omega)).trans k3
 refine wpAnyH_ready (rs:=[9]) (by kernel_rfl) (by simp) ?_
 refine readyH none rfl rfl (fun K hK=> ?_) AllReadyH.nil
 go_simp
 refine hK.out _ _ ⟨ld_row kf Tryz.underlying28 rfl info_fld,(blk_cells k0).1 0,(blk_cells k1).1 0,(blk_cells k2).1 0,(blk_cells k3).1 0⟩ (fun hHeld=> ?_)
 clear hK K
 try simp only[Act.put,q1,q2,q3]
 refine wpAnyH_done (by kernel_rfl) ?_ _
 go_wp2
 refine bodyPost_ret (v:=.agg (ka 1 (i0:Int) 0 (i1:Int) 0 size er)) (by simp[results,Tryz.results223,go_sem,hld]) rfl ?_
 exact EndM.ok ⟨1,i0,0,i1,0,size,er,Pl.Crs.zero⟩ (by rw[HL.out,H0.out,H1.out];rfl) (BelowE.of_below hb5 hn) rfl
theorem looked_width (f:Pl.Fld)(l o fr:ByteArray)(size er:Int)(year:Int):Pl.looked f ⟨2,l,o,fr,⟨#[]⟩,size,er,Pl.Crs.zero⟩ year=(Pl.limOf f l).bind fun(i0:Nat)=>(Pl.limOf f o).bind fun(i1:Nat)=>(Pl.staOf f fr).bind fun(i2:Nat)=>some (⟨2,((i0:Nat):Int),((i1:Nat):Int),((i2:Nat):Int),0,size,er,Pl.Crs.zero⟩:Pl.Cal):=by
 unfold Pl.looked
 cases Pl.limOf f l<;>cases Pl.limOf f o<;>cases Pl.staOf f fr<;>rfl
set_option maxHeartbeats 4000000 in
theorem made_width (n₀ N:Nat)(l o fr:ByteArray)(size er:Int)(b0 b1 b2 b3 b4:Nat)(year:Int)(w:World)(hf:FldS w n₀ A1 A2 A3 A4 f)(hn:n₀<=w.heap.size)(hm:Small f)
  (k0:w.heap[b0]?=some (.cells #[.string l] 9 (0,0))) (k1:w.heap[b1]?=some (.cells #[.string o] 9 (0,0))) (k2:w.heap[b2]?=some (.cells #[.string fr] 9 (0,0))) (k3:w.heap[b3]?=some (.cells #[.int .i64 size] 3 (0,0))) (k4:w.heap[b4]?=some (.cells #[.int .i64 er] 3 (0,0))):
  Calls Tryz.prog 225 #[.agg (fq A1 A2 A3 A4 c1 c2 c3 c4 f),.int .i64 year,.pointer (some ⟨b0,0,none⟩),.pointer (some ⟨b1,0,none⟩),.pointer (some ⟨b2,0,none⟩),.pointer (some ⟨b3,0,none⟩),.pointer (some ⟨b4,0,none⟩)] w (EndM n₀ N w (Pl.looked f ⟨2,l,o,fr,⟨#[]⟩,size,er,Pl.Crs.zero⟩ year)):=by
 have hlb0:=(lO k0)
 have hlb1:=(lO k1)
 have hlb2:=(lO k2)
 have hlb3:=(lO k3)
 have hlb4:=(lO k4)
 have HL:=Lib.hid (looked_width f l o fr size er year)
 have kf:=heap_alloc2_old w (.cells (fq A1 A2 A3 A4 c1 c2 c3 c4 f) 28) (.cells z13 48)
 have kr:=heap_alloc2_new w (.cells (fq A1 A2 A3 A4 c1 c2 c3 c4 f) 28) (.cells z13 48)
 have hb:Below w.heap.size w ((w.alloc (.cells (fq A1 A2 A3 A4 c1 c2 c3 c4 f) 28)).alloc (.cells z13 48)):=((Below.refl _ w).alloc (Nat.le_refl _) _).alloc (by simp) _
 have k0:=(hb.block b0 (lO k0)).trans k0
 have k1:=(hb.block b1 (lO k1)).trans k1
 have k2:=(hb.block b2 (lO k2)).trans k2
 have k3:=(hb.block b3 (lO k3)).trans k3
 have k4:=(hb.block b4 (lO k4)).trans k4
 go_enter Tryz.func225,Tryz.ntmps225
 go_wp2
 generalize (w.alloc (.cells (fq A1 A2 A3 A4 c1 c2 c3 c4 f) 28)).alloc (.cells z13 48)=W0 at*
 have hlt:=(lO kr)
 refine wp_region_held_drew (S:=fun W=>(loadVar 28 ⟨w.heap.size,0,none⟩).run Tryz.prog W=.ok (.agg (fq A1 A2 A3 A4 c1 c2 c3 c4 f)) W∧W.cell? ⟨b0,0,none⟩=some (.string l)∧W.cell? ⟨b1,0,none⟩=some (.string o)∧W.cell? ⟨b2,0,none⟩=some (.string fr)∧W.cell? ⟨b3,0,none⟩=some (.int .i64 size)∧W.cell? ⟨b4,0,none⟩=some (.int .i64 er)) (by kernel_rfl) ⟨ld_row kf Tryz.underlying28 rfl info_fld,(blk_cells k0).1 0,(blk_cells k1).1 0,(blk_cells k2).1 0,(blk_cells k3).1 0,(blk_cells k4).1 0⟩ (fun hHeld=> ?_)
 have hb:Below w.heap.size w W0.drew:=hb.drew
 have kf:W0.drew.heap[w.heap.size]?=_:=kf
 have kr:W0.drew.heap[w.heap.size+1]?=_:=kr
 have k0:W0.drew.heap[b0]?=_:=k0
 have k1:W0.drew.heap[b1]?=_:=k1
 have k2:W0.drew.heap[b2]?=_:=k2
 have k3:W0.drew.heap[b3]?=_:=k3
 have k4:W0.drew.heap[b4]?=_:=k4
 have hlt:w.heap.size+1<W0.drew.heap.size:=hlt
 generalize W0.drew=W0 at*
 refine tH 0 (some 10) (v:= ?v0) rfl rfl (fun W hW=> ?hy0) ?hr0
 case hy0=>(try dsimp only at hW);go_simp;try with_reducible rfl
 try simp only[Act.put,q1,q2,q3]
 refine tH 1 (some 11) (v:= ?v1) rfl rfl (fun W hW=> ?hy1) ?hr1
 case hy1=>(try dsimp only at hW);go_simp;try with_reducible rfl
 try simp only[Act.put,q1,q2,q3]
 refine tH 3 (some 13) (v:= ?v3) rfl rfl (fun W hW=> ?hy3) ?hr3
 case hy3=>(try dsimp only at hW);go_simp;try with_reducible rfl
 try simp only[Act.put,q1,q2,q3]
 refine tH 4 (some 14) (v:= ?v4) rfl rfl (fun W hW=> ?hy4) ?hr4
 case hy4=>(try dsimp only at hW);go_simp;try with_reducible rfl
 try simp only[Act.put,q1,q2,q3]
 refine tH 6 (some 16) (v:= ?v6) rfl rfl (fun W hW=> ?hy6) ?hr6
 case hy6=>(try dsimp only at hW);go_simp;try with_reducible rfl
 try simp only[Act.put,q1,q2,q3]
 refine tH 7 (some 17) (v:= ?v7) rfl rfl (fun W hW=> ?hy7) ?hr7
 case hy7=>(try dsimp only at hW);go_simp;try with_reducible rfl
 try simp only[Act.put,q1,q2,q3]
 refine tH 9 (some 19) (v:= ?v9) rfl rfl (fun W hW=> ?hy9) ?hr9
 case hy9=>(try dsimp only at hW);go_simp;try with_reducible rfl
 try simp only[Act.put,q1,q2,q3]
 refine tH 10 (some 20) (v:= ?v10) rfl rfl (fun W hW=> ?hy10) ?hr10
 case hy10=>(try dsimp only at hW);go_simp;try with_reducible rfl
 try simp only[Act.put,q1,q2,q3]
 refine wpAnyH_ready (rs:=[2]) (by kernel_rfl) (by simp) ?_
 refine readyH (some 12) rfl rfl (fun K hK=> ?_) AllReadyH.nil
 go_simp
 refine(limitOf_a A1 A2 A3 A4 c1 c2 c3 c4 f l _ ((hf.below (hb.mono hn)).more (by have:=hb.size;omega)).li hm.li).mono ?_
 rintro e w1 ⟨he,hx⟩
 have hb:Below w.heap.size w w1:=hb.trans (hx.mono hb.size)
 cases h0:Pl.limOf f l with
 |none=>
  rw[h0]at he
  subst he
  exact⟨rfl,EndM.no (by rw[HL.out,h0];rfl) (BelowE.of_below hb hn) rfl⟩
 |some i0=>
 rw[h0]at he
 subst he
 have H0:=Lib.hid h0
 clear h0
 have kf:=kE hx kf
 have kr:=kE hx kr
 have k0:=kE hx k0
 have k1:=kE hx k1
 have k2:=kE hx k2
 have k3:=kE hx k3
 have k4:=kE hx k4
 clear hx
 refine hK.out _ _ ⟨ld_row kf Tryz.underlying28 rfl info_fld,(blk_cells k0).1 0,(blk_cells k1).1 0,(blk_cells k2).1 0,(blk_cells k3).1 0,(blk_cells k4).1 0⟩ (fun hHeld=> ?_)
 clear hK K
 try simp only[Act.put,q1,q2,q3]
 refine wpAnyH_ready (rs:=[5]) (by kernel_rfl) (by simp) ?_
 refine readyH (some 15) rfl rfl (fun K hK=> ?_) AllReadyH.nil
 go_simp
 refine(limitOf_a A1 A2 A3 A4 c1 c2 c3 c4 f o _ ((hf.below (hb.mono hn)).more (by have:=hb.size;omega)).li hm.li).mono ?_
 rintro e w2 ⟨he,hx⟩
 have hb:Below w.heap.size w w2:=hb.trans (hx.mono hb.size)
 cases h1:Pl.limOf f o with
 |none=>
  rw[h1]at he
  subst he
  exact⟨rfl,EndM.no (by rw[HL.out,H0.out,h1];rfl) (BelowE.of_below hb hn) rfl⟩
 |some i1=>
 rw[h1]at he
 subst he
 have H1:=Lib.hid h1
 clear h1
 have kf:=kE hx kf
 have kr:=kE hx kr
 have k0:=kE hx k0
 have k1:=kE hx k1
 have k2:=kE hx k2
 have k3:=kE hx k3
 have k4:=kE hx k4
 clear hx
 refine hK.out _ _ ⟨ld_row kf Tryz.underlying28 rfl info_fld,(blk_cells k0).1 0,(blk_cells k1).1 0,(blk_cells k2).1 0,(blk_cells k3).1 0,(blk_cells k4).1 0⟩ (fun hHeld=> ?_)
 clear hK K
 try simp only[Act.put,q1,q2,q3]
 refine wpAnyH_ready (rs:=[8]) (by kernel_rfl) (by simp) ?_
 refine readyH (some 18) rfl rfl (fun K hK=> ?_) AllReadyH.nil
 go_simp
 refine(stationOf_a A1 A2 A3 A4 c1 c2 c3 c4 f fr _ ((hf.below (hb.mono hn)).more (by have:=hb.size;omega)).st hm.st).mono ?_
 rintro e w3 ⟨he,hx⟩
 have hb:Below w.heap.size w w3:=hb.trans (hx.mono hb.size)
 cases h2:Pl.staOf f fr with
 |none=>
  rw[h2]at he
  subst he
  exact⟨rfl,EndM.no (by rw[HL.out,H0.out,H1.out,h2];rfl) (BelowE.of_below hb hn) rfl⟩
 |some i2=>
 rw[h2]at he
 subst he
 have H2:=Lib.hid h2
 clear h2
 have kf:=kE hx kf
 have kr:=kE hx kr
 have k0:=kE hx k0
 have k1:=kE hx k1
 have k2:=kE hx k2
 have k3:=kE hx k3
 have k4:=kE hx k4
 clear hx
 refine hK.out _ _ ⟨ld_row kf Tryz.underlying28 rfl info_fld,(blk_cells k0).1 0,(blk_cells k1).1 0,(blk_cells k2).1 0,(blk_cells k3).1 0,(blk_cells k4).1 0⟩ (fun hHeld=> ?_)
 clear hK K
 try simp only[Act.put,q1,q2,q3]
 refine tH 11 (some 21) (v:= ?v11) rfl rfl (fun W hW=> ?hy11) ?hr11
 case hy11=>(try dsimp only at hW);go_simp;try with_reducible rfl
 try simp only[Act.put,q1,q2,q3]
 obtain⟨W5,hst,kr5,hg⟩:=st_row _ (w.heap.size+1) _ 48 _ (ka 2 (i0:Int) (i1:Int) (i2:Int) 0 size er) kr info_cal rfl (by simp[Value.oneCell'])
 have hld:=ld_row kr5 Tryz.underlying48 rfl info_cal
 have hb5:Below w.heap.size w W5:=hb.grown hg hb.size (fun k e=>by cases e;omega)
 have kf:=(hg.block _ (lO kf) (by simp)).trans kf
 have k0:=(hg.block _ (lO k0) (by have:=hlb0;simp;omega)).trans k0
 have k1:=(hg.block _ (lO k1) (by have:=hlb1;simp;omega)).trans k1
 have k2:=(hg.block _ (lO k2) (by have:=hlb2;simp;omega)).trans k2
 have k3:=(hg.block _ (lO k3) (by have:=hlb3;simp;omega)).trans k3
 have k4:=(hg.block _ (lO k4) (by have:=hlb4;simp;omega)).trans k4
 refine wpAnyH_ready (rs:=[12]) (by kernel_rfl) (by simp) ?_
 refine readyH none rfl rfl (fun K hK=> ?_) AllReadyH.nil
 go_simp
 refine hK.out _ _ ⟨ld_row kf Tryz.underlying28 rfl info_fld,(blk_cells k0).1 0,(blk_cells k1).1 0,(blk_cells k2).1 0,(blk_cells k3).1 0,(blk_cells k4).1 0⟩ (fun hHeld=> ?_)
 clear hK K
 try simp only[Act.put,q1,q2,q3]
 refine wpAnyH_done (by kernel_rfl) ?_ _
 go_wp2
 refine bodyPost_ret (v:=.agg (ka 2 (i0:Int) (i1:Int) (i2:Int) 0 size er)) (by simp[results,Tryz.results225,go_sem,hld]) rfl ?_
 exact EndM.ok ⟨2,i0,i1,i2,0,size,er,Pl.Crs.zero⟩ (by rw[HL.out,H0.out,H1.out,H2.out];rfl) (BelowE.of_below hb5 hn) rfl
theorem looked_along (f:Pl.Fld)(l o fr t:ByteArray)(year:Int):Pl.looked f ⟨4,l,o,fr,t,0,0,Pl.Crs.zero⟩ year=(Pl.limOf f l).bind fun(i0:Nat)=>(Pl.limOf f o).bind fun(i1:Nat)=>(Pl.staOf f fr).bind fun(i2:Nat)=>(Pl.staOf f t).bind fun(i3:Nat)=>some (⟨4,((i0:Nat):Int),((i1:Nat):Int),((i2:Nat):Int),((i3:Nat):Int),0,0,Pl.Crs.zero⟩:Pl.Cal):=by
 unfold Pl.looked
 cases Pl.limOf f l<;>cases Pl.limOf f o<;>cases Pl.staOf f fr<;>cases Pl.staOf f t<;>rfl
set_option maxHeartbeats 4000000 in
theorem made_along (n₀ N:Nat)(l o fr t:ByteArray)(b0 b1 b2 b3:Nat)(year:Int)(w:World)(hf:FldS w n₀ A1 A2 A3 A4 f)(hn:n₀<=w.heap.size)(hm:Small f)
  (k0:w.heap[b0]?=some (.cells #[.string l] 9 (0,0))) (k1:w.heap[b1]?=some (.cells #[.string o] 9 (0,0))) (k2:w.heap[b2]?=some (.cells #[.string fr] 9 (0,0))) (k3:w.heap[b3]?=some (.cells #[.string t] 9 (0,0))):
  Calls Tryz.prog 227 #[.agg (fq A1 A2 A3 A4 c1 c2 c3 c4 f),.int .i64 year,.pointer (some ⟨b0,0,none⟩),.pointer (some ⟨b1,0,none⟩),.pointer (some ⟨b2,0,none⟩),.pointer (some ⟨b3,0,none⟩)] w (EndM n₀ N w (Pl.looked f ⟨4,l,o,fr,t,0,0,Pl.Crs.zero⟩ year)):=by
 have hlb0:=(lO k0)
 have hlb1:=(lO k1)
 have hlb2:=(lO k2)
 have hlb3:=(lO k3)
 have HL:=Lib.hid (looked_along f l o fr t year)
 have kf:=heap_alloc2_old w (.cells (fq A1 A2 A3 A4 c1 c2 c3 c4 f) 28) (.cells z13 48)
 have kr:=heap_alloc2_new w (.cells (fq A1 A2 A3 A4 c1 c2 c3 c4 f) 28) (.cells z13 48)
 have hb:Below w.heap.size w ((w.alloc (.cells (fq A1 A2 A3 A4 c1 c2 c3 c4 f) 28)).alloc (.cells z13 48)):=((Below.refl _ w).alloc (Nat.le_refl _) _).alloc (by simp) _
 have k0:=(hb.block b0 (lO k0)).trans k0
 have k1:=(hb.block b1 (lO k1)).trans k1
 have k2:=(hb.block b2 (lO k2)).trans k2
 have k3:=(hb.block b3 (lO k3)).trans k3
 go_enter Tryz.func227,Tryz.ntmps227
 go_wp2
 generalize (w.alloc (.cells (fq A1 A2 A3 A4 c1 c2 c3 c4 f) 28)).alloc (.cells z13 48)=W0 at*
 have hlt:=(lO kr)
 refine wp_region_held_drew (S:=fun W=>(loadVar 28 ⟨w.heap.size,0,none⟩).run Tryz.prog W=.ok (.agg (fq A1 A2 A3 A4 c1 c2 c3 c4 f)) W∧W.cell? ⟨b0,0,none⟩=some (.string l)∧W.cell? ⟨b1,0,none⟩=some (.string o)∧W.cell? ⟨b2,0,none⟩=some (.string fr)∧W.cell? ⟨b3,0,none⟩=some (.string t)) (by kernel_rfl) ⟨ld_row kf Tryz.underlying28 rfl info_fld,(blk_cells k0).1 0,(blk_cells k1).1 0,(blk_cells k2).1 0,(blk_cells k3).1 0⟩ (fun hHeld=> ?_)
 have hb:Below w.heap.size w W0.drew:=hb.drew
 have kf:W0.drew.heap[w.heap.size]?=_:=kf
 have kr:W0.drew.heap[w.heap.size+1]?=_:=kr
 have k0:W0.drew.heap[b0]?=_:=k0
 have k1:W0.drew.heap[b1]?=_:=k1
 have k2:W0.drew.heap[b2]?=_:=k2
 have k3:W0.drew.heap[b3]?=_:=k3
 have hlt:w.heap.size+1<W0.drew.heap.size:=hlt
 generalize W0.drew=W0 at*
 refine tH 0 (some 9) (v:= ?v0) rfl rfl (fun W hW=> ?hy0) ?hr0
 case hy0=>(try dsimp only at hW);go_simp;try with_reducible rfl
 try simp only[Act.put,q1,q2,q3]
 refine tH 1 (some 10) (v:= ?v1) rfl rfl (fun W hW=> ?hy1) ?hr1
 case hy1=>(try dsimp only at hW);go_simp;try with_reducible rfl
 try simp only[Act.put,q1,q2,q3]
 refine tH 3 (some 12) (v:= ?v3) rfl rfl (fun W hW=> ?hy3) ?hr3
 case hy3=>(try dsimp only at hW);go_simp;try with_reducible rfl
 try simp only[Act.put,q1,q2,q3]
 refine tH 4 (some 13) (v:= ?v4) rfl rfl (fun W hW=> ?hy4) ?hr4
 case hy4=>(try dsimp only at hW);go_simp;try with_reducible rfl
 try simp only[Act.put,q1,q2,q3]
 refine tH 6 (some 15) (v:= ?v6) rfl rfl (fun W hW=> ?hy6) ?hr6
 case hy6=>(try dsimp only at hW);go_simp;try with_reducible rfl
 try simp only[Act.put,q1,q2,q3]
 refine tH 7 (some 16) (v:= ?v7) rfl rfl (fun W hW=> ?hy7) ?hr7
 case hy7=>(try dsimp only at hW);go_simp;try with_reducible rfl
 try simp only[Act.put,q1,q2,q3]
 refine tH 9 (some 18) (v:= ?v9) rfl rfl (fun W hW=> ?hy9) ?hr9
 case hy9=>(try dsimp only at hW);go_simp;try with_reducible rfl
 try simp only[Act.put,q1,q2,q3]
 refine tH 10 (some 19) (v:= ?v10) rfl rfl (fun W hW=> ?hy10) ?hr10
 case hy10=>(try dsimp only at hW);go_simp;try with_reducible rfl
 try simp only[Act.put,q1,q2,q3]
 refine wpAnyH_ready (rs:=[2]) (by kernel_rfl) (by simp) ?_
 refine readyH (some 11) rfl rfl (fun K hK=> ?_) AllReadyH.nil
 go_simp
 refine(limitOf_a A1 A2 A3 A4 c1 c2 c3 c4 f l _ ((hf.below (hb.mono hn)).more (by have:=hb.size;omega)).li hm.li).mono ?_
 rintro e w1 ⟨he,hx⟩
 have hb:Below w.heap.size w w1:=hb.trans (hx.mono hb.size)
 cases h0:Pl.limOf f l with
 |none=>
  rw[h0]at he
  subst he
  exact⟨rfl,EndM.no (by rw[HL.out,h0];rfl) (BelowE.of_below hb hn) rfl⟩
 |some i0=>
 rw[h0]at he
 subst he
 have H0:=Lib.hid h0
 clear h0
 have kf:=kE hx kf
 have kr:=kE hx kr
 have k0:=kE hx k0
 have k1:=kE hx k1
 have k2:=kE hx k2
 have k3:=kE hx k3
 clear hx
 refine hK.out _ _ ⟨ld_row kf Tryz.underlying28 rfl info_fld,(blk_cells k0).1 0,(blk_cells k1).1 0,(blk_cells k2).1 0,(blk_cells k3).1 0⟩ (fun hHeld=> ?_)
 clear hK K
 try simp only[Act.put,q1,q2,q3]
 refine wpAnyH_ready (rs:=[5]) (by kernel_rfl) (by simp) ?_
 refine readyH (some 14) rfl rfl (fun K hK=> ?_) AllReadyH.nil
 go_simp
 refine(limitOf_a A1 A2 A3 A4 c1 c2 c3 c4 f o _ ((hf.below (hb.mono hn)).more (by have:=hb.size;omega)).li hm.li).mono ?_
 rintro e w2 ⟨he,hx⟩
 have hb:Below w.heap.size w w2:=hb.trans (hx.mono hb.size)
 cases h1:Pl.limOf f o with
 |none=>
  rw[h1]at he
  subst he
  exact⟨rfl,EndM.no (by rw[HL.out,H0.out,h1];rfl) (BelowE.of_below hb hn) rfl⟩
 |some i1=>
 rw[h1]at he
 subst he
 have H1:=Lib.hid h1
 clear h1
 have kf:=kE hx kf
 have kr:=kE hx kr
 have k0:=kE hx k0
 have k1:=kE hx k1
 have k2:=kE hx k2
 have k3:=kE hx k3
 clear hx
 refine hK.out _ _ ⟨ld_row kf Tryz.underlying28 rfl info_fld,(blk_cells k0).1 0,(blk_cells k1).1 0,(blk_cells k2).1 0,(blk_cells k3).1 0⟩ (fun hHeld=> ?_)
 clear hK K
 try simp only[Act.put,q1,q2,q3]
 refine wpAnyH_ready (rs:=[8]) (by kernel_rfl) (by simp) ?_
 refine readyH (some 17) rfl rfl (fun K hK=> ?_) AllReadyH.nil
 go_simp
 refine(stationOf_a A1 A2 A3 A4 c1 c2 c3 c4 f fr _ ((hf.below (hb.mono hn)).more (by have:=hb.size;omega)).st hm.st).mono ?_
 rintro e w3 ⟨he,hx⟩
 have hb:Below w.heap.size w w3:=hb.trans (hx.mono hb.size)
 cases h2:Pl.staOf f fr with
 |none=>
  rw[h2]at he
  subst he
  exact⟨rfl,EndM.no (by rw[HL.out,H0.out,H1.out,h2];rfl) (BelowE.of_below hb hn) rfl⟩
 |some i2=>
 rw[h2]at he
 subst he
 have H2:=Lib.hid h2
 clear h2
 have kf:=kE hx kf
 have kr:=kE hx kr
 have k0:=kE hx k0
 have k1:=kE hx k1
 have k2:=kE hx k2
 have k3:=kE hx k3
 clear hx
 refine hK.out _ _ ⟨ld_row kf Tryz.underlying28 rfl info_fld,(blk_cells k0).1 0,(blk_cells k1).1 0,(blk_cells k2).1 0,(blk_cells k3).1 0⟩ (fun hHeld=> ?_)
 clear hK K
 try simp only[Act.put,q1,q2,q3]
 refine wpAnyH_ready (rs:=[11]) (by kernel_rfl) (by simp) ?_
 refine readyH (some 20) rfl rfl (fun K hK=> ?_) AllReadyH.nil
 go_simp
 refine(stationOf_a A1 A2 A3 A4 c1 c2 c3 c4 f t _ ((hf.below (hb.mono hn)).more (by have:=hb.size;omega)).st hm.st).mono ?_
 rintro e w4 ⟨he,hx⟩
 have hb:Below w.heap.size w w4:=hb.trans (hx.mono hb.size)
 cases h3:Pl.staOf f t with
 |none=>
  rw[h3]at he
  subst he
  exact⟨rfl,EndM.no (by rw[HL.out,H0.out,H1.out,H2.out,h3];rfl) (BelowE.of_below hb hn) rfl⟩
 |some i3=>
 rw[h3]at he
 subst he
 have H3:=Lib.hid h3
 clear h3
 have kf:=kE hx kf
 have kr:=kE hx kr
 have k0:=kE hx k0
 have k1:=kE hx k1
 have k2:=kE hx k2
 have k3:=kE hx k3
 clear hx
 refine hK.out _ _ ⟨ld_row kf Tryz.underlying28 rfl info_fld,(blk_cells k0).1 0,(blk_cells k1).1 0,(blk_cells k2).1 0,(blk_cells k3).1 0⟩ (fun hHeld=> ?_)
 clear hK K
 try simp only[Act.put,q1,q2,q3]
 refine tH 12 (some 21) (v:= ?v12) rfl rfl (fun W hW=> ?hy12) ?hr12
 case hy12=>(try dsimp only at hW);go_simp;try with_reducible rfl
 try simp only[Act.put,q1,q2,q3]
 obtain⟨W5,hst,kr5,hg⟩:=st_row _ (w.heap.size+1) _ 48 _ (ka 4 (i0:Int) (i1:Int) (i2:Int) (i3:Int) 0 0) kr info_cal rfl (by simp[Value.oneCell'])
 have hld:=ld_row kr5 Tryz.underlying48 rfl info_cal
 have hb5:Below w.heap.size w W5:=hb.grown hg hb.size (fun k e=>by cases e;omega)
 have kf:=(hg.block _ (lO kf) (by simp)).trans kf
 have k0:=(hg.block _ (lO k0) (by have:=hlb0;simp;omega)).trans k0
 have k1:=(hg.block _ (lO k1) (by have:=hlb1;simp;omega)).trans k1
 have k2:=(hg.block _ (lO k2) (by have:=hlb2;simp;omega)).trans k2
 have k3:=(hg.block _ (lO k3) (by have:=hlb3;simp;omega)).trans k3
 refine wpAnyH_ready (rs:=[13]) (by kernel_rfl) (by simp) ?_
 refine readyH none rfl rfl (fun K hK=> ?_) AllReadyH.nil
 go_simp
 refine hK.out _ _ ⟨ld_row kf Tryz.underlying28 rfl info_fld,(blk_cells k0).1 0,(blk_cells k1).1 0,(blk_cells k2).1 0,(blk_cells k3).1 0⟩ (fun hHeld=> ?_)
 clear hK K
 try simp only[Act.put,q1,q2,q3]
 refine wpAnyH_done (by kernel_rfl) ?_ _
 go_wp2
 refine bodyPost_ret (v:=.agg (ka 4 (i0:Int) (i1:Int) (i2:Int) (i3:Int) 0 0)) (by simp[results,Tryz.results227,go_sem,hld]) rfl ?_
 exact EndM.ok ⟨4,i0,i1,i2,i3,0,0,Pl.Crs.zero⟩ (by rw[HL.out,H0.out,H1.out,H2.out,H3.out];rfl) (BelowE.of_below hb5 hn) rfl
theorem looked_level (f:Pl.Fld)(l fr t:ByteArray)(size er:Int)(year:Int):Pl.looked f ⟨5,l,⟨#[]⟩,fr,t,size,er,Pl.Crs.zero⟩ year=(Pl.limOf f l).bind fun(i0:Nat)=>(Pl.staOf f fr).bind fun(i1:Nat)=>(Pl.staOf f t).bind fun(i2:Nat)=>some (⟨5,((i0:Nat):Int),0,((i1:Nat):Int),((i2:Nat):Int),size,er,Pl.Crs.zero⟩:Pl.Cal):=by
 unfold Pl.looked
 cases Pl.limOf f l<;>cases Pl.staOf f fr<;>cases Pl.staOf f t<;>rfl
set_option maxHeartbeats 4000000 in
theorem made_level (n₀ N:Nat)(l fr t:ByteArray)(size er:Int)(b0 b1 b2 b3 b4:Nat)(year:Int)(w:World)(hf:FldS w n₀ A1 A2 A3 A4 f)(hn:n₀<=w.heap.size)(hm:Small f)
  (k0:w.heap[b0]?=some (.cells #[.string l] 9 (0,0))) (k1:w.heap[b1]?=some (.cells #[.string fr] 9 (0,0))) (k2:w.heap[b2]?=some (.cells #[.string t] 9 (0,0))) (k3:w.heap[b3]?=some (.cells #[.int .i64 size] 3 (0,0))) (k4:w.heap[b4]?=some (.cells #[.int .i64 er] 3 (0,0))):
  Calls Tryz.prog 229 #[.agg (fq A1 A2 A3 A4 c1 c2 c3 c4 f),.int .i64 year,.pointer (some ⟨b0,0,none⟩),.pointer (some ⟨b1,0,none⟩),.pointer (some ⟨b2,0,none⟩),.pointer (some ⟨b3,0,none⟩),.pointer (some ⟨b4,0,none⟩)] w (EndM n₀ N w (Pl.looked f ⟨5,l,⟨#[]⟩,fr,t,size,er,Pl.Crs.zero⟩ year)):=by
 have hlb0:=(lO k0)
 have hlb1:=(lO k1)
 have hlb2:=(lO k2)
 have hlb3:=(lO k3)
 have hlb4:=(lO k4)
 have HL:=Lib.hid (looked_level f l fr t size er year)
 have kf:=heap_alloc2_old w (.cells (fq A1 A2 A3 A4 c1 c2 c3 c4 f) 28) (.cells z13 48)
 have kr:=heap_alloc2_new w (.cells (fq A1 A2 A3 A4 c1 c2 c3 c4 f) 28) (.cells z13 48)
 have hb:Below w.heap.size w ((w.alloc (.cells (fq A1 A2 A3 A4 c1 c2 c3 c4 f) 28)).alloc (.cells z13 48)):=((Below.refl _ w).alloc (Nat.le_refl _) _).alloc (by simp) _
 have k0:=(hb.block b0 (lO k0)).trans k0
 have k1:=(hb.block b1 (lO k1)).trans k1
 have k2:=(hb.block b2 (lO k2)).trans k2
 have k3:=(hb.block b3 (lO k3)).trans k3
 have k4:=(hb.block b4 (lO k4)).trans k4
 go_enter Tryz.func229,Tryz.ntmps229
 go_wp2
 generalize (w.alloc (.cells (fq A1 A2 A3 A4 c1 c2 c3 c4 f) 28)).alloc (.cells z13 48)=W0 at*
 have hlt:=(lO kr)
 refine wp_region_held_drew (S:=fun W=>(loadVar 28 ⟨w.heap.size,0,none⟩).run Tryz.prog W=.ok (.agg (fq A1 A2 A3 A4 c1 c2 c3 c4 f)) W∧W.cell? ⟨b0,0,none⟩=some (.string l)∧W.cell? ⟨b1,0,none⟩=some (.string fr)∧W.cell? ⟨b2,0,none⟩=some (.string t)∧W.cell? ⟨b3,0,none⟩=some (.int .i64 size)∧W.cell? ⟨b4,0,none⟩=some (.int .i64 er)) (by kernel_rfl) ⟨ld_row kf Tryz.underlying28 rfl info_fld,(blk_cells k0).1 0,(blk_cells k1).1 0,(blk_cells k2).1 0,(blk_cells k3).1 0,(blk_cells k4).1 0⟩ (fun hHeld=> ?_)
 have hb:Below w.heap.size w W0.drew:=hb.drew
 have kf:W0.drew.heap[w.heap.size]?=_:=kf
 have kr:W0.drew.heap[w.heap.size+1]?=_:=kr
 have k0:W0.drew.heap[b0]?=_:=k0
 have k1:W0.drew.heap[b1]?=_:=k1
 have k2:W0.drew.heap[b2]?=_:=k2
 have k3:W0.drew.heap[b3]?=_:=k3
 have k4:W0.drew.heap[b4]?=_:=k4
 have hlt:w.heap.size+1<W0.drew.heap.size:=hlt
 generalize W0.drew=W0 at*
 refine tH 0 (some 10) (v:= ?v0) rfl rfl (fun W hW=> ?hy0) ?hr0
 case hy0=>(try dsimp only at hW);go_simp;try with_reducible rfl
 try simp only[Act.put,q1,q2,q3]
 refine tH 1 (some 11) (v:= ?v1) rfl rfl (fun W hW=> ?hy1) ?hr1
 case hy1=>(try dsimp only at hW);go_simp;try with_reducible rfl
 try simp only[Act.put,q1,q2,q3]
 refine tH 3 (some 13) (v:= ?v3) rfl rfl (fun W hW=> ?hy3) ?hr3
 case hy3=>(try dsimp only at hW);go_simp;try with_reducible rfl
 try simp only[Act.put,q1,q2,q3]
 refine tH 4 (some 14) (v:= ?v4) rfl rfl (fun W hW=> ?hy4) ?hr4
 case hy4=>(try dsimp only at hW);go_simp;try with_reducible rfl
 try simp only[Act.put,q1,q2,q3]
 refine tH 6 (some 16) (v:= ?v6) rfl rfl (fun W hW=> ?hy6) ?hr6
 case hy6=>(try dsimp only at hW);go_simp;try with_reducible rfl
 try simp only[Act.put,q1,q2,q3]
 refine tH 7 (some 17) (v:= ?v7) rfl rfl (fun W hW=> ?hy7) ?hr7
 case hy7=>(try dsimp only at hW);go_simp;try with_reducible rfl
 try simp only[Act.put,q1,q2,q3]
 refine tH 9 (some 19) (v:= ?v9) rfl rfl (fun W hW=> ?hy9) ?hr9
 case hy9=>(try dsimp only at hW);go_simp;try with_reducible rfl
 try simp only[Act.put,q1,q2,q3]
 refine tH 10 (some 20) (v:= ?v10) rfl rfl (fun W hW=> ?hy10) ?hr10
 case hy10=>(try dsimp only at hW);go_simp;try with_reducible rfl
 try simp only[Act.put,q1,q2,q3]
 refine wpAnyH_ready (rs:=[2]) (by kernel_rfl) (by simp) ?_
 refine readyH (some 12) rfl rfl (fun K hK=> ?_) AllReadyH.nil
 go_simp
 refine(limitOf_a A1 A2 A3 A4 c1 c2 c3 c4 f l _ ((hf.below (hb.mono hn)).more (by have:=hb.size;omega)).li hm.li).mono ?_
 rintro e w1 ⟨he,hx⟩
 have hb:Below w.heap.size w w1:=hb.trans (hx.mono hb.size)
 cases h0:Pl.limOf f l with
 |none=>
  rw[h0]at he
  subst he
  exact⟨rfl,EndM.no (by rw[HL.out,h0];rfl) (BelowE.of_below hb hn) rfl⟩
 |some i0=>
 rw[h0]at he
 subst he
 have H0:=Lib.hid h0
 clear h0
 have kf:=kE hx kf
 have kr:=kE hx kr
 have k0:=kE hx k0
 have k1:=kE hx k1
 have k2:=kE hx k2
 have k3:=kE hx k3
 have k4:=kE hx k4
 clear hx
 refine hK.out _ _ ⟨ld_row kf Tryz.underlying28 rfl info_fld,(blk_cells k0).1 0,(blk_cells k1).1 0,(blk_cells k2).1 0,(blk_cells k3).1 0,(blk_cells k4).1 0⟩ (fun hHeld=> ?_)
 clear hK K
 try simp only[Act.put,q1,q2,q3]
 refine wpAnyH_ready (rs:=[5]) (by kernel_rfl) (by simp) ?_
 refine readyH (some 15) rfl rfl (fun K hK=> ?_) AllReadyH.nil
 go_simp
 refine(stationOf_a A1 A2 A3 A4 c1 c2 c3 c4 f fr _ ((hf.below (hb.mono hn)).more (by have:=hb.size;omega)).st hm.st).mono ?_
 rintro e w2 ⟨he,hx⟩
 have hb:Below w.heap.size w w2:=hb.trans (hx.mono hb.size)
 cases h1:Pl.staOf f fr with
 |none=>
  rw[h1]at he
  subst he
  exact⟨rfl,EndM.no (by rw[HL.out,H0.out,h1];rfl) (BelowE.of_below hb hn) rfl⟩
 |some i1=>
 rw[h1]at he
 subst he
 have H1:=Lib.hid h1
 clear h1
 have kf:=kE hx kf
 have kr:=kE hx kr
 have k0:=kE hx k0
 have k1:=kE hx k1
 have k2:=kE hx k2
 have k3:=kE hx k3
 have k4:=kE hx k4
 clear hx
 refine hK.out _ _ ⟨ld_row kf Tryz.underlying28 rfl info_fld,(blk_cells k0).1 0,(blk_cells k1).1 0,(blk_cells k2).1 0,(blk_cells k3).1 0,(blk_cells k4).1 0⟩ (fun hHeld=> ?_)
 clear hK K
 try simp only[Act.put,q1,q2,q3]
 refine wpAnyH_ready (rs:=[8]) (by kernel_rfl) (by simp) ?_
 refine readyH (some 18) rfl rfl (fun K hK=> ?_) AllReadyH.nil
 go_simp
 refine(stationOf_a A1 A2 A3 A4 c1 c2 c3 c4 f t _ ((hf.below (hb.mono hn)).more (by have:=hb.size;omega)).st hm.st).mono ?_
 rintro e w3 ⟨he,hx⟩
 have hb:Below w.heap.size w w3:=hb.trans (hx.mono hb.size)
 cases h2:Pl.staOf f t with
 |none=>
  rw[h2]at he
  subst he
  exact⟨rfl,EndM.no (by rw[HL.out,H0.out,H1.out,h2];rfl) (BelowE.of_below hb hn) rfl⟩
 |some i2=>
 rw[h2]at he
 subst he
 have H2:=Lib.hid h2
 clear h2
 have kf:=kE hx kf
 have kr:=kE hx kr
 have k0:=kE hx k0
 have k1:=kE hx k1
 have k2:=kE hx k2
 have k3:=kE hx k3
 have k4:=kE hx k4
 clear hx
 refine hK.out _ _ ⟨ld_row kf Tryz.underlying28 rfl info_fld,(blk_cells k0).1 0,(blk_cells k1).1 0,(blk_cells k2).1 0,(blk_cells k3).1 0,(blk_cells k4).1 0⟩ (fun hHeld=> ?_)
 clear hK K
 try simp only[Act.put,q1,q2,q3]
 refine tH 11 (some 21) (v:= ?v11) rfl rfl (fun W hW=> ?hy11) ?hr11
 case hy11=>(try dsimp only at hW);go_simp;try with_reducible rfl
 try simp only[Act.put,q1,q2,q3]
 obtain⟨W5,hst,kr5,hg⟩:=st_row _ (w.heap.size+1) _ 48 _ (ka 5 (i0:Int) 0 (i1:Int) (i2:Int) size er) kr info_cal rfl (by simp[Value.oneCell'])
 have hld:=ld_row kr5 Tryz.underlying48 rfl info_cal
 have hb5:Below w.heap.size w W5:=hb.grown hg hb.size (fun k e=>by cases e;omega)
 have kf:=(hg.block _ (lO kf) (by simp)).trans kf
 have k0:=(hg.block _ (lO k0) (by have:=hlb0;simp;omega)).trans k0
 have k1:=(hg.block _ (lO k1) (by have:=hlb1;simp;omega)).trans k1
 have k2:=(hg.block _ (lO k2) (by have:=hlb2;simp;omega)).trans k2
 have k3:=(hg.block _ (lO k3) (by have:=hlb3;simp;omega)).trans k3
 have k4:=(hg.block _ (lO k4) (by have:=hlb4;simp;omega)).trans k4
 refine wpAnyH_ready (rs:=[12]) (by kernel_rfl) (by simp) ?_
 refine readyH none rfl rfl (fun K hK=> ?_) AllReadyH.nil
 go_simp
 refine hK.out _ _ ⟨ld_row kf Tryz.underlying28 rfl info_fld,(blk_cells k0).1 0,(blk_cells k1).1 0,(blk_cells k2).1 0,(blk_cells k3).1 0,(blk_cells k4).1 0⟩ (fun hHeld=> ?_)
 clear hK K
 try simp only[Act.put,q1,q2,q3]
 refine wpAnyH_done (by kernel_rfl) ?_ _
 go_wp2
 refine bodyPost_ret (v:=.agg (ka 5 (i0:Int) 0 (i1:Int) (i2:Int) size er)) (by simp[results,Tryz.results229,go_sem,hld]) rfl ?_
 exact EndM.ok ⟨5,i0,0,i1,i2,size,er,Pl.Crs.zero⟩ (by rw[HL.out,H0.out,H1.out,H2.out];rfl) (BelowE.of_below hb5 hn) rfl
end Go.Proofs.YtgbpekeoegfjpaaGreatDoor
