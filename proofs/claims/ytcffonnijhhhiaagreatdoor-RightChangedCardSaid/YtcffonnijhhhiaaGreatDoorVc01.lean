/- Part Vc01 of the proof: Yh. -/
import Derived.Test.YtcffonnijhhhiaaGreatDoorProg
import Derived.WalkKit
import Derived.WalkLawsBesides
import Derived.WalkSpells
import Derived.Handy
import Derived.Lib.Hide
import Derived.Great.BuildSlice
import Derived.Deep.QuietTactic
import Derived.BigQuiet
import Derived.Deep.RegionHeld3
import Derived.Deep.DeepCutAuto
import Derived.Test.YtcffonnijhhhiaaGreatDoorVc00
set_option linter.all false
set_option linter.unusedSimpArgs false
set_option linter.unusedVariables false
set_option linter.unusedSectionVars false
set_option linter.all false
set_option linter.unusedSimpArgs false
set_option linter.unusedVariables false
set_option linter.unusedSectionVars false
namespace Go.Proofs.YtcffonnijhhhiaaGreatDoor
open Go Go.RowKit Go.Maps Mp
attribute [-simp] Prod.forall Prod.exists
attribute [-go_sem] loadVar storeVar Builtin.append_
attribute [local go_sem] lk_int lk_u8 lk_ints lk_sL lk_sE lk_sS
set_option maxRecDepth 100000 in
set_option maxHeartbeats 8000000 in
theorem rightChanged_w (A:Option Addr)(c:Nat)(L:List Dp)(fr tw:Int)(w:World)(hE:Env w)(h:Dlo w w.heap.size A L)(hc:L.length≤c)(hm:c≤maxLen):Calls Tryz.prog 16 #[.slice A L.length c,.int .i64 fr,.int .i64 tw] w fun e w'=>e=.returned (.bool true)∧Below w.heap.size w w':=by
 have hfe:=few30_h A c L _ h.seg (Nat.le_trans hc hm)
 have HE:=Lib.hid hE
 by_cases hf:Rt.few (dls L) 30=true
 case neg=>
  have hf2:Rt.few (dls L) 30=false:=by simpa using hf
  rw[hf2]at hfe
  have hal:=alive_a w hE
  clear hf hf2 h hE hc hm
  go_enter Tryz.func16,Tryz.ntmps16
  go_wp2_with fail
  refine hfe.mono ?_
  clear hfe
  rintro e w' ⟨rfl,rfl⟩
  go_wp2_with fail
  refine hal.mono ?_
  rintro e w1 ⟨rfl,hb⟩
  go_wp2
  go_ret
  exact⟨rfl,hb⟩
 rw[hf]at hfe
 obtain⟨hD,hl30⟩:=h.few hf
 have hch:=changed_a A c L fr tw w hD (by omega)
 have HRF:Hid (∀V day,Below w.heap.size w V→Calls Tryz.prog 44 #[.slice A L.length c,.int .i64 day] V (EndRf V (onR (dls L) day) (Rt.check (dls L)).2)):=Lib.hid fun V day hV=>rollF_a A c L day V (hD.up hV) (by omega)
 have HD:=Lib.hid hD
 have HL30:=Lib.hid hl30
 clear hf h hE hc hm hl30 hD
 obtain⟨E,hEE⟩: ∃E,(Rt.check (dls L)).2=E:=⟨_,rfl⟩
 rw[hEE]at hch HRF
 obtain⟨C,hC⟩: ∃C,changedI (dls L) fr tw=C:=⟨_,rfl⟩
 rw[hC]at hch
 obtain⟨r,hr⟩: ∃r,onR (dls L) fr=r:=⟨_,rfl⟩
 obtain⟨s,hs⟩: ∃s,onR (dls L) tw=s:=⟨_,rfl⟩
 by_cases h0:E=0
 case neg=>
  have hq:(E !=0)=true:=by simpa using h0
  obtain rfl:C=[]:=by
   rw[←hC]
   unfold changedI
   rw[if_neg (by rw[hEE];exact h0)]
  clear h0 hEE hC
  have h1:=fun V hV=>HRF.out V fr hV
  have h2:=fun V hV=>HRF.out V tw hV
  unfold EndRf at h1 h2
  rw[hr]at h1
  rw[hs]at h2
  have H1:=Lib.hid h1
  have H2:=Lib.hid h2
  clear h1 h2 hr hs HRF
  go_enter Tryz.func16,Tryz.ntmps16
  go_wp2_with fail
  refine hfe.mono ?_
  clear hfe
  rintro e w' ⟨rfl,rfl⟩
  go_wp2_with fail
  refine hch.mono ?_
  clear hch
  rintro e w1 ⟨A',c',rfl,_,b1⟩
  have HB1:=Lib.hid b1
  have hr1:=H1.out w1 HB1.out
  clear b1
  go_wp2_with fail
  refine hr1.mono ?_
  clear hr1
  rintro e w2 ⟨A1,c1,A2,c2,A3,c3,P0,rfl,_,_,_,_,_,_,_,_,_,b2,_⟩
  obtain⟨w3,st3,k3,b3,x3⟩:=new_row w2 50 zcR #[.slice A1 r.lots.length c1,.slice A2 r.eases.length c2,.slice A3 r.stints.length c3] info_roll rfl (by simp[Value.oneCell'])
  have HB3:=Lib.hid (HB1.out.trans ((b2.trans (b3.mono b2.size)).mono HB1.out.size))
  have hr2:=H2.out w3 HB3.out
  clear b2 b3 k3 x3
  go_wp2_with fail
  refine hr2.mono ?_
  clear hr2 st3
  rintro e w4 ⟨B1,d1,B2,d2,B3,d3,P1,rfl,_,_,_,_,_,_,_,_,_,b4,_⟩
  obtain⟨w5,st5,k5,b5,x5⟩:=new_row w4 50 zcR #[.slice B1 s.lots.length d1,.slice B2 s.eases.length d2,.slice B3 s.stints.length d3] info_roll rfl (by simp[Value.oneCell'])
  have HB5:=Lib.hid (HB3.out.trans ((b4.trans (b5.mono b4.size)).mono HB3.out.size))
  have hal:=alive_a w5 (HE.out.up HB5.out)
  clear b4 b5 k5 x5
  go_wp2_with fail
  refine hal.mono ?_
  clear hal st5
  rintro e w6 ⟨rfl,b6⟩
  go_wp2
  go_ret
  exact⟨rfl,HB5.out.trans (b6.mono HB5.out.size)⟩
 subst h0
 have hiF:Rt.Inv (stDay (dls L) fr):=Rt.check_inv (Rt.on_right hEE fr)
 have hiT:Rt.Inv (stDay (dls L) tw):=Rt.check_inv (Rt.on_right hEE tw)
 have erF:r=(stDay (dls L) fr).roll:=by rw[←hr];unfold onR;rw[if_pos hEE]
 have erT:s=(stDay (dls L) tw).roll:=by rw[←hs];unfold onR;rw[if_pos hEE]
 have hCr:C=Rt.changedR r s:=by rw[←hC];unfold changedI;rw[if_pos hEE,hr,hs]
 have hCn:(C=[])↔Rt.sameR r s=true:=by rw[hCr,erF,erT];exact Rt.changed_none hiF hiT
 have hln: ∀day,(stDay (dls L) day).roll.lots.length≤300:=fun day=>by
  have h1:=Rt.stOf_len (Rt.on_right hEE day)
  have h2:(Rt.onDay (dls L) day).length≤(dls L).length:=List.length_filter_le _ _
  have h3:(dls L).length=L.length:=by simp
  have:=HL30.out
  unfold stDay
  omega
 have hCl:C.length≤1000000∧(∀x∈r.lots,Rt.numOk x.number):=by
  refine⟨?_,by rw[erF];exact Rt.stOf_nums (Rt.on_right hEE fr)⟩
  rw[hCr,erF,erT]
  have:=Rt.changed_len (stDay (dls L) fr).roll (stDay (dls L) tw).roll
  have:=hln fr
  have:=hln tw
  omega
 have HOL:Hid (∀n,(overR r n).length≤1000000):=Lib.hid fun n=>by
  rw[erF]
  have:=Rt.over_len hiF n
  have:=hln fr
  unfold overR
  omega
 have HUN:Hid (∀x∈r.lots,x.number∉C→Rt.lotOf s.lots x.number=some x∧beastsR r x.number=beastsR s x.number∧overR r x.number=overR s x.number):=Lib.hid fun x hx hn=>by
  rw[hCr]at hn
  have ha:=Rt.unchanged hx hn
  refine⟨?_,?_,?_⟩
  ·rw[←Rt.alike_lot ha]
   exact Rt.lotOf_mem (by rw[erF];exact hiF.lots) hx
  ·unfold beastsR;rw[Rt.alike_beasts ha]
  ·unfold overR;exact Rt.alike_over ha
 have HR:=Lib.hid hr
 have HS0:=Lib.hid hs
 have HCK:=Lib.hid hEE
 have HCN:=Lib.hid hCn
 have HCL:=Lib.hid hCl.1
 have HNU:=Lib.hid hCl.2
 have HIF:=Lib.hid hiF
 have h1:=fun V hV=>HRF.out V fr hV
 have h2:=fun V hV=>HRF.out V tw hV
 unfold EndRf at h1 h2
 rw[hr]at h1
 rw[hs]at h2
 have H1:=Lib.hid h1
 have H2:=Lib.hid h2
 clear h1 h2 HRF hr hs hEE hC hCr hCn hCl hiF hiT erF erT hln
 go_enter Tryz.func16,Tryz.ntmps16
 go_wp2_with fail
 refine hfe.mono ?_
 clear hfe
 rintro e w' ⟨rfl,rfl⟩
 go_wp2_with fail
 refine hch.mono ?_
 clear hch
 rintro e w1 ⟨AC,cC,rfl,hsC,b1⟩
 have HB1:=Lib.hid b1
 have HSC:=Lib.hid hsC
 have hr1:=H1.out w1 HB1.out
 clear b1 hsC
 go_wp2_with fail
 refine hr1.mono ?_
 clear hr1
 rintro e w2 ⟨A1,c1,A2,c2,A3,c3,P0,rfl,hRo,_,_,_,_,_,_,_,_,b2,hfew⟩
 obtain⟨w3,st3,k3,b3,x3⟩:=new_row w2 50 zcR #[.slice A1 r.lots.length c1,.slice A2 r.eases.length c2,.slice A3 r.stints.length c3] info_roll rfl (by simp[Value.oneCell'])
 have HB13:=Lib.hid (b2.trans (b3.mono b2.size))
 have HB3:=Lib.hid (HB1.out.trans (HB13.out.mono HB1.out.size))
 have HRo3:=Lib.hid (hRo.up b3)
 have HFW:=Lib.hid hfew
 have K3:=Lib.hid k3
 have X3:=Lib.hid x3
 have hr2:=H2.out w3 HB3.out
 clear b2 b3 k3 x3 hRo hfew
 go_wp2_with fail
 refine hr2.mono ?_
 clear hr2 st3
 rintro e w4 ⟨B1,d1,B2,d2,B3,d3,P1,rfl,hRo,_,_,_,_,_,_,_,_,b4,hfew⟩
 obtain⟨w5,st5,k5,b5,x5⟩:=new_row w4 50 zcR #[.slice B1 s.lots.length d1,.slice B2 s.eases.length d2,.slice B3 s.stints.length d3] info_roll rfl (by simp[Value.oneCell'])
 have HB35:=Lib.hid (b4.trans (b5.mono b4.size))
 have HB5:=Lib.hid (HB3.out.trans (HB35.out.mono HB3.out.size))
 have HB15:=Lib.hid (HB13.out.trans (HB35.out.mono HB13.out.size))
 have hsame:=sameR_a A1 A2 A3 B1 B2 B3 c1 c2 c3 d1 d2 d3 P0 P1 r s w5 (HRo3.out.up HB35.out) (hRo.up b5) HFW.out hfew
 have k35:=(HB35.out.block _ X3.out).trans K3.out
 have l3:=ld_row k35 Tryz.underlying50 rfl info_roll
 have l5:=ld_row k5 Tryz.underlying50 rfl info_roll
 have K35:=Lib.hid k35
 clear b4 b5 k5 x5 hRo hfew k35
 obtain⟨q,hq⟩: ∃q,Rt.sameR r s=q:=⟨_,rfl⟩
 rw[hq]at hsame HCN
 have HQ:=Lib.hid hq
 have hq2:((C.length:Int)==0)=q:=by
  have:=HCN.out
  cases q with
  |true=>rw[this.2 rfl];rfl
  |false=>
   rw[beq_eq_false_iff_ne]
   intro e
   have e2:C=[]:=List.length_eq_zero_iff.1 (by omega)
   have:=this.1 e2
   cases this
 have hq3:(q !=q)=false:=by simp
 have HQ2:=Lib.hid hq2
 clear hq
 go_wp2_with fail
 refine hsame.mono ?_
 clear hsame l3 l5 st5
 rintro e w6 ⟨rfl,b6⟩
 have HB6:=Lib.hid b6
 have k36:=(b6.block w2.heap.size (Array.getElem?_eq_some_iff.1 K35.out).1).trans K35.out
 have u0:_=some (Value.slice A1 r.lots.length c1):=(blk_cells k36).1 0
 have HB6':=Lib.hid (HB5.out.trans (HB6.out.mono HB5.out.size))
 have HB16:=Lib.hid (HB15.out.trans (HB6.out.mono HB15.out.size))
 have HB36:=Lib.hid (HB35.out.trans (HB6.out.mono HB35.out.size))
 clear b6 k36
 go_wp2
 clear u0 hq2 hq3
 go_loopw [66] (fun i wr=> ∃j:Nat,j≤r.lots.length∧i=.int .i64 j∧Hid (Below w6.heap.size w6 wr)) (fun i _=>r.lots.length-(intOf i).toNat)
 case atStart=>exact⟨0,by omega,rfl,Lib.hid (Below.refl _ _)⟩
 case round=>
  obtain⟨j,hj,rfl,HBr⟩:=hrel
  have hfl:=HFW.out.lots
  by_cases hlt:j<r.lots.length
  ·have hji:(j:Int)<(r.lots.length:Int):=by omega
   have hp0:j<P0.length:=by have h1:=congrArg List.length HRo3.out.is;simp at h1;rw[h1];exact hlt
   have hR0:=(HRo3.out.up HB36.out).up HBr.out
   obtain⟨b1,o1,eb1,_,q1⟩:=ld_L hR0.lots.seg hp0
   have x0:P0[j].x∈r.lots:=by rw[←HRo3.out.is];exact List.mem_map.2 ⟨_,List.getElem_mem hp0,rfl⟩
   have hnum:=HNU.out _ x0
   have hun:=HUN.out _ x0
   have hfh:=HFW.out.held _ x0
   obtain⟨w8,st8,k8,b8,y8⟩:=new_row wr 54 zcL (rowL P0[j]) info_lot rfl (by simp[Value.oneCell'])
   have HB8:=Lib.hid (HBr.out.trans (b8.mono HBr.out.size))
   have hgx:Seg encH 2 w8 w8.heap.size P0[j].A P0[j].x.held:=(hR0.up b8).lots.each _ (List.getElem_mem hp0)|>.1
   obtain⟨p1,hp1e⟩: ∃p,P0[j]=p:=⟨_,rfl⟩
   rw[hp1e]at q1 st8 k8 hnum hun hfh hgx
   subst eb1
   obtain⟨bx,hbx⟩: ∃b,wr.heap.size=b:=⟨_,rfl⟩
   rw[hbx]at st8 k8 y8
   have K8:=Lib.hid k8
   have Y8:=Lib.hid y8
   have ln8:w8.cell? ⟨bx,0,none⟩=some (.int .i64 p1.x.number):=(blk_cells k8).1 0
   have hco:=hasI_a AC cC C p1.x.number w8 ((HSC.out.below (HB16.out.trans (HB8.out.mono HB16.out.size))).more ((HB16.out.trans (HB8.out.mono HB16.out.size)).size)) HCL.out
   obtain⟨n,hn⟩: ∃n,p1.x.number=n:=⟨_,rfl⟩
   have HNN:=Lib.hid hn
   have HUN1:=Lib.hid hun
   have HFH:=Lib.hid hfh
   have HGX:=Lib.hid hgx
   have HNUM:=Lib.hid hnum
   rw[hn]at hco
   have HBX:=Lib.hid hbx
   clear x0 hun k8 b8 y8 hp1e hR0 hfh hgx hnum
   rw[hn]at ln8
   clear hn
   cases hcc:C.contains n with
   |true=>
    rw[hcc]at hco
    clear hcc
    go_upto_region 13 with fail
    try rw[HBX.out]
    go_wp2_with fail
    refine hco.mono ?_
    clear hco st8 q1 ln8
    rintro e v1 ⟨rfl,rfl⟩
    go_wp2
    go_roundw
    case rel=>exact⟨j+1,by omega,by go_num,HB8⟩
    case measure=>first|(simp[intOf];done)|(simp[intOf];omega)
   |false=>
    rw[hcc]at hco
    have hnc:p1.x.number∉C:=by
     rw[HNN.out]
     intro e
     have:=List.contains_iff_mem.2 e
     rw[hcc]at this
     cases this
    obtain⟨g1,g2,g3⟩:=HUN1.out hnc
    rw[HNN.out]at g1 g2 g3
    have hBw:Below w'.heap.size w' w8:=HB6'.out.trans (HB8.out.mono HB6'.out.size)
    have hlo:=lotOf_a A c L tw n w8 (HD.out.up hBw) (by have:=HL30.out;omega) (by have:=HNUM.out;rw[HNN.out]at this;unfold Rt.numOk at this;unfold i64;omega)
    have e1:lotE (dls L) tw n=0:=by unfold lotE;rw[if_neg (by rw[HCK.out];simp),HS0.out,g1];rfl
    have e2:lotX (dls L) tw n=p1.x:=by unfold lotX;rw[HS0.out,g1];rfl
    rw[e1,e2]at hlo
    unfold EndL at hlo
    have G2:=Lib.hid g2
    have G3:=Lib.hid g3
    have HBw:=Lib.hid hBw
    clear hcc hnc g1 g2 g3 hBw e1 e2
    go_upto_region 13 with fail
    try rw[HBX.out]
    go_wp2_with fail
    refine hco.mono ?_
    clear hco st8 q1
    rintro e v1 ⟨rfl,rfl⟩
    go_wp2_with fail
    refine hlo.mono ?_
    clear hlo ln8
    rintro e w9 ⟨A6,c6,rfl,hs6,hc6,_,b9⟩
    obtain⟨w10,st10,k10,b10,y10⟩:=new_row w9 54 zcL #[.int .i64 p1.x.number,.int .i64 p1.x.size,.slice A6 p1.x.held.length c6] info_lot rfl (by simp[Value.oneCell'])
    obtain⟨p2,hp2⟩: ∃p2:Lp,p2=⟨p1.x,A6,c6⟩:=⟨_,rfl⟩
    have k10':w10.heap[w9.heap.size]?=some (.cells (rowL p2) 54 (0,0)):=by rw[k10,hp2]
    obtain⟨by_,hby⟩: ∃b,w9.heap.size=b:=⟨_,rfl⟩
    rw[hby]at k10' st10
    have HB810:=Lib.hid (b9.trans (b10.mono b9.size))
    have HB10:=Lib.hid (HB8.out.trans (HB810.out.mono HB8.out.size))
    obtain⟨W,hW⟩: ∃W:World,W=w10.drew:=⟨_,rfl⟩
    have HBW:Hid (Below w6.heap.size w6 W):=Lib.hid (by rw[hW];exact below_drew HB10.out)
    have HB8W:Hid (Below w8.heap.size w8 W):=Lib.hid (by rw[hW];exact below_drew HB810.out)
    have HBwW:Hid (Below w'.heap.size w' W):=Lib.hid (HB6'.out.trans (HBW.out.mono HB6'.out.size))
    have kx:W.heap[bx]?=some (.cells (rowL p1) 54 (0,0)):=(HB8W.out.block _ Y8.out).trans K8.out
    have ky:W.heap[by_]?=some (.cells (rowL p2) 54 (0,0)):=by rw[hW];exact k10'
    have zx:bx<W.heap.size:=(Array.getElem?_eq_some_iff.1 kx).1
    have zy:by_<W.heap.size:=(Array.getElem?_eq_some_iff.1 ky).1
    have HS:Hid (∀V:World,Below W.heap.size W V→(V.cell? ⟨bx,0,none⟩=some (.int .i64 n)∧(loadVar 54 ⟨bx,0,none⟩).run Tryz.prog V=.ok (.agg (rowL p1)) V∧(loadVar 54 ⟨by_,0,none⟩).run Tryz.prog V=.ok (.agg (rowL p2)) V)):=Lib.hid fun V hV=>⟨by
     have g:V.cell? ⟨bx,0,none⟩=some (.int .i64 p1.x.number):=(blk_cells ((hV.block _ zx).trans kx)).1 0
     rwa[HNN.out]at g,ld_row ((hV.block _ zx).trans kx) Tryz.underlying54 rfl info_lot,ld_row ((hV.block _ zy).trans ky) Tryz.underlying54 rfl info_lot⟩
    have hx2:p2.x=p1.x:=by rw[hp2]
    have ct1:=sameLot_h p1 p2 W ((HGX.out.below HB8W.out).more HB8W.out.size) (by rw[hp2];exact(hs6.below (b10.trans ((show Below w10.heap.size w10 W by rw[hW];exact below_drew (Below.refl _ _)).mono b10.size))).more (b10.trans ((show Below w10.heap.size w10 W by rw[hW];exact below_drew (Below.refl _ _)).mono b10.size)).size) HFH.out
    have hsl:Rt.sameL p1.x p2.x=true:=by rw[hx2];simp[Rt.sameL]
    rw[hsl]at ct1
    have CT2:Hid (∀V,Below W.heap.size W V→Calls Tryz.prog 66 #[.slice A L.length c,.int .i64 fr,.int .i64 n] V fun e w'=>e=.returned (.int .i64 (beastsR r n))∧Below V.heap.size V w'):=Lib.hid fun V hV=>by
     have:=beasts_a A c L fr n V (HD.out.up (HBwW.out.trans (hV.mono HBwW.out.size))) (by have:=HL30.out;omega)
     rwa[HR.out]at this
    have CT3:Hid (∀V,Below W.heap.size W V→Calls Tryz.prog 66 #[.slice A L.length c,.int .i64 tw,.int .i64 n] V fun e w'=>e=.returned (.int .i64 (beastsR r n))∧Below V.heap.size V w'):=Lib.hid fun V hV=>by
     have:=beasts_a A c L tw n V (HD.out.up (HBwW.out.trans (hV.mono HBwW.out.size))) (by have:=HL30.out;omega)
     rwa[HS0.out,←G2.out]at this
    have CT4:Hid (∀V,Below W.heap.size W V→Calls Tryz.prog 67 #[.slice A L.length c,.int .i64 fr,.int .i64 n] V (EndN V (overR r n))):=Lib.hid fun V hV=>by
     have:=over_a A c L fr n V (HD.out.up (HBwW.out.trans (hV.mono HBwW.out.size))) (by have:=HL30.out;omega)
     rwa[HR.out]at this
    have CT5:Hid (∀V,Below W.heap.size W V→Calls Tryz.prog 67 #[.slice A L.length c,.int .i64 tw,.int .i64 n] V (EndN V (overR r n))):=Lib.hid fun V hV=>by
     have:=over_a A c L tw n V (HD.out.up (HBwW.out.trans (hV.mono HBwW.out.size))) (by have:=HL30.out;omega)
     rwa[HS0.out,←G3.out]at this
    obtain⟨nb,hnb⟩: ∃x,beastsR r n=x:=⟨_,rfl⟩
    obtain⟨lo,hlo2⟩: ∃x,overR r n=x:=⟨_,rfl⟩
    rw[hnb]at CT2 CT3
    rw[hlo2]at CT4 CT5
    unfold EndN at CT4 CT5
    have hll:lo.length≤1000000:=by rw[←hlo2];exact HOL.out n
    have CT6:Hid (∀A7 c7 A8 c8 V,Ints V V.heap.size A7 lo→Ints V V.heap.size A8 lo→Calls Tryz.prog 41 #[.slice A7 lo.length c7,.slice A8 lo.length c8] V fun e w'=>e=.returned (.bool true)∧Below V.heap.size V w'):=Lib.hid fun A7 c7 A8 c8 V h7 h8=>by
     have:=eqI_a A7 A8 c7 c8 lo lo V h7 h8 hll hll
     rwa[decide_eq_true rfl]at this
    have HW:=Lib.hid hW
    clear kx ky zx zy hx2 hsl hs6 hc6 k10 k10' b9 b10 y10 hnb hlo2 hll hp2 hW
    go_upto_region 15 with fail
    try rw[hby]
    clear st10 hby
    refine wp_region_held_drew (S:=fun V=>(V.cell? ⟨bx,0,none⟩=some (.int .i64 n)∧(loadVar 54 ⟨bx,0,none⟩).run Tryz.prog V=.ok (.agg (rowL p1)) V∧(loadVar 54 ⟨by_,0,none⟩).run Tryz.prog V=.ok (.agg (rowL p2)) V)) (by kernel_rfl) (by rw[←HW.out];exact HS.out _ (Below.refl _ _)) (fun hHeld=> ?_)
    rw[←HW.out]
    replace hHeld:=HS.out W (Below.refl _ _)
    refine takeH 0 (some 82) (v:= ?_) rfl rfl (by kernel_rfl) (by kernel_rfl) (by kernel_rfl) (fun _ _ _ h=>h) (Or.inl ⟨by rfl,fun W hW=> ?_⟩) (by assumption) ?_
    rotate_left
    ·obtain⟨hW1,hW2,hW3⟩:=hW;go_simp;try with_reducible rfl
    try simp only[Act.put,List.setIfInBounds_toArray,List.set_cons_zero,List.set_cons_succ]
    refine takeH 1 (some 83) (v:= ?_) rfl rfl (by kernel_rfl) (by kernel_rfl) (by kernel_rfl) (fun _ _ _ h=>h) (Or.inl ⟨by rfl,fun W hW=> ?_⟩) (by assumption) ?_
    rotate_left
    ·obtain⟨hW1,hW2,hW3⟩:=hW;go_simp;try with_reducible rfl
    try simp only[Act.put,List.setIfInBounds_toArray,List.set_cons_zero,List.set_cons_succ]
    refine takeH 2 (some 84) (v:= ?_) rfl rfl (by kernel_rfl) (by kernel_rfl) (by kernel_rfl) (fun _ _ _ h=>h) (Or.inl ⟨by rfl,fun W hW=> ?_⟩) (by assumption) ?_
    rotate_left
    ·obtain⟨hW1,hW2,hW3⟩:=hW;go_simp;try with_reducible rfl
    try simp only[Act.put,List.setIfInBounds_toArray,List.set_cons_zero,List.set_cons_succ]
    refine takeH 3 (some 85) (v:= ?_) rfl rfl (by kernel_rfl) (by kernel_rfl) (by kernel_rfl) (fun _ _ _ h=>h) (Or.inl ⟨by rfl,fun W hW=> ?_⟩) (by assumption) ?_
    rotate_left
    ·obtain⟨hW1,hW2,hW3⟩:=hW;go_simp;try with_reducible rfl
    try simp only[Act.put,List.setIfInBounds_toArray,List.set_cons_zero,List.set_cons_succ]
    refine takeH 4 (some 86) (v:= ?_) rfl rfl (by kernel_rfl) (by kernel_rfl) (by kernel_rfl) (fun _ _ _ h=>h) (Or.inl ⟨by rfl,fun W hW=> ?_⟩) (by assumption) ?_
    rotate_left
    ·obtain⟨hW1,hW2,hW3⟩:=hW;go_simp;try with_reducible rfl
    try simp only[Act.put,List.setIfInBounds_toArray,List.set_cons_zero,List.set_cons_succ]
    refine wpAnyH_ready (rs:=[5]) (by kernel_rfl) (by simp) ?_
    refine readyH (some 87) rfl rfl (fun K hK=> ?_) AllReadyH.nil
    go_simp
    refine ct1.mono ?_
    clear ct1
    rintro e v1 ⟨rfl,bb1⟩
    have Bv1:Hid (Below W.heap.size W v1):=Lib.hid (bb1)
    clear bb1
    refine hK _ _ (HS.out _ Bv1.out) (fun hHeld=> ?_)
    clear hK K
    try simp only[Act.put,List.setIfInBounds_toArray,List.set_cons_zero,List.set_cons_succ]
    refine takeH 6 (some 88) (v:= ?_) rfl rfl (by kernel_rfl) (by kernel_rfl) (by kernel_rfl) (fun _ _ _ h=>h) (Or.inl ⟨by rfl,fun W hW=> ?_⟩) (by assumption) ?_
    rotate_left
    ·obtain⟨hW1,hW2,hW3⟩:=hW;go_simp;try with_reducible rfl
    try simp only[Act.put,List.setIfInBounds_toArray,List.set_cons_zero,List.set_cons_succ]
    refine takeH 7 (some 89) (v:= ?_) rfl rfl (by kernel_rfl) (by kernel_rfl) (by kernel_rfl) (fun _ _ _ h=>h) (Or.inl ⟨by rfl,fun W hW=> ?_⟩) (by assumption) ?_
    rotate_left
    ·obtain⟨hW1,hW2,hW3⟩:=hW;go_simp;try with_reducible rfl
    try simp only[Act.put,List.setIfInBounds_toArray,List.set_cons_zero,List.set_cons_succ]
    refine takeH 8 (some 90) (v:= ?_) rfl rfl (by kernel_rfl) (by kernel_rfl) (by kernel_rfl) (fun _ _ _ h=>h) (Or.inl ⟨by rfl,fun W hW=> ?_⟩) (by assumption) ?_
    rotate_left
    ·obtain⟨hW1,hW2,hW3⟩:=hW;go_simp;try with_reducible rfl
    try simp only[Act.put,List.setIfInBounds_toArray,List.set_cons_zero,List.set_cons_succ]
    refine takeH 9 (some 91) (v:= ?_) rfl rfl (by kernel_rfl) (by kernel_rfl) (by kernel_rfl) (fun _ _ _ h=>h) (Or.inl ⟨by rfl,fun W hW=> ?_⟩) (by assumption) ?_
    rotate_left
    ·obtain⟨hW1,hW2,hW3⟩:=hW;go_simp;try with_reducible rfl
    try simp only[Act.put,List.setIfInBounds_toArray,List.set_cons_zero,List.set_cons_succ]
    refine takeH 10 (some 92) (v:= ?_) rfl rfl (by kernel_rfl) (by kernel_rfl) (by kernel_rfl) (fun _ _ _ h=>h) (Or.inl ⟨by rfl,fun W hW=> ?_⟩) (by assumption) ?_
    rotate_left
    ·obtain⟨hW1,hW2,hW3⟩:=hW;go_simp;try with_reducible rfl
    try simp only[Act.put,List.setIfInBounds_toArray,List.set_cons_zero,List.set_cons_succ]
    refine takeH 11 (some 93) (v:= ?_) rfl rfl (by kernel_rfl) (by kernel_rfl) (by kernel_rfl) (fun _ _ _ h=>h) (Or.inl ⟨by rfl,fun W hW=> ?_⟩) (by assumption) ?_
    rotate_left
    ·obtain⟨hW1,hW2,hW3⟩:=hW;go_simp;try with_reducible rfl
    try simp only[Act.put,List.setIfInBounds_toArray,List.set_cons_zero,List.set_cons_succ]
    refine takeH 12 (some 94) (v:= ?_) rfl rfl (by kernel_rfl) (by kernel_rfl) (by kernel_rfl) (fun _ _ _ h=>h) (Or.inl ⟨by rfl,fun W hW=> ?_⟩) (by assumption) ?_
    rotate_left
    ·obtain⟨hW1,hW2,hW3⟩:=hW;go_simp;try with_reducible rfl
    try simp only[Act.put,List.setIfInBounds_toArray,List.set_cons_zero,List.set_cons_succ]
    refine takeH 14 (some 96) (v:= ?_) rfl rfl (by kernel_rfl) (by kernel_rfl) (by kernel_rfl) (fun _ _ _ h=>h) (Or.inl ⟨by rfl,fun W hW=> ?_⟩) (by assumption) ?_
    rotate_left
    ·obtain⟨hW1,hW2,hW3⟩:=hW;go_simp;try with_reducible rfl
    try simp only[Act.put,List.setIfInBounds_toArray,List.set_cons_zero,List.set_cons_succ]
    refine takeH 15 (some 97) (v:= ?_) rfl rfl (by kernel_rfl) (by kernel_rfl) (by kernel_rfl) (fun _ _ _ h=>h) (Or.inl ⟨by rfl,fun W hW=> ?_⟩) (by assumption) ?_
    rotate_left
    ·obtain⟨hW1,hW2,hW3⟩:=hW;go_simp;try with_reducible rfl
    try simp only[Act.put,List.setIfInBounds_toArray,List.set_cons_zero,List.set_cons_succ]
    refine takeH 16 (some 98) (v:= ?_) rfl rfl (by kernel_rfl) (by kernel_rfl) (by kernel_rfl) (fun _ _ _ h=>h) (Or.inl ⟨by rfl,fun W hW=> ?_⟩) (by assumption) ?_
    rotate_left
    ·obtain⟨hW1,hW2,hW3⟩:=hW;go_simp;try with_reducible rfl
    try simp only[Act.put,List.setIfInBounds_toArray,List.set_cons_zero,List.set_cons_succ]
    refine takeH 17 (some 99) (v:= ?_) rfl rfl (by kernel_rfl) (by kernel_rfl) (by kernel_rfl) (fun _ _ _ h=>h) (Or.inl ⟨by rfl,fun W hW=> ?_⟩) (by assumption) ?_
    rotate_left
    ·obtain⟨hW1,hW2,hW3⟩:=hW;go_simp;try with_reducible rfl
    try simp only[Act.put,List.setIfInBounds_toArray,List.set_cons_zero,List.set_cons_succ]
    have ct2:=CT2.out v1 Bv1.out
    refine wpAnyH_ready (rs:=[13]) (by kernel_rfl) (by simp) ?_
    refine readyH (some 95) rfl rfl (fun K hK=> ?_) AllReadyH.nil
    go_simp
    refine ct2.mono ?_
    clear ct2
    rintro e v2 ⟨rfl,bb2⟩
    have Bv2:Hid (Below W.heap.size W v2):=Lib.hid (Bv1.out.trans (bb2.mono Bv1.out.size))
    clear bb2
    refine hK _ _ (HS.out _ Bv2.out) (fun hHeld=> ?_)
    clear hK K
    try simp only[Act.put,List.setIfInBounds_toArray,List.set_cons_zero,List.set_cons_succ]
    have ct3:=CT3.out v2 Bv2.out
    refine wpAnyH_ready (rs:=[18]) (by kernel_rfl) (by simp) ?_
    refine readyH (some 100) rfl rfl (fun K hK=> ?_) AllReadyH.nil
    go_simp
    refine ct3.mono ?_
    clear ct3
    rintro e v3 ⟨rfl,bb3⟩
    have Bv3:Hid (Below W.heap.size W v3):=Lib.hid (Bv2.out.trans (bb3.mono Bv2.out.size))
    clear bb3
    refine hK _ _ (HS.out _ Bv3.out) (fun hHeld=> ?_)
    clear hK K
    try simp only[Act.put,List.setIfInBounds_toArray,List.set_cons_zero,List.set_cons_succ]
    refine takeH 19 (some 101) (v:= ?_) rfl rfl (by kernel_rfl) (by kernel_rfl) (by kernel_rfl) (fun _ _ _ h=>h) (Or.inl ⟨by rfl,fun W hW=> ?_⟩) (by assumption) ?_
    rotate_left
    ·obtain⟨hW1,hW2,hW3⟩:=hW;go_simp;try with_reducible rfl
    try simp only[Act.put,List.setIfInBounds_toArray,List.set_cons_zero,List.set_cons_succ]
    refine takeH 20 (some 102) (v:= ?_) rfl rfl (by kernel_rfl) (by kernel_rfl) (by kernel_rfl) (fun _ _ _ h=>h) (Or.inl ⟨by rfl,fun W hW=> ?_⟩) (by assumption) ?_
    rotate_left
    ·obtain⟨hW1,hW2,hW3⟩:=hW;go_simp;try with_reducible rfl
    try simp only[Act.put,List.setIfInBounds_toArray,List.set_cons_zero,List.set_cons_succ]
    refine takeH 21 (some 103) (v:= ?_) rfl rfl (by kernel_rfl) (by kernel_rfl) (by kernel_rfl) (fun _ _ _ h=>h) (Or.inl ⟨by rfl,fun W hW=> ?_⟩) (by assumption) ?_
    rotate_left
    ·obtain⟨hW1,hW2,hW3⟩:=hW;go_simp;try with_reducible rfl
    try simp only[Act.put,List.setIfInBounds_toArray,List.set_cons_zero,List.set_cons_succ]
    refine takeH 22 (some 104) (v:= ?_) rfl rfl (by kernel_rfl) (by kernel_rfl) (by kernel_rfl) (fun _ _ _ h=>h) (Or.inl ⟨by rfl,fun W hW=> ?_⟩) (by assumption) ?_
    rotate_left
    ·obtain⟨hW1,hW2,hW3⟩:=hW;go_simp;try with_reducible rfl
    try simp only[Act.put,List.setIfInBounds_toArray,List.set_cons_zero,List.set_cons_succ]
    refine takeH 23 (some 105) (v:= ?_) rfl rfl (by kernel_rfl) (by kernel_rfl) (by kernel_rfl) (fun _ _ _ h=>h) (Or.inl ⟨by rfl,fun W hW=> ?_⟩) (by assumption) ?_
    rotate_left
    ·obtain⟨hW1,hW2,hW3⟩:=hW;go_simp;try with_reducible rfl
    try simp only[Act.put,List.setIfInBounds_toArray,List.set_cons_zero,List.set_cons_succ]
    refine takeH 24 (some 106) (v:= ?_) rfl rfl (by kernel_rfl) (by kernel_rfl) (by kernel_rfl) (fun _ _ _ h=>h) (Or.inl ⟨by rfl,fun W hW=> ?_⟩) (by assumption) ?_
    rotate_left
    ·obtain⟨hW1,hW2,hW3⟩:=hW;go_simp;try with_reducible rfl
    try simp only[Act.put,List.setIfInBounds_toArray,List.set_cons_zero,List.set_cons_succ]
    refine takeH 25 (some 107) (v:= ?_) rfl rfl (by kernel_rfl) (by kernel_rfl) (by kernel_rfl) (fun _ _ _ h=>h) (Or.inl ⟨by rfl,fun W hW=> ?_⟩) (by assumption) ?_
    rotate_left
    ·obtain⟨hW1,hW2,hW3⟩:=hW;go_simp;try with_reducible rfl
    try simp only[Act.put,List.setIfInBounds_toArray,List.set_cons_zero,List.set_cons_succ]
    refine takeH 27 (some 109) (v:= ?_) rfl rfl (by kernel_rfl) (by kernel_rfl) (by kernel_rfl) (fun _ _ _ h=>h) (Or.inl ⟨by rfl,fun W hW=> ?_⟩) (by assumption) ?_
    rotate_left
    ·obtain⟨hW1,hW2,hW3⟩:=hW;go_simp;try with_reducible rfl
    try simp only[Act.put,List.setIfInBounds_toArray,List.set_cons_zero,List.set_cons_succ]
    refine takeH 28 (some 110) (v:= ?_) rfl rfl (by kernel_rfl) (by kernel_rfl) (by kernel_rfl) (fun _ _ _ h=>h) (Or.inl ⟨by rfl,fun W hW=> ?_⟩) (by assumption) ?_
    rotate_left
    ·obtain⟨hW1,hW2,hW3⟩:=hW;go_simp;try with_reducible rfl
    try simp only[Act.put,List.setIfInBounds_toArray,List.set_cons_zero,List.set_cons_succ]
    refine takeH 29 (some 111) (v:= ?_) rfl rfl (by kernel_rfl) (by kernel_rfl) (by kernel_rfl) (fun _ _ _ h=>h) (Or.inl ⟨by rfl,fun W hW=> ?_⟩) (by assumption) ?_
    rotate_left
    ·obtain⟨hW1,hW2,hW3⟩:=hW;go_simp;try with_reducible rfl
    try simp only[Act.put,List.setIfInBounds_toArray,List.set_cons_zero,List.set_cons_succ]
    refine takeH 30 (some 112) (v:= ?_) rfl rfl (by kernel_rfl) (by kernel_rfl) (by kernel_rfl) (fun _ _ _ h=>h) (Or.inl ⟨by rfl,fun W hW=> ?_⟩) (by assumption) ?_
    rotate_left
    ·obtain⟨hW1,hW2,hW3⟩:=hW;go_simp;try with_reducible rfl
    try simp only[Act.put,List.setIfInBounds_toArray,List.set_cons_zero,List.set_cons_succ]
    have ct4:=CT4.out v3 Bv3.out
    refine wpAnyH_ready (rs:=[26]) (by kernel_rfl) (by simp) ?_
    refine readyH (some 108) rfl rfl (fun K hK=> ?_) AllReadyH.nil
    go_simp
    refine ct4.mono ?_
    clear ct4
    rintro e v4 ⟨A7,c7,rfl,o7,bb4⟩
    obtain⟨A9,c9,e9,s7,_⟩:=own_seg layI o7
    cases e9
    have S7:=Lib.hid s7
    clear o7 s7
    have Bv4:Hid (Below W.heap.size W v4):=Lib.hid (Bv3.out.trans (bb4.mono Bv3.out.size))
    clear bb4
    refine hK _ _ (HS.out _ Bv4.out) (fun hHeld=> ?_)
    clear hK K
    try simp only[Act.put,List.setIfInBounds_toArray,List.set_cons_zero,List.set_cons_succ]
    have ct5:=CT5.out v4 Bv4.out
    refine wpAnyH_ready (rs:=[31]) (by kernel_rfl) (by simp) ?_
    refine readyH (some 113) rfl rfl (fun K hK=> ?_) AllReadyH.nil
    go_simp
    refine ct5.mono ?_
    clear ct5
    rintro e v5 ⟨A8,c8,rfl,o8,bb5⟩
    obtain⟨A9,c9,e9,s8,_⟩:=own_seg layI o8
    cases e9
    have ct6:=CT6.out A7 c7 A8 c8 v5 ((S7.out.below bb5).more bb5.size) s8
    clear o8 s8
    have Bv5:Hid (Below W.heap.size W v5):=Lib.hid (Bv4.out.trans (bb5.mono Bv4.out.size))
    clear bb5
    refine hK _ _ (HS.out _ Bv5.out) (fun hHeld=> ?_)
    clear hK K
    try simp only[Act.put,List.setIfInBounds_toArray,List.set_cons_zero,List.set_cons_succ]
    refine wpAnyH_ready (rs:=[32]) (by kernel_rfl) (by simp) ?_
    refine readyH (some 114) rfl rfl (fun K hK=> ?_) AllReadyH.nil
    go_simp
    refine ct6.mono ?_
    clear ct6
    rintro e v6 ⟨rfl,bb6⟩
    have Bv6:Hid (Below W.heap.size W v6):=Lib.hid (Bv5.out.trans (bb6.mono Bv5.out.size))
    clear bb6
    refine hK _ _ (HS.out _ Bv6.out) (fun hHeld=> ?_)
    clear hK K
    try simp only[Act.put,List.setIfInBounds_toArray,List.set_cons_zero,List.set_cons_succ]
    refine takeH 33 (some 115) (v:= ?_) rfl rfl (by kernel_rfl) (by kernel_rfl) (by kernel_rfl) (fun _ _ _ h=>h) (Or.inl ⟨by rfl,fun W hW=> ?_⟩) (by assumption) ?_
    rotate_left
    ·obtain⟨hW1,hW2,hW3⟩:=hW;go_simp;try with_reducible rfl
    try simp only[Act.put,List.setIfInBounds_toArray,List.set_cons_zero,List.set_cons_succ]
    refine takeH 34 (some 116) (v:= ?_) rfl rfl (by kernel_rfl) (by kernel_rfl) (by kernel_rfl) (fun _ _ _ h=>h) (Or.inl ⟨by rfl,fun W hW=> ?_⟩) (by assumption) ?_
    rotate_left
    ·obtain⟨hW1,hW2,hW3⟩:=hW;go_simp;try with_reducible rfl
    try simp only[Act.put,List.setIfInBounds_toArray,List.set_cons_zero,List.set_cons_succ]
    refine wpAnyH_done (by kernel_rfl) ?_ _
    have HB12:Hid (Below w6.heap.size w6 v6):=Lib.hid (HBW.out.trans (Bv6.out.mono HBW.out.size))
    go_wp2
    go_roundw
    case rel=>exact⟨j+1,by omega,by go_num,HB12⟩
    case measure=>first|(simp[intOf];done)|(simp[intOf];omega)
  ·obtain rfl:j=r.lots.length:=by omega
   have hBw:Below w'.heap.size w' wr:=HB6'.out.trans (HBr.out.mono HB6'.out.size)
   have hal:=alive_a wr (HE.out.up hBw)
   have HBw:=Lib.hid hBw
   clear hBw
   go_wp2_with fail
   refine hal.mono ?_
   clear hal
   rintro e v1 ⟨rfl,b1⟩
   go_wp2
   go_ret
   exact⟨rfl,HBw.out.trans (b1.mono HBw.out.size)⟩
end Go.Proofs.YtcffonnijhhhiaaGreatDoor
