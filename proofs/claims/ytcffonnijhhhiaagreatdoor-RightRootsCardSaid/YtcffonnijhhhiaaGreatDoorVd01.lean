/- Part Vd01 of the proof: Yl Ym. -/
import Derived.Test.YtcffonnijhhhiaaGreatDoorProg
import Derived.WalkKit
import Derived.WalkLawsBesides
import Derived.WalkSpells
import Derived.Handy
import Derived.Lib.Hide
import Derived.Great.BuildSlice
import Derived.Deep.QuietTactic
import Derived.BigQuiet
import Derived.Deep.RegionHeld3
import Derived.Deep.DeepCutAuto
import Derived.Test.YtcffonnijhhhiaaGreatDoorVd00
set_option linter.all false
set_option linter.unusedSimpArgs false
set_option linter.unusedVariables false
set_option linter.unusedSectionVars false
set_option linter.all false
set_option linter.unusedSimpArgs false
set_option linter.unusedVariables false
set_option linter.unusedSectionVars false
namespace Go.Proofs.YtcffonnijhhhiaaGreatDoor
open Go Go.RowKit Go.Maps Mp
attribute [-simp] Prod.forall Prod.exists
attribute [-go_sem] loadVar storeVar Builtin.append_
attribute [local go_sem] lk_int lk_u8 lk_ints
set_option maxRecDepth 100000 in
set_option maxHeartbeats 8000000 in
theorem rightRoots_w (A:Option Addr)(c:Nat)(L:List Dp)(day lot:Int)(w:World)(hE:Env w)(h:Dlo w w.heap.size A L)(hc:L.length≤c)(hm:c≤maxLen)(hlot:i64 lot):Calls Tryz.prog 15 #[.slice A L.length c,.int .i64 day,.int .i64 lot] w fun e w'=>e=.returned (.bool true)∧Below w.heap.size w w':=by
 have hfe:=few30_h A c L _ h.seg (Nat.le_trans hc hm)
 have HE:=Lib.hid hE
 by_cases hf:Rt.few (dls L) 30=true
 case neg=>
  have hf2:Rt.few (dls L) 30=false:=by simpa using hf
  rw[hf2]at hfe
  have hal:=alive_a w hE
  clear hf hf2 h hE hc hm hlot
  go_enter Tryz.func15,Tryz.ntmps15
  go_wp2_with fail
  refine hfe.mono ?_
  clear hfe
  rintro e w' ⟨rfl,rfl⟩
  go_wp2_with fail
  refine hal.mono ?_
  rintro e w1 ⟨rfl,hb⟩
  go_wp2
  go_ret
  exact⟨rfl,hb⟩
 rw[hf]at hfe
 obtain⟨hD,hl30⟩:=h.few hf
 have hli:=lines_a A c L lot w hD (by omega) hc
 have HRO:Hid (∀V,Below w.heap.size w V→_):=Lib.hid fun V hV=>roots_a A c L lot V (hD.up hV) (by omega)
 have HLO:Hid (∀V,Below w.heap.size w V→_):=Lib.hid fun V hV=>lotOf_a A c L day lot V (hD.up hV) (by omega) hlot
 have HD:=Lib.hid hD
 have HL30:=Lib.hid hl30
 clear hf h hE hc hm hl30 hD hlot
 obtain⟨E,hEE⟩: ∃E,Rt.lineE (dls L) lot=E:=⟨_,rfl⟩
 obtain⟨F,hF⟩: ∃F,lotE (dls L) day lot=F:=⟨_,rfl⟩
 obtain⟨X,hX⟩: ∃X,lotX (dls L) day lot=X:=⟨_,rfl⟩
 rw[hF,hX]at HLO
 rw[hEE]at hli HRO
 unfold EndLe at hli HRO
 unfold EndL at HLO
 by_cases h0:E=0
 case neg=>
  have e1:Rt.lineI (dls L) lot=[]:=by unfold Rt.lineI Rt.linedP;rw[if_neg (by rw[hEE];exact h0)];rfl
  have e2:Rt.linedR (dls L) lot=[]:=by unfold Rt.linedR;rw[if_neg (by rw[hEE];exact h0)]
  have hF0:F≠0:=by
   rw[←hF]
   unfold lotE
   by_cases hck:(Rt.check (dls L)).2=0
   ·rw[if_neg (by rw[hck];decide)]
    have:Rt.lotOf (onR (dls L) day).lots lot=none:=by
     unfold onR stDay
     rw[if_pos hck]
     exact Rt.roots_none hck (by rw[hEE];exact h0) day
    rw[this]
    decide
   ·rw[if_pos hck]
    exact hck
  rw[e1]at hli
  rw[e2]at HRO
  have hq:(E !=0)=true:=by simpa using h0
  have hq2:(E==E)=true:=by simp
  have hq3:(F !=0)=true:=by simpa using hF0
  clear h0 hEE hF hX e1 e2 hF0
  go_enter Tryz.func15,Tryz.ntmps15
  go_wp2_with fail
  refine hfe.mono ?_
  clear hfe
  rintro e w' ⟨rfl,rfl⟩
  go_wp2_with fail
  refine hli.mono ?_
  clear hli
  rintro e w1 ⟨A1,c1,rfl,_,b1⟩
  have HB1:=Lib.hid b1
  have hro:=HRO.out w1 HB1.out
  clear b1
  go_wp2_with fail
  refine hro.mono ?_
  clear hro
  rintro e w2 ⟨A2,c2,rfl,_,b2⟩
  have HB2:=Lib.hid (HB1.out.trans (b2.mono HB1.out.size))
  have hlo:=HLO.out w2 HB2.out
  clear b2
  go_wp2_with fail
  refine hlo.mono ?_
  clear hlo
  rintro e w3 ⟨A3,c3,rfl,_,_,_,b3⟩
  obtain⟨w4,st4,k4,b4,x4⟩:=new_row w3 54 zcL #[.int .i64 X.number,.int .i64 X.size,.slice A3 X.held.length c3] info_lot rfl (by simp[Value.oneCell'])
  have HB4:=Lib.hid (HB2.out.trans ((b3.trans (b4.mono b3.size)).mono HB2.out.size))
  have hal:=alive_a w4 (HE.out.up HB4.out)
  clear b3 b4 k4 x4
  go_wp2_with fail
  refine hal.mono ?_
  clear hal st4
  rintro e w5 ⟨rfl,b5⟩
  go_wp2
  go_ret
  exact⟨rfl,HB4.out.trans (b5.mono HB4.out.size)⟩
 subst h0
 obtain⟨hck,hfm,hI,hil,hrl,hroot,hmade,hsize⟩:=Rt.roots_plain hEE
 have hlen:(dls L).length=L.length:=by simp
 obtain⟨T,hT⟩: ∃T,Rt.lineT (dls L) lot=T:=⟨_,rfl⟩
 rw[hT]at hI hroot hmade hsize
 obtain⟨I,hII⟩: ∃I,Rt.lineI (dls L) lot=I:=⟨_,rfl⟩
 obtain⟨R,hRR⟩: ∃R,Rt.linedR (dls L) lot=R:=⟨_,rfl⟩
 rw[hII]at hI hil hli
 rw[hRR]at hrl hroot HRO
 have hIc:I.length=Rt.cnt T L.length:=by rw[hI,List.length_map,hlen];rfl
 have hcn: ∀j,Rt.cnt T j≤j:=fun j=>by
  unfold Rt.cnt
  have:=List.length_filter_le T (List.range j)
  rwa[List.length_range]at this
 have hIat: ∀j (hj:j<L.length),(T j=true→I[Rt.cnt T j]?=some L[j].x.id)∧(T j=false→ ∀y,I[Rt.cnt T j]?=some y→y≠L[j].x.id):=fun j hj=>by
  have hjd:j<(dls L).length:=by rw[hlen];exact hj
  obtain⟨g1,g2⟩:=Rt.cnt_at (T:=T) hjd
  have hx:(dls L)[j]=L[j].x:=by simp
  refine⟨fun h=> ?_,fun h y hy=> ?_⟩
  ·rw[hI,List.getElem?_map,g1 h]
   simp[List.getD,hj]
  ·rw[hI,List.getElem?_map]at hy
   cases hp:((List.range (dls L).length).filter T)[Rt.cnt T j]? with
   |none=>rw[hp]at hy;cases hy
   |some p=>
    rw[hp]at hy
    have hjp:=g2 h p hp
    have hpl:p<(dls L).length:=List.mem_range.1 (List.mem_filter.1 (List.mem_of_getElem? hp)).1
    have:=Rt.ids_ne hck hjp hpl
    rw[hx]at this
    have e:(dls L).getD p default=(dls L)[p]:=by simp only[List.getD,List.getElem?_eq_getElem hpl,Option.getD_some]
    simp only[Option.map_some,Option.some.injEq]at hy
    rw[←hy,e]
    exact fun e2=>this e2.symm
 have hent:=Rt.ent_in hfm T
 have hszX:F≠0∨X.size≤Rt.ent T (dls L) L.length:=by
  by_cases hF0:F=0
  ·right
   have h1:=hsize day
   rw[hlen]at h1
   refine Int.le_trans (Int.le_of_eq ?_) h1
   rw[←hX]
   unfold lotX Rt.sizeOf onR stDay
   rw[if_pos hck]
   unfold lotE at hF
   rw[if_neg (by rw[hck];decide),hF0]at hF
   unfold onR stDay at hF
   rw[if_pos hck]at hF
   cases hz:Rt.lotOf (Rt.stOf (Rt.onDay (dls L) day)).roll.lots lot with
   |none=>rw[hz]at hF;exact absurd hF (by decide)
   |some z=>rfl
  ·exact .inl hF0
 have hil2:I.length≤30:=by have:=hcn L.length;have:=HL30.out;rw[hIc];omega
 have HIA:=Lib.hid hIat
 have HIC:=Lib.hid hIc
 have HCN:=Lib.hid hcn
 have HEN:=Lib.hid hent
 have HSZ:=Lib.hid hszX
 have HMD:=Lib.hid hmade
 have HRT:=Lib.hid hroot
 have HFM:=Lib.hid hfm
 have HIL:=Lib.hid hil2
 have hrl2:R.length≤30:=by
  have:=Rt.linedR_len (dls L) lot
  rw[hRR,hlen]at this
  have:=HL30.out
  omega
 have HRL:=Lib.hid hrl2
 clear hck hfm hI hroot hmade hsize hT hII hRR hIc hcn hIat hent hszX hEE hF hX hlen hil2 hrl2
 have hi1:((I.length:Int)==0)=false:=by rw[beq_eq_false_iff_ne];omega
 have hr1:((R.length:Int)==0)=false:=by rw[beq_eq_false_iff_ne];omega
 go_enter Tryz.func15,Tryz.ntmps15
 go_wp2_with fail
 refine hfe.mono ?_
 clear hfe
 rintro e w' ⟨rfl,rfl⟩
 go_wp2_with fail
 refine hli.mono ?_
 clear hli
 rintro e w1 ⟨A1,c1,rfl,o1,b1⟩
 obtain⟨A9,c9,e9,s1,_⟩:=own_seg layI o1
 cases e9
 have HS1:=Lib.hid s1
 have HB1:=Lib.hid b1
 have hro:=HRO.out w1 HB1.out
 clear b1 o1 s1
 go_wp2_with fail
 refine hro.mono ?_
 clear hro
 rintro e w2 ⟨A2,c2,rfl,o2,b2⟩
 obtain⟨A9,c9,e9,s2,_⟩:=own_seg layI o2
 cases e9
 have HS2:=Lib.hid s2
 have HB12:=Lib.hid b2
 have HB2:=Lib.hid (HB1.out.trans (b2.mono HB1.out.size))
 have hlo:=HLO.out w2 HB2.out
 clear b2 o2 s2
 go_wp2_with fail
 refine hlo.mono ?_
 clear hlo
 rintro e w3 ⟨A3,c3,rfl,_,_,_,b3⟩
 obtain⟨w4,st4,k4,b4,x4⟩:=new_row w3 54 zcL #[.int .i64 X.number,.int .i64 X.size,.slice A3 X.held.length c3] info_lot rfl (by simp[Value.oneCell'])
 have HB24:=Lib.hid (b3.trans (b4.mono b3.size))
 have HB14:=Lib.hid (HB12.out.trans (HB24.out.mono HB12.out.size))
 have HB4:=Lib.hid (HB1.out.trans (HB14.out.mono HB1.out.size))
 have K4:=Lib.hid k4
 have X4:=Lib.hid x4
 clear b3 b4 k4 x4
 go_wp2
 clear hi1 hr1 hil hrl
 clear st4
 go_loopw [13,14,15,75] (fun z m k i wr=> ∃(j a:Nat) (s:Int) (b:Bool),j≤L.length∧z=.int .i64 s∧m=.bool b∧k=.int .i64 a∧i=.int .i64 j∧Hid (s=Rt.ent T (dls L) j∧b=Rt.madeTo T (dls L) lot j∧a=Rt.cnt T j)∧Hid (Below w4.heap.size w4 wr)) (fun _ _ _ i _=>L.length-(intOf i).toNat)
 case atStart=>exact⟨0,0,0,false,by omega,rfl,rfl,rfl,rfl,Lib.hid ⟨rfl,rfl,rfl⟩,Lib.hid (Below.refl _ _)⟩
 case round=>
  obtain⟨j,a,s,b,hj,rfl,rfl,rfl,rfl,HV,HBr⟩:=hrel
  have hl30:=HL30.out
  have hil:=HIL.out
  by_cases hlt:j<L.length
  ·have hji:(j:Int)<(L.length:Int):=by omega
   have HBw:Hid (Below w'.heap.size w' wr):=Lib.hid (HB4.out.trans (HBr.out.mono HB4.out.size))
   obtain⟨bl,ol,hA,hbb,hld,_⟩:=(HD.out.below HBw.out).at_ hlt
   have hdp:=HD.out.each _ (List.getElem_mem hlt)
   have hat:=HIA.out j hlt
   rw[←HV.out.2.2]at hat
   have hej:=HEN.out j (by simpa using Nat.le_of_lt hlt)
   rw[←HV.out.1]at hej
   have hgd:(dls L).getD j default=L[j].x:=by simp[List.getD,hlt]
   have hn1:Rt.ent T (dls L) (j+1)=if T j=true∧L[j].x.kind=1 then s+L[j].x.size else s:=by rw[←hgd,HV.out.1];rfl
   have hn2:Rt.madeTo T (dls L) lot (j+1)=if T j=true then b||Rt.madeOf L[j].x lot else b:=by rw[←hgd,HV.out.2.1];rfl
   have hn3:=Rt.cnt_next T j
   rw[←HV.out.2.2]at hn3
   have hrt:T j=true→L[j].x.kind=1→L[j].x.lot∈R:=fun h1 h2=>by
    have:=HRT.out j (by simpa using hlt) h1 (by simpa using h2)
    simpa using this
   have hfx:=HFM.out L[j].x (List.mem_map.2 ⟨_,List.getElem_mem hlt,rfl⟩)
   have haj:a≤j:=by rw[HV.out.2.2];exact HCN.out j
   obtain⟨p,hp⟩: ∃p,L[j]=p:=⟨_,rfl⟩
   rw[hp]at hld hdp hat hn1 hn2 hrt hfx
   obtain⟨w6,st6,k6,g6⟩:=st_row (wr.alloc (.cells zcs 24)) wr.heap.size 24 24 zcs (xcs p.x p.A1 p.A2 p.c1 p.c2) (heap_alloc_new wr _) info_deal rfl (by simp[Value.oneCell'])
   have b6:Below wr.heap.size wr w6:=(Below.alloc (Below.refl _ wr) (Nat.le_refl _) _).grown g6 (by simp) (by intro k e;cases e;omega)
   have HB6:Hid (Below w4.heap.size w4 w6):=Lib.hid (HBr.out.trans (b6.mono HBr.out.size))
   have HDP:=Lib.hid hdp
   subst hA
   have HAT:=Lib.hid hat
   have HN:=Lib.hid (And.intro hn1 (And.intro hn2 hn3))
   have HRX:=Lib.hid hrt
   have HFX:=Lib.hid hfx
   have HEJ:=Lib.hid hej
   have K6:=Lib.hid k6
   have q0:w6.cell? ⟨wr.heap.size,0,none⟩=some (.int .i64 p.x.id):=(blk_cells k6).1 0
   clear g6 b6 hp hat hn1 hn2 hn3 hrt hfx hej hgd hdp k6
   by_cases ha:a<I.length
   case neg=>
    have hai: ¬((a:Int)<(I.length:Int)):=by omega
    have hTj:T j=false:=by
     cases e:T j with
     |false=>rfl
     |true=>
      have:=HAT.out.1 e
      rw[List.getElem?_eq_none (by omega)]at this
      cases this
    have HX:Hid (s=Rt.ent T (dls L) (j+1)∧b=Rt.madeTo T (dls L) lot (j+1)∧a=Rt.cnt T (j+1)):=Lib.hid (by
     obtain⟨g1,g2,g3⟩:=HN.out
     rw[hTj]at g1 g2 g3
     exact⟨by rw[g1];simp,by rw[g2];simp,by rw[g3];simp⟩)
    clear hTj
    go_upto_region 14 with fail
    clear st6 hld
    go_wp2
    refine wp_region_quiet_lit (by kernel_rfl) (by kernel_rfl) ?_
    repeat (first|go_big_quiet_step (fail)|quiet_step (fail))
    refine wpQuiet_nil ?_
    rintro wq ⟨nq,rfl⟩
    have HBq:Hid (Below w4.heap.size w4 (w6.drewN nq)):=Lib.hid (below_drewQ HB6.out nq)
    go_wp2
    go_roundw
    case rel=>exact⟨j+1,a,s,b,by omega,rfl,rfl,rfl,by go_num,HX,HBq⟩
    case measure=>first|(simp[intOf];done)|(simp[intOf];omega)
   have hai:(a:Int)<(I.length:Int):=by omega
   have HI6:Hid (Ints w6 w6.heap.size A1 I):=Lib.hid ((HS1.out.below (HB14.out.trans (HB6.out.mono HB14.out.size))).more (HB14.out.trans (HB6.out.mono HB14.out.size)).size)
   obtain⟨bi,oi,ei,_,qi⟩:=Ints.at1 HI6.out ha
   subst ei
   by_cases hTj:T j=true
   case neg=>
    have hTj:T j=false:=by simpa using hTj
    have hne:(I[a]==p.x.id)=false:=by
     rw[beq_eq_false_iff_ne]
     exact HAT.out.2 hTj _ (List.getElem?_eq_getElem ha)
    obtain⟨y,hy⟩: ∃y,I[a]=y:=⟨_,rfl⟩
    rw[hy]at qi hne
    have HX:Hid (s=Rt.ent T (dls L) (j+1)∧b=Rt.madeTo T (dls L) lot (j+1)∧a=Rt.cnt T (j+1)):=Lib.hid (by
     obtain⟨g1,g2,g3⟩:=HN.out
     rw[hTj]at g1 g2 g3
     exact⟨by rw[g1];simp,by rw[g2];simp,by rw[g3];simp⟩)
    clear hTj hy
    go_upto_region 14 with fail
    clear st6 hld
    go_wp2
    refine wp_region_quiet_lit (by kernel_rfl) (by kernel_rfl) ?_
    repeat (first|go_big_quiet_step (fail)|quiet_step (fail))
    refine wpQuiet_nil ?_
    rintro wq ⟨nq,rfl⟩
    have HBq:Hid (Below w4.heap.size w4 (w6.drewN nq)):=Lib.hid (below_drewQ HB6.out nq)
    go_wp2
    go_roundw
    case rel=>exact⟨j+1,a,s,b,by omega,rfl,rfl,rfl,by go_num,HX,HBq⟩
    case measure=>first|(simp[intOf];done)|(simp[intOf];omega)
   have hyx:I[a]=p.x.id:=by
    have:=HAT.out.1 hTj
    rw[List.getElem?_eq_getElem ha]at this
    exact Option.some.inj this
   rw[hyx]at qi
   have hnx:=HN.out
   rw[hTj]at hnx
   simp only[true_and,if_true]at hnx
   have HNX:=Lib.hid hnx
   have hin:=fun e=>HRX.out hTj e
   clear hyx hnx hTj
   have hqe:(p.x.id==p.x.id)=true:=by simp
   go_upto_region 14 with fail
   clear st6 hld
   go_wp2
   refine wp_region_quiet_lit (by kernel_rfl) (by kernel_rfl) ?_
   repeat (first|go_big_quiet_step (fail)|quiet_step (fail))
   refine wpQuiet_nil ?_
   rintro wq ⟨nq,rfl⟩
   obtain⟨w7,hw7⟩: ∃w7,w6.drewN nq=w7:=⟨_,rfl⟩
   have HB7:Hid (Below w4.heap.size w4 w7):=Lib.hid (by rw[←hw7];exact below_drewQ HB6.out nq)
   have K7:Hid (w7.heap[wr.heap.size]?=some (.cells (xcs p.x p.A1 p.A2 p.c1 p.c2) 24 (0,0))):=Lib.hid (by rw[←hw7];exact K6.out)
   rw[hw7]
   clear hw7 qi q0 hqe hai
   have d2:_=some (Value.int .u8 (p.x.kind:Nat)):=(blk_cells K7.out).1 2
   have d3:_=some (Value.int .i64 p.x.lot):=(blk_cells K7.out).1 3
   have d8:_=some (Value.int .i64 p.x.size):=(blk_cells K7.out).1 8
   have d9:_=some (Value.slice p.A1 p.x.into.length p.c1):=(blk_cells K7.out).1 9
   have dI:Ints w7 w7.heap.size p.A1 p.x.into:=(HDP.out.1.up (HB4.out.trans (HB7.out.mono HB4.out.size))).into
   have hco:=hasI_a p.A1 p.c1 p.x.into lot w7 dI (by have:=HDP.out.1.li;omega)
   have hcr:=hasI_a A2 c2 R p.x.lot w7 ((HS2.out.below (HB24.out.trans (HB7.out.mono HB24.out.size))).more (HB24.out.trans (HB7.out.mono HB24.out.size)).size) (by have:=HRL.out;omega)
   have hk1:(p.x.kind:Int)=1→R.contains p.x.lot=true:=fun e=>List.contains_iff_mem.2 (hin (by omega))
   have hszx:p.x.kind=1→1≤p.x.size∧p.x.size≤10000000000:=fun e=>by
    have:=HFX.out
    unfold Rt.formed at this
    rw[e]at this
    simp only[Bool.and_eq_true,Rt.inR_iff]at this
    exact this.2.2
   have hes:=HEJ.out
   obtain⟨m,hmm⟩: ∃m,(b||Rt.madeOf p.x lot)=m:=⟨_,rfl⟩
   rw[hmm]at HNX
   unfold Rt.madeOf at hmm
   obtain⟨ki,hki⟩: ∃k,p.x.kind=k:=⟨_,rfl⟩
   rw[hki]at d2 hk1 hszx hmm HNX
   obtain⟨lt,hltt⟩: ∃v,(p.x.lot==lot)=v:=⟨_,rfl⟩
   obtain⟨ci,hci⟩: ∃v,p.x.into.contains lot=v:=⟨_,rfl⟩
   rw[hltt,hci]at hmm
   rw[hci]at hco
   clear hin dI hci
   rcases(show ki=3∨ki=1∨(ki≠3∧ki≠1) by omega)with hk|hk|hk
   ·subst hk
    have hm2:m=(b||ci):=by rw[←hmm];simp
    have HX:Hid (s=Rt.ent T (dls L) (j+1)∧m=Rt.madeTo T (dls L) lot (j+1)∧a+1=Rt.cnt T (j+1)):=Lib.hid ⟨by rw[HNX.out.1,if_neg (by decide)],HNX.out.2.1.symm,HNX.out.2.2.symm⟩
    clear hmm hk1 hszx hcr
    subst hm2
    cases b with
    |true=>
     clear hco
     go_wp2
     go_roundw
     case rel=>exact⟨j+1,a+1,s,true,by omega,rfl,rfl,by go_num,by go_num,HX,HB7⟩
     case measure=>first|(simp[intOf];done)|(simp[intOf];omega)
    |false=>
     go_wp2_with fail
     refine hco.mono ?_
     clear hco
     rintro e v1 ⟨rfl,rfl⟩
     go_wp2
     go_roundw
     case rel=>exact⟨j+1,a+1,s,ci,by omega,rfl,rfl,by go_num,by go_num,HX,HB7⟩
     case measure=>first|(simp[intOf];done)|(simp[intOf];omega)
   ·subst hk
    have hm2:m=(b||lt):=by rw[←hmm];simp
    have HX:Hid (s+p.x.size=Rt.ent T (dls L) (j+1)∧m=Rt.madeTo T (dls L) lot (j+1)∧a+1=Rt.cnt T (j+1)):=Lib.hid ⟨by rw[HNX.out.1,if_pos rfl],HNX.out.2.1.symm,HNX.out.2.2.symm⟩
    have hz:=hszx rfl
    rw[hk1 rfl]at hcr
    clear hmm hk1 hszx hco
    subst hm2
    have hes3:s≤300000000000:=by omega
    have hes0:=hes.1
    clear hes
    cases b with
    |true=>
     go_wp2_with fail
     refine hcr.mono ?_
     clear hcr
     rintro e v1 ⟨rfl,rfl⟩
     go_wp2
     go_roundw
     case rel=>exact⟨j+1,a+1,s+p.x.size,true,by omega,by go_num,rfl,by go_num,by go_num,HX,HB7⟩
     case measure=>first|(simp[intOf];done)|(simp[intOf];omega)
    |false=>
     cases lt
     all_goals
      go_wp2_with fail
      refine hcr.mono ?_
      clear hcr
      rintro e v1 ⟨rfl,rfl⟩
      go_wp2
      go_roundw
      case rel=>exact⟨j+1,a+1,s+p.x.size,_,by omega,by go_num,rfl,by go_num,by go_num,HX,HB7⟩
      case measure=>first|(simp[intOf];done)|(simp[intOf];omega)
   ·have hm2:m=(b||lt):=by
     rw[←hmm]
     have e1:(ki !=3)=true:=by simpa using hk.1
     have e2:(ki==3)=false:=by simpa using hk.1
     rw[e1,e2]
     simp
    have HX:Hid (s=Rt.ent T (dls L) (j+1)∧m=Rt.madeTo T (dls L) lot (j+1)∧a+1=Rt.cnt T (j+1)):=Lib.hid ⟨by rw[HNX.out.1,if_neg hk.2],HNX.out.2.1.symm,HNX.out.2.2.symm⟩
    have e3:((ki:Int) !=3)=true:=by rw[bne_iff_ne];omega
    have e4:((ki:Int)==3)=false:=by rw[beq_eq_false_iff_ne];omega
    have e5:((ki:Int)==1)=false:=by rw[beq_eq_false_iff_ne];omega
    clear hmm hk1 hszx hco hcr hk
    subst hm2
    cases b with
    |true=>
     go_wp2
     go_roundw
     case rel=>exact⟨j+1,a+1,s,true,by omega,rfl,rfl,by go_num,by go_num,HX,HB7⟩
     case measure=>first|(simp[intOf];done)|(simp[intOf];omega)
    |false=>
     cases lt
     all_goals
      go_wp2
      go_roundw
      case rel=>exact⟨j+1,a+1,s,_,by omega,rfl,rfl,by go_num,by go_num,HX,HB7⟩
      case measure=>first|(simp[intOf];done)|(simp[intOf];omega)
  ·obtain rfl:j=L.length:=by omega
   have hbt:b=true:=by rw[HV.out.2.1];have:=HMD.out;simpa using this
   have hai:a=I.length:=by rw[HV.out.2.2,HIC.out]
   subst hbt hai
   have hBw:Below w'.heap.size w' wr:=HB4.out.trans (HBr.out.mono HB4.out.size)
   have hal:=alive_a wr (HE.out.up hBw)
   have HBw:=Lib.hid hBw
   have hkk:=(HBr.out.block _ X4.out).trans K4.out
   have K5:=Lib.hid hkk
   have X5:Hid (w3.heap.size<wr.heap.size):=Lib.hid (Array.getElem?_eq_some_iff.1 hkk).1
   have hsz:=HSZ.out
   rw[←HV.out.1]at hsz
   clear hBw hkk
   go_wp2_with fail
   refine hal.mono ?_
   clear hal
   rintro e v1 ⟨rfl,bb1⟩
   have kz:v1.cell? ⟨w3.heap.size,1,none⟩=some (.int .i64 X.size):=(blk_cells ((bb1.block _ X5.out).trans K5.out)).1 1
   have HBB:=Lib.hid (HBw.out.trans (bb1.mono HBw.out.size))
   clear bb1
   by_cases hF0:F=0
   ·have hle:X.size≤s:=hsz.resolve_left (fun g=>g hF0)
    have hq:(F !=0)=false:=by simpa using hF0
    have hd:decide (X.size≤s)=true:=by simpa using hle
    clear hsz hF0
    go_wp2
    go_ret
    exact⟨rfl,HBB.out⟩
   ·have hq:(F !=0)=true:=by simpa using hF0
    clear hsz hF0
    go_wp2
    go_ret
    exact⟨rfl,HBB.out⟩
end Go.Proofs.YtcffonnijhhhiaaGreatDoor
set_option linter.all false
set_option linter.unusedSimpArgs false
set_option linter.unusedVariables false
set_option linter.unusedSectionVars false
namespace Go.Proofs.YtcffonnijhhhiaaGreatDoor
open Go Go.RowKit Go.Maps Mp
theorem i64_wf {n:Int}(h:(Lit.int .i64 n).wf=true):i64 n:=by
 have h1:IntKind.i64.min≤n∧n≤IntKind.i64.max:=by simpa [Lit.wf]using h
 have e1:IntKind.i64.min= -9223372036854775808:=by decide
 have e2:IntKind.i64.max=9223372036854775807:=by decide
 unfold i64
 omega
theorem rightRoots_i (A:Option Addr)(c:Nat)(L:List Dp)(day lot:Int)(w:World)(hE:Env w)(h:Dlo w w.heap.size A L)(hc:L.length≤c)(hm:c≤maxLen)(hlot:(Lit.int .i64 lot).wf=true):Calls Tryz.prog 15 #[.slice A L.length c,.int .i64 day,.int .i64 lot] w fun e w'=>e=.returned (.bool true)∧Below w.heap.size w w':=
 rightRoots_w A c L day lot w hE h hc hm (i64_wf hlot)
end Go.Proofs.YtcffonnijhhhiaaGreatDoor
