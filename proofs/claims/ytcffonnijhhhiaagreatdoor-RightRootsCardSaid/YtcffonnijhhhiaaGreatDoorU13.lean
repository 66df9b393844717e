/- Part U13 of the proof: Kp3 Kp4 Kp5 Kp6. -/
import Derived.Test.YtcffonnijhhhiaaGreatDoorProg
import Derived.WalkKit
import Derived.WalkLawsBesides
import Derived.WalkSpells
import Derived.Handy
import Derived.Lib.Hide
import Derived.Great.BuildSlice
import Derived.Deep.QuietTactic
import Derived.BigQuiet
import Derived.Deep.RegionHeld3
import Derived.Deep.DeepCutAuto
import Derived.Test.YtcffonnijhhhiaaGreatDoorU10
set_option linter.all false
set_option linter.unusedSimpArgs false
set_option linter.unusedVariables false
set_option linter.unusedSectionVars false
namespace Go.Proofs.YtcffonnijhhhiaaGreatDoor
open Go Go.RowKit Mp
attribute [-go_sem] loadVar storeVar
attribute [local go_sem] lk_int lk_u8 lk_ints
set_option maxRecDepth 100000 in
set_option maxHeartbeats 4000000 in
theorem kept_3 (x:Dl)(hk:x.kind=3)(A1 A2:Option Addr)(c1 c2:Nat)(w:World)(hx:DS w w.heap.size A1 A2 x)(hcap:x.into.length≤c1):
  Calls Tryz.prog 97 #[.agg (xcs x A1 A2 c1 c2)] w (EndKp x w):=by
 obtain⟨w1,hw1⟩: ∃w1:World,w1=(w.alloc (oDl x A1 A2 c1 c2)).alloc (.cells zcs 24):=⟨_,rfl⟩
 have kx1:w1.heap[w.heap.size]?=some (oDl x A1 A2 c1 c2):=by rw[hw1];exact(Below.heap_alloc _ _ _ (by simp)).trans (heap_alloc_new w _)
 have kr1:w1.heap[w.heap.size+1]?=some (.cells zcs 24 (0,0)):=by rw[hw1];exact heap_at (by simp)
 have z1:w1.heap.size=w.heap.size+1+1:=by rw[hw1];simp
 have b1:Below w.heap.size w w1:=by rw[hw1];go_grown
 have kz2:(w1.alloc (.cells zcs 24)).heap[w.heap.size+1+1]?=some (.cells zcs 24 (0,0)):=heap_at z1
 have ba:Below w1.heap.size w1 (w1.alloc (.cells zcs 24)):=by go_grown
 obtain⟨w3,st3,ko3,g3⟩:=st_row _ (w.heap.size+1+1) 24 24 zcs #[.int .i64 x.id,.int .i64 x.day,.int .u8 x.kind,.int .i64 x.lot,.int .i64 0,.int .i64 0,.int .i64 0,.int .i64 0,.int .i64 0,.slice none 0 0,.slice none 0 0] kz2 info_deal rfl (by simp[Value.oneCell'])
 rw[hw1]at st3
 have z3:w.heap.size+1+1<w3.heap.size:=(Array.getElem?_eq_some_iff.1 ko3).1
 have kx3:=(g3.block w.heap.size (by simp;omega) (by simp<;>omega)).trans ((ba.block _ (by omega)).trans kx1)
 have kr3:=(g3.block (w.heap.size+1) (by simp;omega) (by simp<;>omega)).trans ((ba.block _ (by omega)).trans kr1)
 have b3:Below w.heap.size w w3:=(b1.trans (ba.mono (by omega))).grown g3 (by simp;omega) (by intro k e;cases e;omega)
 have n3:=named_1 (heap_alloc_new w3 (.cells #[.int .i64 x.lot] 3))
 obtain⟨hcx1,hfx1⟩:=blk_cells kx1
 obtain⟨hcx3,hfx3⟩:=blk_cells kx3
 have q1:(((x.kind:Nat):Int)==1)=false:=by rw[beq_eq_false_iff_ne];omega
 have q2:(((x.kind:Nat):Int)==2)=false:=by rw[beq_eq_false_iff_ne];omega
 have q3:(((x.kind:Nat):Int)==3)=true:=by rw[beq_iff_eq];omega
 have HX:=Lib.hid hx
 have HK:=Lib.hid hk
 clear hw1 hk hx
 go_enter Tryz.func97,Tryz.ntmps97
 go_wp2_with fail
 refine n3.mono ?_
 clear n3
 rintro e w4 ⟨rfl,hx4⟩
 have b34:Below w3.heap.size w3 (w3.alloc (.cells #[.int .i64 x.lot] 3)):=by go_grown
 have b4':Below w3.heap.size w3 w4:=b34.trans (hx4.mono b34.size)
 have b4:Below w.heap.size w w4:=b3.trans (b4'.mono (by omega))
 have kx4:=(b4'.block _ (by omega)).trans kx3
 have kr4:=(b4'.block _ (by omega)).trans kr3
 have ko4:=(b4'.block _ z3).trans ko3
 have z4:w.heap.size+1+1<w4.heap.size:=(Array.getElem?_eq_some_iff.1 ko4).1
 clear hx4 kx3 kr3 ko3 hcx3 hfx3 hcx1 hfx1 st3
 obtain⟨hcx,hfx⟩:=blk_cells kx4
 obtain⟨p,hp⟩: ∃p,Rt.isId x.lot=p:=⟨_,rfl⟩
 rw[hp]
 have HP:=Lib.hid hp
 clear hp
 obtain⟨V0,hV0⟩: ∃V:World,V=w4.drew:=⟨_,rfl⟩
 have g0:w4.grownBy V0 (some (w.heap.size+1+1)):=by rw[hV0];exact⟨rfl,rfl,rfl,Nat.le_refl _,fun _ _ _=>rfl⟩
 have kv0:V0.heap[w.heap.size+1+1]?=some (.cells #[.int .i64 x.id,.int .i64 x.day,.int .u8 x.kind,.int .i64 x.lot,.int .i64 0,.int .i64 0,.int .i64 0,.int .i64 0,.int .i64 0,.slice none 0 0,.slice none 0 0] 24 (0,0)):=by rw[hV0];exact ko4
 have HV0:=Lib.hid hV0
 clear hV0
 obtain⟨V1,hV1⟩: ∃V:World,V=V0.setCell ⟨w.heap.size+1+1,9,none⟩ (.slice A1 x.into.length c1):=⟨_,rfl⟩
 have g1:w4.grownBy V1 (some (w.heap.size+1+1)):=by rw[hV1];exact g0.trans (gsc V0 ⟨w.heap.size+1+1,9,none⟩ _)
 have kv1:V1.heap[w.heap.size+1+1]?=some (.cells #[.int .i64 x.id,.int .i64 x.day,.int .u8 x.kind,.int .i64 x.lot,.int .i64 0,.int .i64 0,.int .i64 0,.int .i64 0,.int .i64 0,.slice A1 x.into.length c1,.slice none 0 0] 24 (0,0)):=by rw[hV1];exact hsc (j:=9) _ kv0
 have s0:=st_ints (A:=A1) (n:=x.into.length) (c:=c1) kv0 (show 9<11 by omega)
 rw[←hV1]at s0
 clear hV1
 obtain⟨V2,hV2⟩: ∃V:World,V=V1.setCell ⟨w.heap.size+1+1,10,none⟩ (.slice A2 x.sizes.length c2):=⟨_,rfl⟩
 have g2:w4.grownBy V2 (some (w.heap.size+1+1)):=by rw[hV2];exact g1.trans (gsc V1 ⟨w.heap.size+1+1,10,none⟩ _)
 have kv2:V2.heap[w.heap.size+1+1]?=some (.cells #[.int .i64 x.id,.int .i64 x.day,.int .u8 x.kind,.int .i64 x.lot,.int .i64 0,.int .i64 0,.int .i64 0,.int .i64 0,.int .i64 0,.slice A1 x.into.length c1,.slice A2 x.sizes.length c2] 24 (0,0)):=by rw[hV2];exact hsc (j:=10) _ kv1
 have s1:=st_ints (A:=A2) (n:=x.sizes.length) (c:=c2) kv1 (show 10<11 by omega)
 rw[←hV2]at s1
 clear hV2
 have HS:=Lib.hid (show ∀V,w4.grownBy V (some (w.heap.size+1+1))→V.cell? ⟨w.heap.size,9,none⟩=some (.slice A1 x.into.length c1)∧V.cell? ⟨w.heap.size,10,none⟩=some (.slice A2 x.sizes.length c2) from fun V hV=>by
  have k:=(hV.block _ (by omega) (by simp<;>omega)).trans kx4
  exact⟨(blk_cells k).1 9,(blk_cells k).1 10⟩)
 go_wp2
 refine wp_region_held_drew (S:=fun V=>V.cell? ⟨w.heap.size,9,none⟩=some (.slice A1 x.into.length c1)∧V.cell? ⟨w.heap.size,10,none⟩=some (.slice A2 x.sizes.length c2)) (by kernel_rfl) (by rw[←HV0.out];exact HS.out _ g0) (fun hHeld=> ?_)
 rw[←HV0.out]at hHeld ⊢
 refine takeH 0 (some 75) (v:= ?v16) rfl rfl (by kernel_rfl) (by kernel_rfl) (by kernel_rfl) (fun _ _ _ h=>h) (Or.inl ⟨by rfl,fun W hW=> ?hy16⟩) (by assumption) ?hr16
 case hy16=>(try dsimp only at hW);go_simp;try with_reducible rfl
 try simp only[Act.put,List.setIfInBounds_toArray,List.set_cons_zero,List.set_cons_succ]
 refine takeH 1 (some 76) (v:= ?v17) rfl rfl (by kernel_rfl) (by kernel_rfl) (by kernel_rfl) (fun _ _ _ h=>h) (Or.inl ⟨by rfl,fun W hW=> ?hy17⟩) (by assumption) ?hr17
 case hy17=>(try dsimp only at hW);go_simp;try with_reducible rfl
 try simp only[Act.put,List.setIfInBounds_toArray,List.set_cons_zero,List.set_cons_succ]
 refine takeH 2 (some 77) (v:= ?v18) rfl rfl (by kernel_rfl) (by kernel_rfl) (by kernel_rfl) (fun _ _ _ h=>h) (Or.inl ⟨by rfl,fun W hW=> ?hy18⟩) (by assumption) ?hr18
 case hy18=>(try dsimp only at hW);go_simp;try with_reducible rfl
 try simp only[Act.put,List.setIfInBounds_toArray,List.set_cons_zero,List.set_cons_succ]
 refine takeH 3 (some 78) (v:= ?v19) rfl rfl (by kernel_rfl) (by kernel_rfl) (by kernel_rfl) (fun _ _ _ h=>h) (Or.inl ⟨by rfl,fun W hW=> ?hy19⟩) (by assumption) ?hr19
 case hy19=>(try dsimp only at hW);go_simp;try with_reducible rfl
 try simp only[Act.put,List.setIfInBounds_toArray,List.set_cons_zero,List.set_cons_succ]
 refine takeH 4 (some 79) (v:= ?v20) rfl rfl (by kernel_rfl) (by kernel_rfl) (by kernel_rfl) (fun _ _ _ h=>h) (Or.inl ⟨by rfl,fun W hW=> ?hy20⟩) (by assumption) ?hr20
 case hy20=>(try dsimp only at hW);go_simp;try with_reducible rfl
 try simp only[Act.put,List.setIfInBounds_toArray,List.set_cons_zero,List.set_cons_succ]
 refine wpAnyH_ready (rs:=[5]) (by kernel_rfl) (by simp) ?_
 refine readyH none rfl rfl (fun K hK=> ?_) AllReadyH.nil
 go_simp
 refine hK _ _ (HS.out _ g1) (fun hHeld=> ?_)
 clear hK K
 try simp only[Act.put,List.setIfInBounds_toArray,List.set_cons_zero,List.set_cons_succ]
 refine takeH 6 (some 80) (v:= ?v21) rfl rfl (by kernel_rfl) (by kernel_rfl) (by kernel_rfl) (fun _ _ _ h=>h) (Or.inl ⟨by rfl,fun W hW=> ?hy21⟩) (by assumption) ?hr21
 case hy21=>(try dsimp only at hW);go_simp;try with_reducible rfl
 try simp only[Act.put,List.setIfInBounds_toArray,List.set_cons_zero,List.set_cons_succ]
 refine wpAnyH_ready (rs:=[7]) (by kernel_rfl) (by simp) ?_
 refine readyH none rfl rfl (fun K hK=> ?_) AllReadyH.nil
 go_simp
 refine hK _ _ (HS.out _ g2) (fun hHeld=> ?_)
 clear hK K
 try simp only[Act.put,List.setIfInBounds_toArray,List.set_cons_zero,List.set_cons_succ]
 refine wpAnyH_done (by kernel_rfl) ?_ _
 have g5:=g2
 have ko5:=kv2
 clear s0 s1
 have kx5:=(g5.block w.heap.size (by omega) (by simp<;>omega)).trans kx4
 have kr5:=(g5.block (w.heap.size+1) (by omega) (by simp<;>omega)).trans kr4
 have b5:Below w.heap.size w V2:=b4.grown g5 (by omega) (by intro k e;cases e;omega)
 have z5:w.heap.size+1+1<V2.heap.size:=(Array.getElem?_eq_some_iff.1 ko5).1
 obtain⟨hcx5,hfx5⟩:=blk_cells kx5
 cases p with
 |false=>
  have l1:=ld_row ko5 Tryz.underlying24 rfl info_deal
  obtain⟨wF,stF,krF,gF⟩:=st_row V2 (w.heap.size+1) 24 24 zcs #[.int .i64 x.id,.int .i64 x.day,.int .u8 x.kind,.int .i64 x.lot,.int .i64 0,.int .i64 0,.int .i64 0,.int .i64 0,.int .i64 0,.slice A1 x.into.length c1,.slice A2 x.sizes.length c2] kr5 info_deal rfl (by simp[Value.oneCell'])
  have l2:=ld_row krF Tryz.underlying24 rfl info_deal
  have bF:Below w.heap.size w wF:=b5.grown gF (by omega) (by intro k e;cases e;omega)
  go_wp2
  refine bodyPost_ret (v:=.tuple #[.agg #[.int .i64 x.id,.int .i64 x.day,.int .u8 x.kind,.int .i64 x.lot,.int .i64 0,.int .i64 0,.int .i64 0,.int .i64 0,.int .i64 0,.slice A1 x.into.length c1,.slice A2 x.sizes.length c2],.bool false]) (by simp[results,Tryz.results97,go_sem,l2]) rfl ?_
  exact⟨Rt.keep3 x,A1,A2,c1,c2,false,rfl,⟨(HX.out.up bF).into,(HX.out.up bF).sizes,HX.out.li,HX.out.ls⟩,bF,(by unfold Rt.body;rw[HK.out];simp only[Rt.only3,HP.out];(try cases Rt.sameD x (Rt.keep3 x))<;>simp[Bool.and_comm])⟩
 |true=>
  have n6:=different_a A1 c1 x.into V2 (HX.out.up b5).into (by have:=HX.out.li;omega) hcap
  obtain⟨q,hq⟩: ∃q,Rt.lotsOk x.into=q:=⟨_,rfl⟩
  rw[hq]at n6
  have HQ:=Lib.hid hq
  clear hq
  go_wp2_with fail
  refine n6.mono ?_
  clear n6
  rintro e w6 ⟨rfl,b6'⟩
  have kx6:=(b6'.block _ (by omega)).trans kx5
  have kr6:=(b6'.block _ (by omega)).trans kr5
  have ko6:=(b6'.block _ (by omega)).trans ko5
  have b6:Below w.heap.size w w6:=b5.trans (b6'.mono (by omega))
  have z6:w.heap.size+1+1<w6.heap.size:=(Array.getElem?_eq_some_iff.1 ko6).1
  obtain⟨hcx6,hfx6⟩:=blk_cells kx6
  cases q with
  |false=>
   have l1:=ld_row ko6 Tryz.underlying24 rfl info_deal
   obtain⟨wF,stF,krF,gF⟩:=st_row w6 (w.heap.size+1) 24 24 zcs #[.int .i64 x.id,.int .i64 x.day,.int .u8 x.kind,.int .i64 x.lot,.int .i64 0,.int .i64 0,.int .i64 0,.int .i64 0,.int .i64 0,.slice A1 x.into.length c1,.slice A2 x.sizes.length c2] kr6 info_deal rfl (by simp[Value.oneCell'])
   have l2:=ld_row krF Tryz.underlying24 rfl info_deal
   have bF:Below w.heap.size w wF:=b6.grown gF (by omega) (by intro k e;cases e;omega)
   go_wp2
   refine bodyPost_ret (v:=.tuple #[.agg #[.int .i64 x.id,.int .i64 x.day,.int .u8 x.kind,.int .i64 x.lot,.int .i64 0,.int .i64 0,.int .i64 0,.int .i64 0,.int .i64 0,.slice A1 x.into.length c1,.slice A2 x.sizes.length c2],.bool false]) (by simp[results,Tryz.results97,go_sem,l2]) rfl ?_
   exact⟨Rt.keep3 x,A1,A2,c1,c2,false,rfl,⟨(HX.out.up bF).into,(HX.out.up bF).sizes,HX.out.li,HX.out.ls⟩,bF,(by unfold Rt.body;rw[HK.out];simp only[Rt.only3,HP.out,HQ.out];(try cases Rt.sameD x (Rt.keep3 x))<;>simp[Bool.and_comm])⟩
  |true=>
   by_cases hne:x.sizes.length=x.into.length
   ·have hd:((x.sizes.length:Int)==(x.into.length:Int))=true:=by rw[beq_iff_eq];omega
    have HD:=Lib.hid (show(x.sizes.length==x.into.length)=true by simpa using hne)
    have hc:=conF_i A2 c2 x.sizes 166 #[] (fun n=> !Rt.inR n 1 10000000000) w6 (HX.out.up b6).sizes (by have:=HX.out.ls;omega) (fun _ _=>by kernel_rfl) (fun n _ W _=>kept1_a n W)
    have HA := Lib.hid (show (!(x.sizes.any fun n => !Rt.inR n 1 10000000000)) = x.sizes.all (Rt.inR · 1 10000000000) by rw [List.any_eq_not_all_not]; simp)
    generalize (x.sizes.any fun n=> !Rt.inR n 1 10000000000)=v at hc HA
    clear hne
    go_wp2_with fail
    refine hc.mono ?_
    clear hc
    rintro e w7 ⟨rfl,b7'⟩
    have kx7:=(b7'.block _ (by omega)).trans kx6
    have kr7:=(b7'.block _ (by omega)).trans kr6
    have ko7:=(b7'.block _ (by omega)).trans ko6
    have b7:Below w.heap.size w w7:=b6.trans (b7'.mono (by omega))
    have z7:w.heap.size+1+1<w7.heap.size:=(Array.getElem?_eq_some_iff.1 ko7).1
    obtain⟨hcx7,hfx7⟩:=blk_cells kx7
    have l1:=ld_row ko7 Tryz.underlying24 rfl info_deal
    obtain⟨wF,stF,krF,gF⟩:=st_row w7 (w.heap.size+1) 24 24 zcs #[.int .i64 x.id,.int .i64 x.day,.int .u8 x.kind,.int .i64 x.lot,.int .i64 0,.int .i64 0,.int .i64 0,.int .i64 0,.int .i64 0,.slice A1 x.into.length c1,.slice A2 x.sizes.length c2] kr7 info_deal rfl (by simp[Value.oneCell'])
    have l2:=ld_row krF Tryz.underlying24 rfl info_deal
    have bF:Below w.heap.size w wF:=b7.grown gF (by omega) (by intro k e;cases e;omega)
    go_wp2
    refine bodyPost_ret (v:=.tuple #[.agg #[.int .i64 x.id,.int .i64 x.day,.int .u8 x.kind,.int .i64 x.lot,.int .i64 0,.int .i64 0,.int .i64 0,.int .i64 0,.int .i64 0,.slice A1 x.into.length c1,.slice A2 x.sizes.length c2],.bool (!v)]) (by simp[results,Tryz.results97,go_sem,l2]) rfl ?_
    exact⟨Rt.keep3 x,A1,A2,c1,c2,(!v),rfl,⟨(HX.out.up bF).into,(HX.out.up bF).sizes,HX.out.li,HX.out.ls⟩,bF,(by unfold Rt.body;rw[HK.out];simp only[Rt.only3,HP.out,HQ.out,HD.out,←HA.out];(try cases Rt.sameD x (Rt.keep3 x))<;>simp[Bool.and_comm])⟩
   ·have hd:((x.sizes.length:Int)==(x.into.length:Int))=false:=by rw[beq_eq_false_iff_ne];omega
    have HD:=Lib.hid (show(x.sizes.length==x.into.length)=false by simpa using hne)
    clear hne
    have l1:=ld_row ko6 Tryz.underlying24 rfl info_deal
    obtain⟨wF,stF,krF,gF⟩:=st_row w6 (w.heap.size+1) 24 24 zcs #[.int .i64 x.id,.int .i64 x.day,.int .u8 x.kind,.int .i64 x.lot,.int .i64 0,.int .i64 0,.int .i64 0,.int .i64 0,.int .i64 0,.slice A1 x.into.length c1,.slice A2 x.sizes.length c2] kr6 info_deal rfl (by simp[Value.oneCell'])
    have l2:=ld_row krF Tryz.underlying24 rfl info_deal
    have bF:Below w.heap.size w wF:=b6.grown gF (by omega) (by intro k e;cases e;omega)
    go_wp2
    refine bodyPost_ret (v:=.tuple #[.agg #[.int .i64 x.id,.int .i64 x.day,.int .u8 x.kind,.int .i64 x.lot,.int .i64 0,.int .i64 0,.int .i64 0,.int .i64 0,.int .i64 0,.slice A1 x.into.length c1,.slice A2 x.sizes.length c2],.bool false]) (by simp[results,Tryz.results97,go_sem,l2]) rfl ?_
    exact⟨Rt.keep3 x,A1,A2,c1,c2,false,rfl,⟨(HX.out.up bF).into,(HX.out.up bF).sizes,HX.out.li,HX.out.ls⟩,bF,(by unfold Rt.body;rw[HK.out];simp only[Rt.only3,HP.out,HQ.out,HD.out];(try cases Rt.sameD x (Rt.keep3 x))<;>simp[Bool.and_comm])⟩
end Go.Proofs.YtcffonnijhhhiaaGreatDoor
namespace Go.Proofs.YtcffonnijhhhiaaGreatDoor
open Go Go.RowKit Mp
attribute [-go_sem] loadVar storeVar
attribute [local go_sem] lk_int lk_u8 lk_ints
set_option maxRecDepth 100000 in
set_option maxHeartbeats 4000000 in
theorem kept_4 (x:Dl)(hk:x.kind=4)(A1 A2:Option Addr)(c1 c2:Nat)(w:World)(hx:DS w w.heap.size A1 A2 x)(hcap:x.into.length≤c1):
  Calls Tryz.prog 97 #[.agg (xcs x A1 A2 c1 c2)] w (EndKp x w):=by
 obtain⟨w1,hw1⟩: ∃w1:World,w1=(w.alloc (oDl x A1 A2 c1 c2)).alloc (.cells zcs 24):=⟨_,rfl⟩
 have kx1:w1.heap[w.heap.size]?=some (oDl x A1 A2 c1 c2):=by rw[hw1];exact(Below.heap_alloc _ _ _ (by simp)).trans (heap_alloc_new w _)
 have kr1:w1.heap[w.heap.size+1]?=some (.cells zcs 24 (0,0)):=by rw[hw1];exact heap_at (by simp)
 have z1:w1.heap.size=w.heap.size+1+1:=by rw[hw1];simp
 have b1:Below w.heap.size w w1:=by rw[hw1];go_grown
 have kz2:(w1.alloc (.cells zcs 24)).heap[w.heap.size+1+1]?=some (.cells zcs 24 (0,0)):=heap_at z1
 have ba:Below w1.heap.size w1 (w1.alloc (.cells zcs 24)):=by go_grown
 obtain⟨w3,st3,ko3,g3⟩:=st_row _ (w.heap.size+1+1) 24 24 zcs #[.int .i64 x.id,.int .i64 x.day,.int .u8 x.kind,.int .i64 x.lot,.int .i64 0,.int .i64 0,.int .i64 0,.int .i64 0,.int .i64 0,.slice none 0 0,.slice none 0 0] kz2 info_deal rfl (by simp[Value.oneCell'])
 rw[hw1]at st3
 have z3:w.heap.size+1+1<w3.heap.size:=(Array.getElem?_eq_some_iff.1 ko3).1
 have kx3:=(g3.block w.heap.size (by simp;omega) (by simp<;>omega)).trans ((ba.block _ (by omega)).trans kx1)
 have kr3:=(g3.block (w.heap.size+1) (by simp;omega) (by simp<;>omega)).trans ((ba.block _ (by omega)).trans kr1)
 have b3:Below w.heap.size w w3:=(b1.trans (ba.mono (by omega))).grown g3 (by simp;omega) (by intro k e;cases e;omega)
 have n3:=named_1 (heap_alloc_new w3 (.cells #[.int .i64 x.lot] 3))
 obtain⟨hcx1,hfx1⟩:=blk_cells kx1
 obtain⟨hcx3,hfx3⟩:=blk_cells kx3
 have q1:(((x.kind:Nat):Int)==1)=false:=by rw[beq_eq_false_iff_ne];omega
 have q2:(((x.kind:Nat):Int)==2)=false:=by rw[beq_eq_false_iff_ne];omega
 have q3:(((x.kind:Nat):Int)==3)=false:=by rw[beq_eq_false_iff_ne];omega
 have q4:(((x.kind:Nat):Int)==4)=true:=by rw[beq_iff_eq];omega
 have HX:=Lib.hid hx
 have HK:=Lib.hid hk
 clear hw1 hk hx
 go_enter Tryz.func97,Tryz.ntmps97
 go_wp2_with fail
 refine n3.mono ?_
 clear n3
 rintro e w4 ⟨rfl,hx4⟩
 have b34:Below w3.heap.size w3 (w3.alloc (.cells #[.int .i64 x.lot] 3)):=by go_grown
 have b4':Below w3.heap.size w3 w4:=b34.trans (hx4.mono b34.size)
 have b4:Below w.heap.size w w4:=b3.trans (b4'.mono (by omega))
 have kx4:=(b4'.block _ (by omega)).trans kx3
 have kr4:=(b4'.block _ (by omega)).trans kr3
 have ko4:=(b4'.block _ z3).trans ko3
 have z4:w.heap.size+1+1<w4.heap.size:=(Array.getElem?_eq_some_iff.1 ko4).1
 clear hx4 kx3 kr3 ko3 hcx3 hfx3 hcx1 hfx1 st3
 obtain⟨hcx,hfx⟩:=blk_cells kx4
 obtain⟨p,hp⟩: ∃p,Rt.isId x.lot=p:=⟨_,rfl⟩
 rw[hp]
 have HP:=Lib.hid hp
 clear hp
 obtain⟨w5,hw5⟩: ∃w5:World,w5=w4.setCell ⟨w.heap.size+1+1,9,none⟩ (.slice A1 x.into.length c1):=⟨_,rfl⟩
 have g5:w4.grownBy w5 (some (w.heap.size+1+1)):=by rw[hw5];exact gsc w4 ⟨w.heap.size+1+1,9,none⟩ _
 have ko5:w5.heap[w.heap.size+1+1]?=some (.cells #[.int .i64 x.id,.int .i64 x.day,.int .u8 x.kind,.int .i64 x.lot,.int .i64 0,.int .i64 0,.int .i64 0,.int .i64 0,.int .i64 0,.slice A1 x.into.length c1,.slice none 0 0] 24 (0,0)):=by rw[hw5];exact hsc (j:=9) _ ko4
 have s5:=st_ints (A:=A1) (n:=x.into.length) (c:=c1) ko4 (show 9<11 by omega)
 rw[←hw5]at s5
 clear hw5
 have kx5:=(g5.block w.heap.size (by omega) (by simp<;>omega)).trans kx4
 have kr5:=(g5.block (w.heap.size+1) (by omega) (by simp<;>omega)).trans kr4
 have b5:Below w.heap.size w w5:=b4.grown g5 (by omega) (by intro k e;cases e;omega)
 have z5:w.heap.size+1+1<w5.heap.size:=(Array.getElem?_eq_some_iff.1 ko5).1
 obtain⟨hcx5,hfx5⟩:=blk_cells kx5
 cases p with
 |false=>
  have l1:=ld_row ko5 Tryz.underlying24 rfl info_deal
  obtain⟨wF,stF,krF,gF⟩:=st_row w5 (w.heap.size+1) 24 24 zcs #[.int .i64 x.id,.int .i64 x.day,.int .u8 x.kind,.int .i64 x.lot,.int .i64 0,.int .i64 0,.int .i64 0,.int .i64 0,.int .i64 0,.slice A1 x.into.length c1,.slice none 0 0] kr5 info_deal rfl (by simp[Value.oneCell'])
  have l2:=ld_row krF Tryz.underlying24 rfl info_deal
  have bF:Below w.heap.size w wF:=b5.grown gF (by omega) (by intro k e;cases e;omega)
  go_wp2
  refine bodyPost_ret (v:=.tuple #[.agg #[.int .i64 x.id,.int .i64 x.day,.int .u8 x.kind,.int .i64 x.lot,.int .i64 0,.int .i64 0,.int .i64 0,.int .i64 0,.int .i64 0,.slice A1 x.into.length c1,.slice none 0 0],.bool false]) (by simp[results,Tryz.results97,go_sem,l2]) rfl ?_
  exact⟨Rt.keep4 x,A1,none,c1,0,false,rfl,⟨(HX.out.up bF).into,.inl rfl,HX.out.li,(by simp[Rt.keep4])⟩,bF,(by unfold Rt.body;rw[HK.out];simp only[Rt.only4,HP.out];(try cases Rt.sameD x (Rt.keep4 x))<;>simp[Bool.and_comm])⟩
 |true=>
  have n6:=different_a A1 c1 x.into w5 (HX.out.up b5).into (by have:=HX.out.li;omega) hcap
  obtain⟨q,hq⟩: ∃q,Rt.lotsOk x.into=q:=⟨_,rfl⟩
  rw[hq]at n6
  have HQ:=Lib.hid hq
  clear hq
  go_wp2_with fail
  refine n6.mono ?_
  clear n6
  rintro e w6 ⟨rfl,b6'⟩
  have kx6:=(b6'.block _ (by omega)).trans kx5
  have kr6:=(b6'.block _ (by omega)).trans kr5
  have ko6:=(b6'.block _ (by omega)).trans ko5
  have b6:Below w.heap.size w w6:=b5.trans (b6'.mono (by omega))
  have z6:w.heap.size+1+1<w6.heap.size:=(Array.getElem?_eq_some_iff.1 ko6).1
  obtain⟨hcx6,hfx6⟩:=blk_cells kx6
  have l1:=ld_row ko6 Tryz.underlying24 rfl info_deal
  obtain⟨wF,stF,krF,gF⟩:=st_row w6 (w.heap.size+1) 24 24 zcs #[.int .i64 x.id,.int .i64 x.day,.int .u8 x.kind,.int .i64 x.lot,.int .i64 0,.int .i64 0,.int .i64 0,.int .i64 0,.int .i64 0,.slice A1 x.into.length c1,.slice none 0 0] kr6 info_deal rfl (by simp[Value.oneCell'])
  have l2:=ld_row krF Tryz.underlying24 rfl info_deal
  have bF:Below w.heap.size w wF:=b6.grown gF (by omega) (by intro k e;cases e;omega)
  go_wp2
  refine bodyPost_ret (v:=.tuple #[.agg #[.int .i64 x.id,.int .i64 x.day,.int .u8 x.kind,.int .i64 x.lot,.int .i64 0,.int .i64 0,.int .i64 0,.int .i64 0,.int .i64 0,.slice A1 x.into.length c1,.slice none 0 0],.bool q]) (by simp[results,Tryz.results97,go_sem,l2]) rfl ?_
  exact⟨Rt.keep4 x,A1,none,c1,0,q,rfl,⟨(HX.out.up bF).into,.inl rfl,HX.out.li,(by simp[Rt.keep4])⟩,bF,(by unfold Rt.body;rw[HK.out];simp only[Rt.only4,HP.out,HQ.out];(try cases Rt.sameD x (Rt.keep4 x))<;>simp[Bool.and_comm])⟩
end Go.Proofs.YtcffonnijhhhiaaGreatDoor
namespace Go.Proofs.YtcffonnijhhhiaaGreatDoor
open Go Go.RowKit Mp
attribute [-go_sem] loadVar storeVar
attribute [local go_sem] lk_int lk_u8 lk_ints
set_option maxRecDepth 100000 in
set_option maxHeartbeats 4000000 in
theorem kept_5 (x:Dl)(hk:x.kind=5)(A1 A2:Option Addr)(c1 c2:Nat)(w:World)(hx:DS w w.heap.size A1 A2 x)(hcap:x.into.length≤c1):
  Calls Tryz.prog 97 #[.agg (xcs x A1 A2 c1 c2)] w (EndKp x w):=by
 obtain⟨w1,hw1⟩: ∃w1:World,w1=(w.alloc (oDl x A1 A2 c1 c2)).alloc (.cells zcs 24):=⟨_,rfl⟩
 have kx1:w1.heap[w.heap.size]?=some (oDl x A1 A2 c1 c2):=by rw[hw1];exact(Below.heap_alloc _ _ _ (by simp)).trans (heap_alloc_new w _)
 have kr1:w1.heap[w.heap.size+1]?=some (.cells zcs 24 (0,0)):=by rw[hw1];exact heap_at (by simp)
 have z1:w1.heap.size=w.heap.size+1+1:=by rw[hw1];simp
 have b1:Below w.heap.size w w1:=by rw[hw1];go_grown
 have kz2:(w1.alloc (.cells zcs 24)).heap[w.heap.size+1+1]?=some (.cells zcs 24 (0,0)):=heap_at z1
 have ba:Below w1.heap.size w1 (w1.alloc (.cells zcs 24)):=by go_grown
 obtain⟨w3,st3,ko3,g3⟩:=st_row _ (w.heap.size+1+1) 24 24 zcs #[.int .i64 x.id,.int .i64 x.day,.int .u8 x.kind,.int .i64 x.lot,.int .i64 0,.int .i64 0,.int .i64 0,.int .i64 0,.int .i64 0,.slice none 0 0,.slice none 0 0] kz2 info_deal rfl (by simp[Value.oneCell'])
 rw[hw1]at st3
 have z3:w.heap.size+1+1<w3.heap.size:=(Array.getElem?_eq_some_iff.1 ko3).1
 have kx3:=(g3.block w.heap.size (by simp;omega) (by simp<;>omega)).trans ((ba.block _ (by omega)).trans kx1)
 have kr3:=(g3.block (w.heap.size+1) (by simp;omega) (by simp<;>omega)).trans ((ba.block _ (by omega)).trans kr1)
 have b3:Below w.heap.size w w3:=(b1.trans (ba.mono (by omega))).grown g3 (by simp;omega) (by intro k e;cases e;omega)
 have n3:=named_1 (heap_alloc_new w3 (.cells #[.int .i64 x.lot] 3))
 obtain⟨hcx1,hfx1⟩:=blk_cells kx1
 obtain⟨hcx3,hfx3⟩:=blk_cells kx3
 have q1:(((x.kind:Nat):Int)==1)=false:=by rw[beq_eq_false_iff_ne];omega
 have q2:(((x.kind:Nat):Int)==2)=false:=by rw[beq_eq_false_iff_ne];omega
 have q3:(((x.kind:Nat):Int)==3)=false:=by rw[beq_eq_false_iff_ne];omega
 have q4:(((x.kind:Nat):Int)==4)=false:=by rw[beq_eq_false_iff_ne];omega
 have q5:(((x.kind:Nat):Int)==5)=true:=by rw[beq_iff_eq];omega
 have HX:=Lib.hid hx
 have HK:=Lib.hid hk
 clear hw1 hk hx
 go_enter Tryz.func97,Tryz.ntmps97
 go_wp2_with fail
 refine n3.mono ?_
 clear n3
 rintro e w4 ⟨rfl,hx4⟩
 have b34:Below w3.heap.size w3 (w3.alloc (.cells #[.int .i64 x.lot] 3)):=by go_grown
 have b4':Below w3.heap.size w3 w4:=b34.trans (hx4.mono b34.size)
 have b4:Below w.heap.size w w4:=b3.trans (b4'.mono (by omega))
 have kx4:=(b4'.block _ (by omega)).trans kx3
 have kr4:=(b4'.block _ (by omega)).trans kr3
 have ko4:=(b4'.block _ z3).trans ko3
 have z4:w.heap.size+1+1<w4.heap.size:=(Array.getElem?_eq_some_iff.1 ko4).1
 clear hx4 kx3 kr3 ko3 hcx3 hfx3 hcx1 hfx1 st3
 obtain⟨hcx,hfx⟩:=blk_cells kx4
 obtain⟨p,hp⟩: ∃p,Rt.isId x.lot=p:=⟨_,rfl⟩
 rw[hp]
 have HP:=Lib.hid hp
 clear hp
 obtain⟨w5,hw5⟩: ∃w5:World,w5=w4.setCell ⟨w.heap.size+1+1,4,none⟩ (.int .i64 x.other):=⟨_,rfl⟩
 have g5:w4.grownBy w5 (some (w.heap.size+1+1)):=by rw[hw5];exact gsc w4 ⟨w.heap.size+1+1,4,none⟩ _
 have ko5:w5.heap[w.heap.size+1+1]?=some (.cells #[.int .i64 x.id,.int .i64 x.day,.int .u8 x.kind,.int .i64 x.lot,.int .i64 x.other,.int .i64 0,.int .i64 0,.int .i64 0,.int .i64 0,.slice none 0 0,.slice none 0 0] 24 (0,0)):=by rw[hw5];exact hsc (j:=4) _ ko4
 have s5:=st_int (n:=x.other) ko4 (show 4<11 by omega)
 rw[←hw5]at s5
 clear hw5
 have kx5:=(g5.block w.heap.size (by omega) (by simp<;>omega)).trans kx4
 have kr5:=(g5.block (w.heap.size+1) (by omega) (by simp<;>omega)).trans kr4
 have b5:Below w.heap.size w w5:=b4.grown g5 (by omega) (by intro k e;cases e;omega)
 have z5:w.heap.size+1+1<w5.heap.size:=(Array.getElem?_eq_some_iff.1 ko5).1
 obtain⟨hcx5,hfx5⟩:=blk_cells kx5
 cases p with
 |false=>
  have l1:=ld_row ko5 Tryz.underlying24 rfl info_deal
  obtain⟨wF,stF,krF,gF⟩:=st_row w5 (w.heap.size+1) 24 24 zcs #[.int .i64 x.id,.int .i64 x.day,.int .u8 x.kind,.int .i64 x.lot,.int .i64 x.other,.int .i64 0,.int .i64 0,.int .i64 0,.int .i64 0,.slice none 0 0,.slice none 0 0] kr5 info_deal rfl (by simp[Value.oneCell'])
  have l2:=ld_row krF Tryz.underlying24 rfl info_deal
  have bF:Below w.heap.size w wF:=b5.grown gF (by omega) (by intro k e;cases e;omega)
  go_wp2
  refine bodyPost_ret (v:=.tuple #[.agg #[.int .i64 x.id,.int .i64 x.day,.int .u8 x.kind,.int .i64 x.lot,.int .i64 x.other,.int .i64 0,.int .i64 0,.int .i64 0,.int .i64 0,.slice none 0 0,.slice none 0 0],.bool false]) (by simp[results,Tryz.results97,go_sem,l2]) rfl ?_
  exact⟨Rt.keep5 x,none,none,0,0,false,rfl,⟨.inl rfl,.inl rfl,(by simp[Rt.keep5]),(by simp[Rt.keep5])⟩,bF,(by unfold Rt.body;rw[HK.out];simp only[Rt.only5,HP.out];(try cases Rt.sameD x (Rt.keep5 x))<;>simp[Bool.and_comm])⟩
 |true=>
  have n6:=named_1 (heap_alloc_new w5 (.cells #[.int .i64 x.other] 3))
  obtain⟨q,hq⟩: ∃q,Rt.isId x.other=q:=⟨_,rfl⟩
  rw[hq]at n6
  have HQ:=Lib.hid hq
  clear hq
  go_wp2_with fail
  refine n6.mono ?_
  clear n6
  rintro e w6 ⟨rfl,hx6⟩
  have b56:Below w5.heap.size w5 (w5.alloc (.cells #[.int .i64 x.other] 3)):=by go_grown
  have b6':Below w5.heap.size w5 w6:=b56.trans (hx6.mono b56.size)
  have kx6:=(b6'.block _ (by omega)).trans kx5
  have kr6:=(b6'.block _ (by omega)).trans kr5
  have ko6:=(b6'.block _ (by omega)).trans ko5
  have b6:Below w.heap.size w w6:=b5.trans (b6'.mono (by omega))
  have z6:w.heap.size+1+1<w6.heap.size:=(Array.getElem?_eq_some_iff.1 ko6).1
  obtain⟨hcx6,hfx6⟩:=blk_cells kx6
  clear hx6
  cases q with
  |false=>
   have l1:=ld_row ko6 Tryz.underlying24 rfl info_deal
   obtain⟨wF,stF,krF,gF⟩:=st_row w6 (w.heap.size+1) 24 24 zcs #[.int .i64 x.id,.int .i64 x.day,.int .u8 x.kind,.int .i64 x.lot,.int .i64 x.other,.int .i64 0,.int .i64 0,.int .i64 0,.int .i64 0,.slice none 0 0,.slice none 0 0] kr6 info_deal rfl (by simp[Value.oneCell'])
   have l2:=ld_row krF Tryz.underlying24 rfl info_deal
   have bF:Below w.heap.size w wF:=b6.grown gF (by omega) (by intro k e;cases e;omega)
   go_wp2
   refine bodyPost_ret (v:=.tuple #[.agg #[.int .i64 x.id,.int .i64 x.day,.int .u8 x.kind,.int .i64 x.lot,.int .i64 x.other,.int .i64 0,.int .i64 0,.int .i64 0,.int .i64 0,.slice none 0 0,.slice none 0 0],.bool false]) (by simp[results,Tryz.results97,go_sem,l2]) rfl ?_
   exact⟨Rt.keep5 x,none,none,0,0,false,rfl,⟨.inl rfl,.inl rfl,(by simp[Rt.keep5]),(by simp[Rt.keep5])⟩,bF,(by unfold Rt.body;rw[HK.out];simp only[Rt.only5,HP.out,HQ.out];(try cases Rt.sameD x (Rt.keep5 x))<;>simp[Bool.and_comm])⟩
  |true=>
   by_cases hne:x.lot=x.other
   ·have hd:(x.lot !=x.other)=false:=by simp[hne]
    have hd2:(x.other !=x.lot)=false:=by simp[hne]
    have HD:=Lib.hid hd2
    clear hne hd2
    have l1:=ld_row ko6 Tryz.underlying24 rfl info_deal
    obtain⟨wF,stF,krF,gF⟩:=st_row w6 (w.heap.size+1) 24 24 zcs #[.int .i64 x.id,.int .i64 x.day,.int .u8 x.kind,.int .i64 x.lot,.int .i64 x.other,.int .i64 0,.int .i64 0,.int .i64 0,.int .i64 0,.slice none 0 0,.slice none 0 0] kr6 info_deal rfl (by simp[Value.oneCell'])
    have l2:=ld_row krF Tryz.underlying24 rfl info_deal
    have bF:Below w.heap.size w wF:=b6.grown gF (by omega) (by intro k e;cases e;omega)
    go_wp2
    refine bodyPost_ret (v:=.tuple #[.agg #[.int .i64 x.id,.int .i64 x.day,.int .u8 x.kind,.int .i64 x.lot,.int .i64 x.other,.int .i64 0,.int .i64 0,.int .i64 0,.int .i64 0,.slice none 0 0,.slice none 0 0],.bool false]) (by simp[results,Tryz.results97,go_sem,l2]) rfl ?_
    exact⟨Rt.keep5 x,none,none,0,0,false,rfl,⟨.inl rfl,.inl rfl,(by simp[Rt.keep5]),(by simp[Rt.keep5])⟩,bF,(by unfold Rt.body;rw[HK.out];simp only[Rt.only5,HP.out,HQ.out,HD.out];(try cases Rt.sameD x (Rt.keep5 x))<;>simp[Bool.and_comm])⟩
   ·have hd:(x.lot !=x.other)=true:=by simpa using hne
    have hd2:(x.other !=x.lot)=true:=by simpa using fun e:x.other=x.lot=>hne e.symm
    have HD:=Lib.hid hd2
    clear hne hd2
    have l1:=ld_row ko6 Tryz.underlying24 rfl info_deal
    obtain⟨wF,stF,krF,gF⟩:=st_row w6 (w.heap.size+1) 24 24 zcs #[.int .i64 x.id,.int .i64 x.day,.int .u8 x.kind,.int .i64 x.lot,.int .i64 x.other,.int .i64 0,.int .i64 0,.int .i64 0,.int .i64 0,.slice none 0 0,.slice none 0 0] kr6 info_deal rfl (by simp[Value.oneCell'])
    have l2:=ld_row krF Tryz.underlying24 rfl info_deal
    have bF:Below w.heap.size w wF:=b6.grown gF (by omega) (by intro k e;cases e;omega)
    go_wp2
    refine bodyPost_ret (v:=.tuple #[.agg #[.int .i64 x.id,.int .i64 x.day,.int .u8 x.kind,.int .i64 x.lot,.int .i64 x.other,.int .i64 0,.int .i64 0,.int .i64 0,.int .i64 0,.slice none 0 0,.slice none 0 0],.bool true]) (by simp[results,Tryz.results97,go_sem,l2]) rfl ?_
    exact⟨Rt.keep5 x,none,none,0,0,true,rfl,⟨.inl rfl,.inl rfl,(by simp[Rt.keep5]),(by simp[Rt.keep5])⟩,bF,(by unfold Rt.body;rw[HK.out];simp only[Rt.only5,HP.out,HQ.out,HD.out];(try cases Rt.sameD x (Rt.keep5 x))<;>simp[Bool.and_comm])⟩
end Go.Proofs.YtcffonnijhhhiaaGreatDoor
namespace Go.Proofs.YtcffonnijhhhiaaGreatDoor
open Go Go.RowKit Mp
attribute [-go_sem] loadVar storeVar
attribute [local go_sem] lk_int lk_u8 lk_ints
set_option maxRecDepth 100000 in
set_option maxHeartbeats 4000000 in
theorem kept_6 (x:Dl)(hk:x.kind=6)(A1 A2:Option Addr)(c1 c2:Nat)(w:World)(hx:DS w w.heap.size A1 A2 x)(hcap:x.into.length≤c1):
  Calls Tryz.prog 97 #[.agg (xcs x A1 A2 c1 c2)] w (EndKp x w):=by
 obtain⟨w1,hw1⟩: ∃w1:World,w1=(w.alloc (oDl x A1 A2 c1 c2)).alloc (.cells zcs 24):=⟨_,rfl⟩
 have kx1:w1.heap[w.heap.size]?=some (oDl x A1 A2 c1 c2):=by rw[hw1];exact(Below.heap_alloc _ _ _ (by simp)).trans (heap_alloc_new w _)
 have kr1:w1.heap[w.heap.size+1]?=some (.cells zcs 24 (0,0)):=by rw[hw1];exact heap_at (by simp)
 have z1:w1.heap.size=w.heap.size+1+1:=by rw[hw1];simp
 have b1:Below w.heap.size w w1:=by rw[hw1];go_grown
 have kz2:(w1.alloc (.cells zcs 24)).heap[w.heap.size+1+1]?=some (.cells zcs 24 (0,0)):=heap_at z1
 have ba:Below w1.heap.size w1 (w1.alloc (.cells zcs 24)):=by go_grown
 obtain⟨w3,st3,ko3,g3⟩:=st_row _ (w.heap.size+1+1) 24 24 zcs #[.int .i64 x.id,.int .i64 x.day,.int .u8 x.kind,.int .i64 x.lot,.int .i64 0,.int .i64 0,.int .i64 0,.int .i64 0,.int .i64 0,.slice none 0 0,.slice none 0 0] kz2 info_deal rfl (by simp[Value.oneCell'])
 rw[hw1]at st3
 have z3:w.heap.size+1+1<w3.heap.size:=(Array.getElem?_eq_some_iff.1 ko3).1
 have kx3:=(g3.block w.heap.size (by simp;omega) (by simp<;>omega)).trans ((ba.block _ (by omega)).trans kx1)
 have kr3:=(g3.block (w.heap.size+1) (by simp;omega) (by simp<;>omega)).trans ((ba.block _ (by omega)).trans kr1)
 have b3:Below w.heap.size w w3:=(b1.trans (ba.mono (by omega))).grown g3 (by simp;omega) (by intro k e;cases e;omega)
 have n3:=named_1 (heap_alloc_new w3 (.cells #[.int .i64 x.lot] 3))
 obtain⟨hcx1,hfx1⟩:=blk_cells kx1
 obtain⟨hcx3,hfx3⟩:=blk_cells kx3
 have q1:(((x.kind:Nat):Int)==1)=false:=by rw[beq_eq_false_iff_ne];omega
 have q2:(((x.kind:Nat):Int)==2)=false:=by rw[beq_eq_false_iff_ne];omega
 have q3:(((x.kind:Nat):Int)==3)=false:=by rw[beq_eq_false_iff_ne];omega
 have q4:(((x.kind:Nat):Int)==4)=false:=by rw[beq_eq_false_iff_ne];omega
 have q5:(((x.kind:Nat):Int)==5)=false:=by rw[beq_eq_false_iff_ne];omega
 have q6:(((x.kind:Nat):Int)==6)=true:=by rw[beq_iff_eq];omega
 have HX:=Lib.hid hx
 have HK:=Lib.hid hk
 clear hw1 hk hx
 go_enter Tryz.func97,Tryz.ntmps97
 go_wp2_with fail
 refine n3.mono ?_
 clear n3
 rintro e w4 ⟨rfl,hx4⟩
 have b34:Below w3.heap.size w3 (w3.alloc (.cells #[.int .i64 x.lot] 3)):=by go_grown
 have b4':Below w3.heap.size w3 w4:=b34.trans (hx4.mono b34.size)
 have b4:Below w.heap.size w w4:=b3.trans (b4'.mono (by omega))
 have kx4:=(b4'.block _ (by omega)).trans kx3
 have kr4:=(b4'.block _ (by omega)).trans kr3
 have ko4:=(b4'.block _ z3).trans ko3
 have z4:w.heap.size+1+1<w4.heap.size:=(Array.getElem?_eq_some_iff.1 ko4).1
 clear hx4 kx3 kr3 ko3 hcx3 hfx3 hcx1 hfx1 st3
 obtain⟨hcx,hfx⟩:=blk_cells kx4
 obtain⟨p,hp⟩: ∃p,Rt.isId x.lot=p:=⟨_,rfl⟩
 rw[hp]
 have HP:=Lib.hid hp
 clear hp
 obtain⟨w5,hw5⟩: ∃w5:World,w5=w4.setCell ⟨w.heap.size+1+1,4,none⟩ (.int .i64 x.other):=⟨_,rfl⟩
 have g5:w4.grownBy w5 (some (w.heap.size+1+1)):=by rw[hw5];exact gsc w4 ⟨w.heap.size+1+1,4,none⟩ _
 have ko5:w5.heap[w.heap.size+1+1]?=some (.cells #[.int .i64 x.id,.int .i64 x.day,.int .u8 x.kind,.int .i64 x.lot,.int .i64 x.other,.int .i64 0,.int .i64 0,.int .i64 0,.int .i64 0,.slice none 0 0,.slice none 0 0] 24 (0,0)):=by rw[hw5];exact hsc (j:=4) _ ko4
 have s5:=st_int (n:=x.other) ko4 (show 4<11 by omega)
 rw[←hw5]at s5
 clear hw5
 have kx5:=(g5.block w.heap.size (by omega) (by simp<;>omega)).trans kx4
 have kr5:=(g5.block (w.heap.size+1) (by omega) (by simp<;>omega)).trans kr4
 have b5:Below w.heap.size w w5:=b4.grown g5 (by omega) (by intro k e;cases e;omega)
 have z5:w.heap.size+1+1<w5.heap.size:=(Array.getElem?_eq_some_iff.1 ko5).1
 obtain⟨hcx5,hfx5⟩:=blk_cells kx5
 cases p with
 |false=>
  have l1:=ld_row ko5 Tryz.underlying24 rfl info_deal
  obtain⟨wF,stF,krF,gF⟩:=st_row w5 (w.heap.size+1) 24 24 zcs #[.int .i64 x.id,.int .i64 x.day,.int .u8 x.kind,.int .i64 x.lot,.int .i64 x.other,.int .i64 0,.int .i64 0,.int .i64 0,.int .i64 0,.slice none 0 0,.slice none 0 0] kr5 info_deal rfl (by simp[Value.oneCell'])
  have l2:=ld_row krF Tryz.underlying24 rfl info_deal
  have bF:Below w.heap.size w wF:=b5.grown gF (by omega) (by intro k e;cases e;omega)
  go_wp2
  refine bodyPost_ret (v:=.tuple #[.agg #[.int .i64 x.id,.int .i64 x.day,.int .u8 x.kind,.int .i64 x.lot,.int .i64 x.other,.int .i64 0,.int .i64 0,.int .i64 0,.int .i64 0,.slice none 0 0,.slice none 0 0],.bool false]) (by simp[results,Tryz.results97,go_sem,l2]) rfl ?_
  exact⟨Rt.keep5 x,none,none,0,0,false,rfl,⟨.inl rfl,.inl rfl,(by simp[Rt.keep5]),(by simp[Rt.keep5])⟩,bF,(by unfold Rt.body;rw[HK.out];simp only[Rt.only5,HP.out];(try cases Rt.sameD x (Rt.keep5 x))<;>simp[Bool.and_comm])⟩
 |true=>
  have n6:=named_1 (heap_alloc_new w5 (.cells #[.int .i64 x.other] 3))
  obtain⟨q,hq⟩: ∃q,Rt.isId x.other=q:=⟨_,rfl⟩
  rw[hq]at n6
  have HQ:=Lib.hid hq
  clear hq
  go_wp2_with fail
  refine n6.mono ?_
  clear n6
  rintro e w6 ⟨rfl,hx6⟩
  have b56:Below w5.heap.size w5 (w5.alloc (.cells #[.int .i64 x.other] 3)):=by go_grown
  have b6':Below w5.heap.size w5 w6:=b56.trans (hx6.mono b56.size)
  have kx6:=(b6'.block _ (by omega)).trans kx5
  have kr6:=(b6'.block _ (by omega)).trans kr5
  have ko6:=(b6'.block _ (by omega)).trans ko5
  have b6:Below w.heap.size w w6:=b5.trans (b6'.mono (by omega))
  have z6:w.heap.size+1+1<w6.heap.size:=(Array.getElem?_eq_some_iff.1 ko6).1
  obtain⟨hcx6,hfx6⟩:=blk_cells kx6
  clear hx6
  cases q with
  |false=>
   have l1:=ld_row ko6 Tryz.underlying24 rfl info_deal
   obtain⟨wF,stF,krF,gF⟩:=st_row w6 (w.heap.size+1) 24 24 zcs #[.int .i64 x.id,.int .i64 x.day,.int .u8 x.kind,.int .i64 x.lot,.int .i64 x.other,.int .i64 0,.int .i64 0,.int .i64 0,.int .i64 0,.slice none 0 0,.slice none 0 0] kr6 info_deal rfl (by simp[Value.oneCell'])
   have l2:=ld_row krF Tryz.underlying24 rfl info_deal
   have bF:Below w.heap.size w wF:=b6.grown gF (by omega) (by intro k e;cases e;omega)
   go_wp2
   refine bodyPost_ret (v:=.tuple #[.agg #[.int .i64 x.id,.int .i64 x.day,.int .u8 x.kind,.int .i64 x.lot,.int .i64 x.other,.int .i64 0,.int .i64 0,.int .i64 0,.int .i64 0,.slice none 0 0,.slice none 0 0],.bool false]) (by simp[results,Tryz.results97,go_sem,l2]) rfl ?_
   exact⟨Rt.keep5 x,none,none,0,0,false,rfl,⟨.inl rfl,.inl rfl,(by simp[Rt.keep5]),(by simp[Rt.keep5])⟩,bF,(by unfold Rt.body;rw[HK.out];simp only[Rt.only5,HP.out,HQ.out];(try cases Rt.sameD x (Rt.keep5 x))<;>simp[Bool.and_comm])⟩
  |true=>
   by_cases hne:x.lot=x.other
   ·have hd:(x.lot !=x.other)=false:=by simp[hne]
    have hd2:(x.other !=x.lot)=false:=by simp[hne]
    have HD:=Lib.hid hd2
    clear hne hd2
    have l1:=ld_row ko6 Tryz.underlying24 rfl info_deal
    obtain⟨wF,stF,krF,gF⟩:=st_row w6 (w.heap.size+1) 24 24 zcs #[.int .i64 x.id,.int .i64 x.day,.int .u8 x.kind,.int .i64 x.lot,.int .i64 x.other,.int .i64 0,.int .i64 0,.int .i64 0,.int .i64 0,.slice none 0 0,.slice none 0 0] kr6 info_deal rfl (by simp[Value.oneCell'])
    have l2:=ld_row krF Tryz.underlying24 rfl info_deal
    have bF:Below w.heap.size w wF:=b6.grown gF (by omega) (by intro k e;cases e;omega)
    go_wp2
    refine bodyPost_ret (v:=.tuple #[.agg #[.int .i64 x.id,.int .i64 x.day,.int .u8 x.kind,.int .i64 x.lot,.int .i64 x.other,.int .i64 0,.int .i64 0,.int .i64 0,.int .i64 0,.slice none 0 0,.slice none 0 0],.bool false]) (by simp[results,Tryz.results97,go_sem,l2]) rfl ?_
    exact⟨Rt.keep5 x,none,none,0,0,false,rfl,⟨.inl rfl,.inl rfl,(by simp[Rt.keep5]),(by simp[Rt.keep5])⟩,bF,(by unfold Rt.body;rw[HK.out];simp only[Rt.only5,HP.out,HQ.out,HD.out];(try cases Rt.sameD x (Rt.keep5 x))<;>simp[Bool.and_comm])⟩
   ·have hd:(x.lot !=x.other)=true:=by simpa using hne
    have hd2:(x.other !=x.lot)=true:=by simpa using fun e:x.other=x.lot=>hne e.symm
    have HD:=Lib.hid hd2
    clear hne hd2
    have l1:=ld_row ko6 Tryz.underlying24 rfl info_deal
    obtain⟨wF,stF,krF,gF⟩:=st_row w6 (w.heap.size+1) 24 24 zcs #[.int .i64 x.id,.int .i64 x.day,.int .u8 x.kind,.int .i64 x.lot,.int .i64 x.other,.int .i64 0,.int .i64 0,.int .i64 0,.int .i64 0,.slice none 0 0,.slice none 0 0] kr6 info_deal rfl (by simp[Value.oneCell'])
    have l2:=ld_row krF Tryz.underlying24 rfl info_deal
    have bF:Below w.heap.size w wF:=b6.grown gF (by omega) (by intro k e;cases e;omega)
    go_wp2
    refine bodyPost_ret (v:=.tuple #[.agg #[.int .i64 x.id,.int .i64 x.day,.int .u8 x.kind,.int .i64 x.lot,.int .i64 x.other,.int .i64 0,.int .i64 0,.int .i64 0,.int .i64 0,.slice none 0 0,.slice none 0 0],.bool true]) (by simp[results,Tryz.results97,go_sem,l2]) rfl ?_
    exact⟨Rt.keep5 x,none,none,0,0,true,rfl,⟨.inl rfl,.inl rfl,(by simp[Rt.keep5]),(by simp[Rt.keep5])⟩,bF,(by unfold Rt.body;rw[HK.out];simp only[Rt.only5,HP.out,HQ.out,HD.out];(try cases Rt.sameD x (Rt.keep5 x))<;>simp[Bool.and_comm])⟩
end Go.Proofs.YtcffonnijhhhiaaGreatDoor
