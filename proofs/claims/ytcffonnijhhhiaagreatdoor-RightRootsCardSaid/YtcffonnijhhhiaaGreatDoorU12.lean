/- Part U12 of the proof: Kp0 Kp1 Kp2. -/
import Derived.Test.YtcffonnijhhhiaaGreatDoorProg
import Derived.WalkKit
import Derived.WalkLawsBesides
import Derived.WalkSpells
import Derived.Handy
import Derived.Lib.Hide
import Derived.Great.BuildSlice
import Derived.Deep.QuietTactic
import Derived.BigQuiet
import Derived.Deep.RegionHeld3
import Derived.Deep.DeepCutAuto
import Derived.Test.YtcffonnijhhhiaaGreatDoorU10
set_option linter.all false
set_option linter.unusedSimpArgs false
set_option linter.unusedVariables false
set_option linter.unusedSectionVars false
namespace Go.Proofs.YtcffonnijhhhiaaGreatDoor
open Go Go.RowKit Mp
attribute [-go_sem] loadVar storeVar
attribute [local go_sem] lk_int lk_u8 lk_ints
set_option maxRecDepth 100000 in
set_option maxHeartbeats 4000000 in
theorem kept_0 (x:Dl)(hk:x.kind=0∨8<x.kind)(A1 A2:Option Addr)(c1 c2:Nat)(w:World)(hx:DS w w.heap.size A1 A2 x)(hcap:x.into.length≤c1):
  Calls Tryz.prog 97 #[.agg (xcs x A1 A2 c1 c2)] w (EndKp x w):=by
 obtain⟨w1,hw1⟩: ∃w1:World,w1=(w.alloc (oDl x A1 A2 c1 c2)).alloc (.cells zcs 24):=⟨_,rfl⟩
 have kx1:w1.heap[w.heap.size]?=some (oDl x A1 A2 c1 c2):=by rw[hw1];exact(Below.heap_alloc _ _ _ (by simp)).trans (heap_alloc_new w _)
 have kr1:w1.heap[w.heap.size+1]?=some (.cells zcs 24 (0,0)):=by rw[hw1];exact heap_at (by simp)
 have z1:w1.heap.size=w.heap.size+1+1:=by rw[hw1];simp
 have b1:Below w.heap.size w w1:=by rw[hw1];go_grown
 have kz2:(w1.alloc (.cells zcs 24)).heap[w.heap.size+1+1]?=some (.cells zcs 24 (0,0)):=heap_at z1
 have ba:Below w1.heap.size w1 (w1.alloc (.cells zcs 24)):=by go_grown
 obtain⟨w3,st3,ko3,g3⟩:=st_row _ (w.heap.size+1+1) 24 24 zcs #[.int .i64 x.id,.int .i64 x.day,.int .u8 x.kind,.int .i64 x.lot,.int .i64 0,.int .i64 0,.int .i64 0,.int .i64 0,.int .i64 0,.slice none 0 0,.slice none 0 0] kz2 info_deal rfl (by simp[Value.oneCell'])
 rw[hw1]at st3
 have z3:w.heap.size+1+1<w3.heap.size:=(Array.getElem?_eq_some_iff.1 ko3).1
 have kx3:=(g3.block w.heap.size (by simp;omega) (by simp<;>omega)).trans ((ba.block _ (by omega)).trans kx1)
 have kr3:=(g3.block (w.heap.size+1) (by simp;omega) (by simp<;>omega)).trans ((ba.block _ (by omega)).trans kr1)
 have b3:Below w.heap.size w w3:=(b1.trans (ba.mono (by omega))).grown g3 (by simp;omega) (by intro k e;cases e;omega)
 have n3:=named_1 (heap_alloc_new w3 (.cells #[.int .i64 x.lot] 3))
 obtain⟨hcx1,hfx1⟩:=blk_cells kx1
 obtain⟨hcx3,hfx3⟩:=blk_cells kx3
 have q1:(((x.kind:Nat):Int)==1)=false:=by rw[beq_eq_false_iff_ne];omega
 have q2:(((x.kind:Nat):Int)==2)=false:=by rw[beq_eq_false_iff_ne];omega
 have q3:(((x.kind:Nat):Int)==3)=false:=by rw[beq_eq_false_iff_ne];omega
 have q4:(((x.kind:Nat):Int)==4)=false:=by rw[beq_eq_false_iff_ne];omega
 have q5:(((x.kind:Nat):Int)==5)=false:=by rw[beq_eq_false_iff_ne];omega
 have q6:(((x.kind:Nat):Int)==6)=false:=by rw[beq_eq_false_iff_ne];omega
 have q7:(((x.kind:Nat):Int)==7)=false:=by rw[beq_eq_false_iff_ne];omega
 have q8:(((x.kind:Nat):Int)==8)=false:=by rw[beq_eq_false_iff_ne];omega
 have HX:=Lib.hid hx
 have HK:=Lib.hid hk
 clear hw1 hk hx
 go_enter Tryz.func97,Tryz.ntmps97
 go_wp2_with fail
 refine n3.mono ?_
 clear n3
 rintro e w4 ⟨rfl,hx4⟩
 have b34:Below w3.heap.size w3 (w3.alloc (.cells #[.int .i64 x.lot] 3)):=by go_grown
 have b4':Below w3.heap.size w3 w4:=b34.trans (hx4.mono b34.size)
 have b4:Below w.heap.size w w4:=b3.trans (b4'.mono (by omega))
 have kx4:=(b4'.block _ (by omega)).trans kx3
 have kr4:=(b4'.block _ (by omega)).trans kr3
 have ko4:=(b4'.block _ z3).trans ko3
 have z4:w.heap.size+1+1<w4.heap.size:=(Array.getElem?_eq_some_iff.1 ko4).1
 clear hx4 kx3 kr3 ko3 hcx3 hfx3 hcx1 hfx1 st3
 obtain⟨hcx,hfx⟩:=blk_cells kx4
 obtain⟨p,hp⟩: ∃p,Rt.isId x.lot=p:=⟨_,rfl⟩
 rw[hp]
 have HP:=Lib.hid hp
 clear hp
 have ko5:=ko4
 have kx5:=kx4
 have kr5:=kr4
 have b5:=b4
 have z5:w.heap.size+1+1<w4.heap.size:=(Array.getElem?_eq_some_iff.1 ko5).1
 obtain⟨hcx5,hfx5⟩:=blk_cells kx5
 clear hcx hfx
 have l1:=ld_row ko5 Tryz.underlying24 rfl info_deal
 obtain⟨wF,stF,krF,gF⟩:=st_row w4 (w.heap.size+1) 24 24 zcs #[.int .i64 x.id,.int .i64 x.day,.int .u8 x.kind,.int .i64 x.lot,.int .i64 0,.int .i64 0,.int .i64 0,.int .i64 0,.int .i64 0,.slice none 0 0,.slice none 0 0] kr5 info_deal rfl (by simp[Value.oneCell'])
 have l2:=ld_row krF Tryz.underlying24 rfl info_deal
 have bF:Below w.heap.size w wF:=b5.grown gF (by omega) (by intro k e;cases e;omega)
 go_wp2
 refine bodyPost_ret (v:=.tuple #[.agg #[.int .i64 x.id,.int .i64 x.day,.int .u8 x.kind,.int .i64 x.lot,.int .i64 0,.int .i64 0,.int .i64 0,.int .i64 0,.int .i64 0,.slice none 0 0,.slice none 0 0],.bool false]) (by simp[results,Tryz.results97,go_sem,l2]) rfl ?_
 exact⟨Rt.keep0 x,none,none,0,0,false,rfl,⟨.inl rfl,.inl rfl,(by simp[Rt.keep0]),(by simp[Rt.keep0])⟩,bF,(by exact body_none HK.out)⟩
end Go.Proofs.YtcffonnijhhhiaaGreatDoor
namespace Go.Proofs.YtcffonnijhhhiaaGreatDoor
open Go Go.RowKit Mp
attribute [-go_sem] loadVar storeVar
attribute [local go_sem] lk_int lk_u8 lk_ints
set_option maxRecDepth 100000 in
set_option maxHeartbeats 4000000 in
theorem kept_1 (x:Dl)(hk:x.kind=1)(A1 A2:Option Addr)(c1 c2:Nat)(w:World)(hx:DS w w.heap.size A1 A2 x)(hcap:x.into.length≤c1):
  Calls Tryz.prog 97 #[.agg (xcs x A1 A2 c1 c2)] w (EndKp x w):=by
 obtain⟨w1,hw1⟩: ∃w1:World,w1=(w.alloc (oDl x A1 A2 c1 c2)).alloc (.cells zcs 24):=⟨_,rfl⟩
 have kx1:w1.heap[w.heap.size]?=some (oDl x A1 A2 c1 c2):=by rw[hw1];exact(Below.heap_alloc _ _ _ (by simp)).trans (heap_alloc_new w _)
 have kr1:w1.heap[w.heap.size+1]?=some (.cells zcs 24 (0,0)):=by rw[hw1];exact heap_at (by simp)
 have z1:w1.heap.size=w.heap.size+1+1:=by rw[hw1];simp
 have b1:Below w.heap.size w w1:=by rw[hw1];go_grown
 have kz2:(w1.alloc (.cells zcs 24)).heap[w.heap.size+1+1]?=some (.cells zcs 24 (0,0)):=heap_at z1
 have ba:Below w1.heap.size w1 (w1.alloc (.cells zcs 24)):=by go_grown
 obtain⟨w3,st3,ko3,g3⟩:=st_row _ (w.heap.size+1+1) 24 24 zcs #[.int .i64 x.id,.int .i64 x.day,.int .u8 x.kind,.int .i64 x.lot,.int .i64 0,.int .i64 0,.int .i64 0,.int .i64 0,.int .i64 0,.slice none 0 0,.slice none 0 0] kz2 info_deal rfl (by simp[Value.oneCell'])
 rw[hw1]at st3
 have z3:w.heap.size+1+1<w3.heap.size:=(Array.getElem?_eq_some_iff.1 ko3).1
 have kx3:=(g3.block w.heap.size (by simp;omega) (by simp<;>omega)).trans ((ba.block _ (by omega)).trans kx1)
 have kr3:=(g3.block (w.heap.size+1) (by simp;omega) (by simp<;>omega)).trans ((ba.block _ (by omega)).trans kr1)
 have b3:Below w.heap.size w w3:=(b1.trans (ba.mono (by omega))).grown g3 (by simp;omega) (by intro k e;cases e;omega)
 have n3:=named_1 (heap_alloc_new w3 (.cells #[.int .i64 x.lot] 3))
 obtain⟨hcx1,hfx1⟩:=blk_cells kx1
 obtain⟨hcx3,hfx3⟩:=blk_cells kx3
 have q1:(((x.kind:Nat):Int)==1)=true:=by rw[beq_iff_eq];omega
 have HX:=Lib.hid hx
 have HK:=Lib.hid hk
 clear hw1 hk hx
 go_enter Tryz.func97,Tryz.ntmps97
 go_wp2_with fail
 refine n3.mono ?_
 clear n3
 rintro e w4 ⟨rfl,hx4⟩
 have b34:Below w3.heap.size w3 (w3.alloc (.cells #[.int .i64 x.lot] 3)):=by go_grown
 have b4':Below w3.heap.size w3 w4:=b34.trans (hx4.mono b34.size)
 have b4:Below w.heap.size w w4:=b3.trans (b4'.mono (by omega))
 have kx4:=(b4'.block _ (by omega)).trans kx3
 have kr4:=(b4'.block _ (by omega)).trans kr3
 have ko4:=(b4'.block _ z3).trans ko3
 have z4:w.heap.size+1+1<w4.heap.size:=(Array.getElem?_eq_some_iff.1 ko4).1
 clear hx4 kx3 kr3 ko3 hcx3 hfx3 hcx1 hfx1 st3
 obtain⟨hcx,hfx⟩:=blk_cells kx4
 obtain⟨p,hp⟩: ∃p,Rt.isId x.lot=p:=⟨_,rfl⟩
 rw[hp]
 have HP:=Lib.hid hp
 clear hp
 obtain⟨V0,hV0⟩: ∃V:World,V=w4.drew:=⟨_,rfl⟩
 have g0:w4.grownBy V0 (some (w.heap.size+1+1)):=by rw[hV0];exact⟨rfl,rfl,rfl,Nat.le_refl _,fun _ _ _=>rfl⟩
 have kv0:V0.heap[w.heap.size+1+1]?=some (.cells #[.int .i64 x.id,.int .i64 x.day,.int .u8 x.kind,.int .i64 x.lot,.int .i64 0,.int .i64 0,.int .i64 0,.int .i64 0,.int .i64 0,.slice none 0 0,.slice none 0 0] 24 (0,0)):=by rw[hV0];exact ko4
 have HV0:=Lib.hid hV0
 clear hV0
 obtain⟨V1,hV1⟩: ∃V:World,V=V0.setCell ⟨w.heap.size+1+1,6,none⟩ (.int .i64 x.to):=⟨_,rfl⟩
 have g1:w4.grownBy V1 (some (w.heap.size+1+1)):=by rw[hV1];exact g0.trans (gsc V0 ⟨w.heap.size+1+1,6,none⟩ _)
 have kv1:V1.heap[w.heap.size+1+1]?=some (.cells #[.int .i64 x.id,.int .i64 x.day,.int .u8 x.kind,.int .i64 x.lot,.int .i64 0,.int .i64 0,.int .i64 x.to,.int .i64 0,.int .i64 0,.slice none 0 0,.slice none 0 0] 24 (0,0)):=by rw[hV1];exact hsc (j:=6) _ kv0
 have s0:=st_int (n:=x.to) kv0 (show 6<11 by omega)
 rw[←hV1]at s0
 clear hV1
 obtain⟨V2,hV2⟩: ∃V:World,V=V1.setCell ⟨w.heap.size+1+1,8,none⟩ (.int .i64 x.size):=⟨_,rfl⟩
 have g2:w4.grownBy V2 (some (w.heap.size+1+1)):=by rw[hV2];exact g1.trans (gsc V1 ⟨w.heap.size+1+1,8,none⟩ _)
 have kv2:V2.heap[w.heap.size+1+1]?=some (.cells #[.int .i64 x.id,.int .i64 x.day,.int .u8 x.kind,.int .i64 x.lot,.int .i64 0,.int .i64 0,.int .i64 x.to,.int .i64 0,.int .i64 x.size,.slice none 0 0,.slice none 0 0] 24 (0,0)):=by rw[hV2];exact hsc (j:=8) _ kv1
 have s1:=st_int (n:=x.size) kv1 (show 8<11 by omega)
 rw[←hV2]at s1
 clear hV2
 have HS:=Lib.hid (show ∀V,w4.grownBy V (some (w.heap.size+1+1))→V.cell? ⟨w.heap.size,6,none⟩=some (.int .i64 x.to)∧V.cell? ⟨w.heap.size,8,none⟩=some (.int .i64 x.size) from fun V hV=>by
  have k:=(hV.block _ (by omega) (by simp<;>omega)).trans kx4
  exact⟨(blk_cells k).1 6,(blk_cells k).1 8⟩)
 go_wp2
 refine wp_region_held_drew (S:=fun V=>V.cell? ⟨w.heap.size,6,none⟩=some (.int .i64 x.to)∧V.cell? ⟨w.heap.size,8,none⟩=some (.int .i64 x.size)) (by kernel_rfl) (by rw[←HV0.out];exact HS.out _ g0) (fun hHeld=> ?_)
 rw[←HV0.out]at hHeld ⊢
 refine takeH 0 (some 23) (v:= ?v1) rfl rfl (by kernel_rfl) (by kernel_rfl) (by kernel_rfl) (fun _ _ _ h=>h) (Or.inl ⟨by rfl,fun W hW=> ?hy1⟩) (by assumption) ?hr1
 case hy1=>(try dsimp only at hW);go_simp;try with_reducible rfl
 try simp only[Act.put,List.setIfInBounds_toArray,List.set_cons_zero,List.set_cons_succ]
 refine takeH 1 (some 24) (v:= ?v2) rfl rfl (by kernel_rfl) (by kernel_rfl) (by kernel_rfl) (fun _ _ _ h=>h) (Or.inl ⟨by rfl,fun W hW=> ?hy2⟩) (by assumption) ?hr2
 case hy2=>(try dsimp only at hW);go_simp;try with_reducible rfl
 try simp only[Act.put,List.setIfInBounds_toArray,List.set_cons_zero,List.set_cons_succ]
 refine takeH 2 (some 25) (v:= ?v3) rfl rfl (by kernel_rfl) (by kernel_rfl) (by kernel_rfl) (fun _ _ _ h=>h) (Or.inl ⟨by rfl,fun W hW=> ?hy3⟩) (by assumption) ?hr3
 case hy3=>(try dsimp only at hW);go_simp;try with_reducible rfl
 try simp only[Act.put,List.setIfInBounds_toArray,List.set_cons_zero,List.set_cons_succ]
 refine takeH 3 (some 26) (v:= ?v4) rfl rfl (by kernel_rfl) (by kernel_rfl) (by kernel_rfl) (fun _ _ _ h=>h) (Or.inl ⟨by rfl,fun W hW=> ?hy4⟩) (by assumption) ?hr4
 case hy4=>(try dsimp only at hW);go_simp;try with_reducible rfl
 try simp only[Act.put,List.setIfInBounds_toArray,List.set_cons_zero,List.set_cons_succ]
 refine takeH 4 (some 27) (v:= ?v5) rfl rfl (by kernel_rfl) (by kernel_rfl) (by kernel_rfl) (fun _ _ _ h=>h) (Or.inl ⟨by rfl,fun W hW=> ?hy5⟩) (by assumption) ?hr5
 case hy5=>(try dsimp only at hW);go_simp;try with_reducible rfl
 try simp only[Act.put,List.setIfInBounds_toArray,List.set_cons_zero,List.set_cons_succ]
 refine wpAnyH_ready (rs:=[5]) (by kernel_rfl) (by simp) ?_
 refine readyH none rfl rfl (fun K hK=> ?_) AllReadyH.nil
 go_simp
 refine hK _ _ (HS.out _ g1) (fun hHeld=> ?_)
 clear hK K
 try simp only[Act.put,List.setIfInBounds_toArray,List.set_cons_zero,List.set_cons_succ]
 refine takeH 6 (some 28) (v:= ?v6) rfl rfl (by kernel_rfl) (by kernel_rfl) (by kernel_rfl) (fun _ _ _ h=>h) (Or.inl ⟨by rfl,fun W hW=> ?hy6⟩) (by assumption) ?hr6
 case hy6=>(try dsimp only at hW);go_simp;try with_reducible rfl
 try simp only[Act.put,List.setIfInBounds_toArray,List.set_cons_zero,List.set_cons_succ]
 refine wpAnyH_ready (rs:=[7]) (by kernel_rfl) (by simp) ?_
 refine readyH none rfl rfl (fun K hK=> ?_) AllReadyH.nil
 go_simp
 refine hK _ _ (HS.out _ g2) (fun hHeld=> ?_)
 clear hK K
 try simp only[Act.put,List.setIfInBounds_toArray,List.set_cons_zero,List.set_cons_succ]
 refine wpAnyH_done (by kernel_rfl) ?_ _
 have g5:=g2
 have ko5:=kv2
 clear s0 s1
 have kx5:=(g5.block w.heap.size (by omega) (by simp<;>omega)).trans kx4
 have kr5:=(g5.block (w.heap.size+1) (by omega) (by simp<;>omega)).trans kr4
 have b5:Below w.heap.size w V2:=b4.grown g5 (by omega) (by intro k e;cases e;omega)
 have z5:w.heap.size+1+1<V2.heap.size:=(Array.getElem?_eq_some_iff.1 ko5).1
 obtain⟨hcx5,hfx5⟩:=blk_cells kx5
 cases p with
 |false=>
  have l1:=ld_row ko5 Tryz.underlying24 rfl info_deal
  obtain⟨wF,stF,krF,gF⟩:=st_row V2 (w.heap.size+1) 24 24 zcs #[.int .i64 x.id,.int .i64 x.day,.int .u8 x.kind,.int .i64 x.lot,.int .i64 0,.int .i64 0,.int .i64 x.to,.int .i64 0,.int .i64 x.size,.slice none 0 0,.slice none 0 0] kr5 info_deal rfl (by simp[Value.oneCell'])
  have l2:=ld_row krF Tryz.underlying24 rfl info_deal
  have bF:Below w.heap.size w wF:=b5.grown gF (by omega) (by intro k e;cases e;omega)
  go_wp2
  refine bodyPost_ret (v:=.tuple #[.agg #[.int .i64 x.id,.int .i64 x.day,.int .u8 x.kind,.int .i64 x.lot,.int .i64 0,.int .i64 0,.int .i64 x.to,.int .i64 0,.int .i64 x.size,.slice none 0 0,.slice none 0 0],.bool false]) (by simp[results,Tryz.results97,go_sem,l2]) rfl ?_
  exact⟨Rt.keep1 x,none,none,0,0,false,rfl,⟨.inl rfl,.inl rfl,(by simp[Rt.keep1]),(by simp[Rt.keep1])⟩,bF,(by unfold Rt.body;rw[HK.out];simp only[Rt.only1,HP.out];(try cases Rt.sameD x (Rt.keep1 x))<;>simp[Bool.and_comm])⟩
 |true=>
  have n6:=named_1 (heap_alloc_new V2 (.cells #[.int .i64 x.to] 3))
  obtain⟨q,hq⟩: ∃q,Rt.isId x.to=q:=⟨_,rfl⟩
  rw[hq]at n6
  have HQ:=Lib.hid hq
  clear hq
  go_wp2_with fail
  refine n6.mono ?_
  clear n6
  rintro e w6 ⟨rfl,hx6⟩
  have b56:Below V2.heap.size V2 (V2.alloc (.cells #[.int .i64 x.to] 3)):=by go_grown
  have b6':Below V2.heap.size V2 w6:=b56.trans (hx6.mono b56.size)
  have kx6:=(b6'.block _ (by omega)).trans kx5
  have kr6:=(b6'.block _ (by omega)).trans kr5
  have ko6:=(b6'.block _ (by omega)).trans ko5
  have b6:Below w.heap.size w w6:=b5.trans (b6'.mono (by omega))
  have z6:w.heap.size+1+1<w6.heap.size:=(Array.getElem?_eq_some_iff.1 ko6).1
  obtain⟨hcx6,hfx6⟩:=blk_cells kx6
  clear hx6
  cases q with
  |false=>
   have l1:=ld_row ko6 Tryz.underlying24 rfl info_deal
   obtain⟨wF,stF,krF,gF⟩:=st_row w6 (w.heap.size+1) 24 24 zcs #[.int .i64 x.id,.int .i64 x.day,.int .u8 x.kind,.int .i64 x.lot,.int .i64 0,.int .i64 0,.int .i64 x.to,.int .i64 0,.int .i64 x.size,.slice none 0 0,.slice none 0 0] kr6 info_deal rfl (by simp[Value.oneCell'])
   have l2:=ld_row krF Tryz.underlying24 rfl info_deal
   have bF:Below w.heap.size w wF:=b6.grown gF (by omega) (by intro k e;cases e;omega)
   go_wp2
   refine bodyPost_ret (v:=.tuple #[.agg #[.int .i64 x.id,.int .i64 x.day,.int .u8 x.kind,.int .i64 x.lot,.int .i64 0,.int .i64 0,.int .i64 x.to,.int .i64 0,.int .i64 x.size,.slice none 0 0,.slice none 0 0],.bool false]) (by simp[results,Tryz.results97,go_sem,l2]) rfl ?_
   exact⟨Rt.keep1 x,none,none,0,0,false,rfl,⟨.inl rfl,.inl rfl,(by simp[Rt.keep1]),(by simp[Rt.keep1])⟩,bF,(by unfold Rt.body;rw[HK.out];simp only[Rt.only1,HP.out,HQ.out];(try cases Rt.sameD x (Rt.keep1 x))<;>simp[Bool.and_comm])⟩
  |true=>
   go_wp2_with fail
   refine(within_a _ _ _ _).mono ?_
   rintro e w' ⟨rfl,rfl⟩
   have l1:=ld_row ko6 Tryz.underlying24 rfl info_deal
   obtain⟨wF,stF,krF,gF⟩:=st_row w6 (w.heap.size+1) 24 24 zcs #[.int .i64 x.id,.int .i64 x.day,.int .u8 x.kind,.int .i64 x.lot,.int .i64 0,.int .i64 0,.int .i64 x.to,.int .i64 0,.int .i64 x.size,.slice none 0 0,.slice none 0 0] kr6 info_deal rfl (by simp[Value.oneCell'])
   have l2:=ld_row krF Tryz.underlying24 rfl info_deal
   have bF:Below w.heap.size w wF:=b6.grown gF (by omega) (by intro k e;cases e;omega)
   go_wp2
   refine bodyPost_ret (v:=.tuple #[.agg #[.int .i64 x.id,.int .i64 x.day,.int .u8 x.kind,.int .i64 x.lot,.int .i64 0,.int .i64 0,.int .i64 x.to,.int .i64 0,.int .i64 x.size,.slice none 0 0,.slice none 0 0],.bool (Rt.inR x.size 1 10000000000)]) (by simp[results,Tryz.results97,go_sem,l2]) rfl ?_
   exact⟨Rt.keep1 x,none,none,0,0,(Rt.inR x.size 1 10000000000),rfl,⟨.inl rfl,.inl rfl,(by simp[Rt.keep1]),(by simp[Rt.keep1])⟩,bF,(by unfold Rt.body;rw[HK.out];simp only[Rt.only1,HP.out,HQ.out];(try cases Rt.sameD x (Rt.keep1 x))<;>simp[Bool.and_comm])⟩
end Go.Proofs.YtcffonnijhhhiaaGreatDoor
namespace Go.Proofs.YtcffonnijhhhiaaGreatDoor
open Go Go.RowKit Mp
attribute [-go_sem] loadVar storeVar
attribute [local go_sem] lk_int lk_u8 lk_ints
set_option maxRecDepth 100000 in
set_option maxHeartbeats 4000000 in
theorem kept_2 (x:Dl)(hk:x.kind=2)(A1 A2:Option Addr)(c1 c2:Nat)(w:World)(hx:DS w w.heap.size A1 A2 x)(hcap:x.into.length≤c1):
  Calls Tryz.prog 97 #[.agg (xcs x A1 A2 c1 c2)] w (EndKp x w):=by
 obtain⟨w1,hw1⟩: ∃w1:World,w1=(w.alloc (oDl x A1 A2 c1 c2)).alloc (.cells zcs 24):=⟨_,rfl⟩
 have kx1:w1.heap[w.heap.size]?=some (oDl x A1 A2 c1 c2):=by rw[hw1];exact(Below.heap_alloc _ _ _ (by simp)).trans (heap_alloc_new w _)
 have kr1:w1.heap[w.heap.size+1]?=some (.cells zcs 24 (0,0)):=by rw[hw1];exact heap_at (by simp)
 have z1:w1.heap.size=w.heap.size+1+1:=by rw[hw1];simp
 have b1:Below w.heap.size w w1:=by rw[hw1];go_grown
 have kz2:(w1.alloc (.cells zcs 24)).heap[w.heap.size+1+1]?=some (.cells zcs 24 (0,0)):=heap_at z1
 have ba:Below w1.heap.size w1 (w1.alloc (.cells zcs 24)):=by go_grown
 obtain⟨w3,st3,ko3,g3⟩:=st_row _ (w.heap.size+1+1) 24 24 zcs #[.int .i64 x.id,.int .i64 x.day,.int .u8 x.kind,.int .i64 x.lot,.int .i64 0,.int .i64 0,.int .i64 0,.int .i64 0,.int .i64 0,.slice none 0 0,.slice none 0 0] kz2 info_deal rfl (by simp[Value.oneCell'])
 rw[hw1]at st3
 have z3:w.heap.size+1+1<w3.heap.size:=(Array.getElem?_eq_some_iff.1 ko3).1
 have kx3:=(g3.block w.heap.size (by simp;omega) (by simp<;>omega)).trans ((ba.block _ (by omega)).trans kx1)
 have kr3:=(g3.block (w.heap.size+1) (by simp;omega) (by simp<;>omega)).trans ((ba.block _ (by omega)).trans kr1)
 have b3:Below w.heap.size w w3:=(b1.trans (ba.mono (by omega))).grown g3 (by simp;omega) (by intro k e;cases e;omega)
 have n3:=named_1 (heap_alloc_new w3 (.cells #[.int .i64 x.lot] 3))
 obtain⟨hcx1,hfx1⟩:=blk_cells kx1
 obtain⟨hcx3,hfx3⟩:=blk_cells kx3
 have q1:(((x.kind:Nat):Int)==1)=false:=by rw[beq_eq_false_iff_ne];omega
 have q2:(((x.kind:Nat):Int)==2)=true:=by rw[beq_iff_eq];omega
 have HX:=Lib.hid hx
 have HK:=Lib.hid hk
 clear hw1 hk hx
 go_enter Tryz.func97,Tryz.ntmps97
 go_wp2_with fail
 refine n3.mono ?_
 clear n3
 rintro e w4 ⟨rfl,hx4⟩
 have b34:Below w3.heap.size w3 (w3.alloc (.cells #[.int .i64 x.lot] 3)):=by go_grown
 have b4':Below w3.heap.size w3 w4:=b34.trans (hx4.mono b34.size)
 have b4:Below w.heap.size w w4:=b3.trans (b4'.mono (by omega))
 have kx4:=(b4'.block _ (by omega)).trans kx3
 have kr4:=(b4'.block _ (by omega)).trans kr3
 have ko4:=(b4'.block _ z3).trans ko3
 have z4:w.heap.size+1+1<w4.heap.size:=(Array.getElem?_eq_some_iff.1 ko4).1
 clear hx4 kx3 kr3 ko3 hcx3 hfx3 hcx1 hfx1 st3
 obtain⟨hcx,hfx⟩:=blk_cells kx4
 obtain⟨p,hp⟩: ∃p,Rt.isId x.lot=p:=⟨_,rfl⟩
 rw[hp]
 have HP:=Lib.hid hp
 clear hp
 obtain⟨V0,hV0⟩: ∃V:World,V=w4.drew:=⟨_,rfl⟩
 have g0:w4.grownBy V0 (some (w.heap.size+1+1)):=by rw[hV0];exact⟨rfl,rfl,rfl,Nat.le_refl _,fun _ _ _=>rfl⟩
 have kv0:V0.heap[w.heap.size+1+1]?=some (.cells #[.int .i64 x.id,.int .i64 x.day,.int .u8 x.kind,.int .i64 x.lot,.int .i64 0,.int .i64 0,.int .i64 0,.int .i64 0,.int .i64 0,.slice none 0 0,.slice none 0 0] 24 (0,0)):=by rw[hV0];exact ko4
 have HV0:=Lib.hid hV0
 clear hV0
 obtain⟨V1,hV1⟩: ∃V:World,V=V0.setCell ⟨w.heap.size+1+1,5,none⟩ (.int .i64 x.fr):=⟨_,rfl⟩
 have g1:w4.grownBy V1 (some (w.heap.size+1+1)):=by rw[hV1];exact g0.trans (gsc V0 ⟨w.heap.size+1+1,5,none⟩ _)
 have kv1:V1.heap[w.heap.size+1+1]?=some (.cells #[.int .i64 x.id,.int .i64 x.day,.int .u8 x.kind,.int .i64 x.lot,.int .i64 0,.int .i64 x.fr,.int .i64 0,.int .i64 0,.int .i64 0,.slice none 0 0,.slice none 0 0] 24 (0,0)):=by rw[hV1];exact hsc (j:=5) _ kv0
 have s0:=st_int (n:=x.fr) kv0 (show 5<11 by omega)
 rw[←hV1]at s0
 clear hV1
 obtain⟨V2,hV2⟩: ∃V:World,V=V1.setCell ⟨w.heap.size+1+1,6,none⟩ (.int .i64 x.to):=⟨_,rfl⟩
 have g2:w4.grownBy V2 (some (w.heap.size+1+1)):=by rw[hV2];exact g1.trans (gsc V1 ⟨w.heap.size+1+1,6,none⟩ _)
 have kv2:V2.heap[w.heap.size+1+1]?=some (.cells #[.int .i64 x.id,.int .i64 x.day,.int .u8 x.kind,.int .i64 x.lot,.int .i64 0,.int .i64 x.fr,.int .i64 x.to,.int .i64 0,.int .i64 0,.slice none 0 0,.slice none 0 0] 24 (0,0)):=by rw[hV2];exact hsc (j:=6) _ kv1
 have s1:=st_int (n:=x.to) kv1 (show 6<11 by omega)
 rw[←hV2]at s1
 clear hV2
 obtain⟨V3,hV3⟩: ∃V:World,V=V2.setCell ⟨w.heap.size+1+1,7,none⟩ (.int .i64 x.parts):=⟨_,rfl⟩
 have g3:w4.grownBy V3 (some (w.heap.size+1+1)):=by rw[hV3];exact g2.trans (gsc V2 ⟨w.heap.size+1+1,7,none⟩ _)
 have kv3:V3.heap[w.heap.size+1+1]?=some (.cells #[.int .i64 x.id,.int .i64 x.day,.int .u8 x.kind,.int .i64 x.lot,.int .i64 0,.int .i64 x.fr,.int .i64 x.to,.int .i64 x.parts,.int .i64 0,.slice none 0 0,.slice none 0 0] 24 (0,0)):=by rw[hV3];exact hsc (j:=7) _ kv2
 have s2:=st_int (n:=x.parts) kv2 (show 7<11 by omega)
 rw[←hV3]at s2
 clear hV3
 have HS:=Lib.hid (show ∀V,w4.grownBy V (some (w.heap.size+1+1))→V.cell? ⟨w.heap.size,5,none⟩=some (.int .i64 x.fr)∧V.cell? ⟨w.heap.size,6,none⟩=some (.int .i64 x.to)∧V.cell? ⟨w.heap.size,7,none⟩=some (.int .i64 x.parts) from fun V hV=>by
  have k:=(hV.block _ (by omega) (by simp<;>omega)).trans kx4
  exact⟨(blk_cells k).1 5,(blk_cells k).1 6,(blk_cells k).1 7⟩)
 go_wp2
 refine wp_region_held_drew (S:=fun V=>V.cell? ⟨w.heap.size,5,none⟩=some (.int .i64 x.fr)∧V.cell? ⟨w.heap.size,6,none⟩=some (.int .i64 x.to)∧V.cell? ⟨w.heap.size,7,none⟩=some (.int .i64 x.parts)) (by kernel_rfl) (by rw[←HV0.out];exact HS.out _ g0) (fun hHeld=> ?_)
 rw[←HV0.out]at hHeld ⊢
 refine takeH 0 (some 43) (v:= ?v7) rfl rfl (by kernel_rfl) (by kernel_rfl) (by kernel_rfl) (fun _ _ _ h=>h) (Or.inl ⟨by rfl,fun W hW=> ?hy7⟩) (by assumption) ?hr7
 case hy7=>(try dsimp only at hW);go_simp;try with_reducible rfl
 try simp only[Act.put,List.setIfInBounds_toArray,List.set_cons_zero,List.set_cons_succ]
 refine takeH 1 (some 44) (v:= ?v8) rfl rfl (by kernel_rfl) (by kernel_rfl) (by kernel_rfl) (fun _ _ _ h=>h) (Or.inl ⟨by rfl,fun W hW=> ?hy8⟩) (by assumption) ?hr8
 case hy8=>(try dsimp only at hW);go_simp;try with_reducible rfl
 try simp only[Act.put,List.setIfInBounds_toArray,List.set_cons_zero,List.set_cons_succ]
 refine takeH 2 (some 45) (v:= ?v9) rfl rfl (by kernel_rfl) (by kernel_rfl) (by kernel_rfl) (fun _ _ _ h=>h) (Or.inl ⟨by rfl,fun W hW=> ?hy9⟩) (by assumption) ?hr9
 case hy9=>(try dsimp only at hW);go_simp;try with_reducible rfl
 try simp only[Act.put,List.setIfInBounds_toArray,List.set_cons_zero,List.set_cons_succ]
 refine takeH 3 (some 46) (v:= ?v10) rfl rfl (by kernel_rfl) (by kernel_rfl) (by kernel_rfl) (fun _ _ _ h=>h) (Or.inl ⟨by rfl,fun W hW=> ?hy10⟩) (by assumption) ?hr10
 case hy10=>(try dsimp only at hW);go_simp;try with_reducible rfl
 try simp only[Act.put,List.setIfInBounds_toArray,List.set_cons_zero,List.set_cons_succ]
 refine takeH 4 (some 47) (v:= ?v11) rfl rfl (by kernel_rfl) (by kernel_rfl) (by kernel_rfl) (fun _ _ _ h=>h) (Or.inl ⟨by rfl,fun W hW=> ?hy11⟩) (by assumption) ?hr11
 case hy11=>(try dsimp only at hW);go_simp;try with_reducible rfl
 try simp only[Act.put,List.setIfInBounds_toArray,List.set_cons_zero,List.set_cons_succ]
 refine takeH 5 (some 48) (v:= ?v12) rfl rfl (by kernel_rfl) (by kernel_rfl) (by kernel_rfl) (fun _ _ _ h=>h) (Or.inl ⟨by rfl,fun W hW=> ?hy12⟩) (by assumption) ?hr12
 case hy12=>(try dsimp only at hW);go_simp;try with_reducible rfl
 try simp only[Act.put,List.setIfInBounds_toArray,List.set_cons_zero,List.set_cons_succ]
 refine takeH 6 (some 49) (v:= ?v13) rfl rfl (by kernel_rfl) (by kernel_rfl) (by kernel_rfl) (fun _ _ _ h=>h) (Or.inl ⟨by rfl,fun W hW=> ?hy13⟩) (by assumption) ?hr13
 case hy13=>(try dsimp only at hW);go_simp;try with_reducible rfl
 try simp only[Act.put,List.setIfInBounds_toArray,List.set_cons_zero,List.set_cons_succ]
 refine wpAnyH_ready (rs:=[7]) (by kernel_rfl) (by simp) ?_
 refine readyH none rfl rfl (fun K hK=> ?_) AllReadyH.nil
 go_simp
 refine hK _ _ (HS.out _ g1) (fun hHeld=> ?_)
 clear hK K
 try simp only[Act.put,List.setIfInBounds_toArray,List.set_cons_zero,List.set_cons_succ]
 refine takeH 8 (some 50) (v:= ?v14) rfl rfl (by kernel_rfl) (by kernel_rfl) (by kernel_rfl) (fun _ _ _ h=>h) (Or.inl ⟨by rfl,fun W hW=> ?hy14⟩) (by assumption) ?hr14
 case hy14=>(try dsimp only at hW);go_simp;try with_reducible rfl
 try simp only[Act.put,List.setIfInBounds_toArray,List.set_cons_zero,List.set_cons_succ]
 refine wpAnyH_ready (rs:=[9]) (by kernel_rfl) (by simp) ?_
 refine readyH none rfl rfl (fun K hK=> ?_) AllReadyH.nil
 go_simp
 refine hK _ _ (HS.out _ g2) (fun hHeld=> ?_)
 clear hK K
 try simp only[Act.put,List.setIfInBounds_toArray,List.set_cons_zero,List.set_cons_succ]
 refine takeH 10 (some 51) (v:= ?v15) rfl rfl (by kernel_rfl) (by kernel_rfl) (by kernel_rfl) (fun _ _ _ h=>h) (Or.inl ⟨by rfl,fun W hW=> ?hy15⟩) (by assumption) ?hr15
 case hy15=>(try dsimp only at hW);go_simp;try with_reducible rfl
 try simp only[Act.put,List.setIfInBounds_toArray,List.set_cons_zero,List.set_cons_succ]
 refine wpAnyH_ready (rs:=[11]) (by kernel_rfl) (by simp) ?_
 refine readyH none rfl rfl (fun K hK=> ?_) AllReadyH.nil
 go_simp
 refine hK _ _ (HS.out _ g3) (fun hHeld=> ?_)
 clear hK K
 try simp only[Act.put,List.setIfInBounds_toArray,List.set_cons_zero,List.set_cons_succ]
 refine wpAnyH_done (by kernel_rfl) ?_ _
 have g5:=g3
 have ko5:=kv3
 clear s0 s1 s2
 have kx5:=(g5.block w.heap.size (by omega) (by simp<;>omega)).trans kx4
 have kr5:=(g5.block (w.heap.size+1) (by omega) (by simp<;>omega)).trans kr4
 have b5:Below w.heap.size w V3:=b4.grown g5 (by omega) (by intro k e;cases e;omega)
 have z5:w.heap.size+1+1<V3.heap.size:=(Array.getElem?_eq_some_iff.1 ko5).1
 obtain⟨hcx5,hfx5⟩:=blk_cells kx5
 cases p with
 |false=>
  have l1:=ld_row ko5 Tryz.underlying24 rfl info_deal
  obtain⟨wF,stF,krF,gF⟩:=st_row V3 (w.heap.size+1) 24 24 zcs #[.int .i64 x.id,.int .i64 x.day,.int .u8 x.kind,.int .i64 x.lot,.int .i64 0,.int .i64 x.fr,.int .i64 x.to,.int .i64 x.parts,.int .i64 0,.slice none 0 0,.slice none 0 0] kr5 info_deal rfl (by simp[Value.oneCell'])
  have l2:=ld_row krF Tryz.underlying24 rfl info_deal
  have bF:Below w.heap.size w wF:=b5.grown gF (by omega) (by intro k e;cases e;omega)
  go_wp2
  refine bodyPost_ret (v:=.tuple #[.agg #[.int .i64 x.id,.int .i64 x.day,.int .u8 x.kind,.int .i64 x.lot,.int .i64 0,.int .i64 x.fr,.int .i64 x.to,.int .i64 x.parts,.int .i64 0,.slice none 0 0,.slice none 0 0],.bool false]) (by simp[results,Tryz.results97,go_sem,l2]) rfl ?_
  exact⟨Rt.keep2 x,none,none,0,0,false,rfl,⟨.inl rfl,.inl rfl,(by simp[Rt.keep2]),(by simp[Rt.keep2])⟩,bF,(by unfold Rt.body;rw[HK.out];simp only[Rt.only2,HP.out];(try cases Rt.sameD x (Rt.keep2 x))<;>simp[Bool.and_comm])⟩
 |true=>
  have n6:=named_2 (heap_alloc_new V3 (.cells #[.int .i64 x.fr,.int .i64 x.to] 3))
  obtain⟨q,hq⟩: ∃q,(Rt.isId x.fr&&Rt.isId x.to)=q:=⟨_,rfl⟩
  rw[hq]at n6
  have HQ:=Lib.hid hq
  clear hq
  go_wp2_with fail
  refine n6.mono ?_
  clear n6
  rintro e w6 ⟨rfl,hx6⟩
  have b56:Below V3.heap.size V3 (V3.alloc (.cells #[.int .i64 x.fr,.int .i64 x.to] 3)):=by go_grown
  have b6':Below V3.heap.size V3 w6:=b56.trans (hx6.mono b56.size)
  have kx6:=(b6'.block _ (by omega)).trans kx5
  have kr6:=(b6'.block _ (by omega)).trans kr5
  have ko6:=(b6'.block _ (by omega)).trans ko5
  have b6:Below w.heap.size w w6:=b5.trans (b6'.mono (by omega))
  have z6:w.heap.size+1+1<w6.heap.size:=(Array.getElem?_eq_some_iff.1 ko6).1
  obtain⟨hcx6,hfx6⟩:=blk_cells kx6
  clear hx6
  cases q with
  |false=>
   have l1:=ld_row ko6 Tryz.underlying24 rfl info_deal
   obtain⟨wF,stF,krF,gF⟩:=st_row w6 (w.heap.size+1) 24 24 zcs #[.int .i64 x.id,.int .i64 x.day,.int .u8 x.kind,.int .i64 x.lot,.int .i64 0,.int .i64 x.fr,.int .i64 x.to,.int .i64 x.parts,.int .i64 0,.slice none 0 0,.slice none 0 0] kr6 info_deal rfl (by simp[Value.oneCell'])
   have l2:=ld_row krF Tryz.underlying24 rfl info_deal
   have bF:Below w.heap.size w wF:=b6.grown gF (by omega) (by intro k e;cases e;omega)
   go_wp2
   refine bodyPost_ret (v:=.tuple #[.agg #[.int .i64 x.id,.int .i64 x.day,.int .u8 x.kind,.int .i64 x.lot,.int .i64 0,.int .i64 x.fr,.int .i64 x.to,.int .i64 x.parts,.int .i64 0,.slice none 0 0,.slice none 0 0],.bool false]) (by simp[results,Tryz.results97,go_sem,l2]) rfl ?_
   exact⟨Rt.keep2 x,none,none,0,0,false,rfl,⟨.inl rfl,.inl rfl,(by simp[Rt.keep2]),(by simp[Rt.keep2])⟩,bF,(by unfold Rt.body;rw[HK.out];simp only[Rt.only2,HP.out];have hq:=HQ.out;cases h1:Rt.isId x.fr<;>cases h2:Rt.isId x.to<;>simp[h1,h2]at hq ⊢)⟩
  |true=>
   have hq2:=HQ.out
   rw[Bool.and_eq_true]at hq2
   have HQ1:=Lib.hid hq2.1
   have HQ2:=Lib.hid hq2.2
   clear hq2
   by_cases hne:x.fr=x.to
   ·have hd:(x.fr !=x.to)=false:=by simp[hne]
    have HD:=Lib.hid hd
    clear hne
    have l1:=ld_row ko6 Tryz.underlying24 rfl info_deal
    obtain⟨wF,stF,krF,gF⟩:=st_row w6 (w.heap.size+1) 24 24 zcs #[.int .i64 x.id,.int .i64 x.day,.int .u8 x.kind,.int .i64 x.lot,.int .i64 0,.int .i64 x.fr,.int .i64 x.to,.int .i64 x.parts,.int .i64 0,.slice none 0 0,.slice none 0 0] kr6 info_deal rfl (by simp[Value.oneCell'])
    have l2:=ld_row krF Tryz.underlying24 rfl info_deal
    have bF:Below w.heap.size w wF:=b6.grown gF (by omega) (by intro k e;cases e;omega)
    go_wp2
    refine bodyPost_ret (v:=.tuple #[.agg #[.int .i64 x.id,.int .i64 x.day,.int .u8 x.kind,.int .i64 x.lot,.int .i64 0,.int .i64 x.fr,.int .i64 x.to,.int .i64 x.parts,.int .i64 0,.slice none 0 0,.slice none 0 0],.bool false]) (by simp[results,Tryz.results97,go_sem,l2]) rfl ?_
    exact⟨Rt.keep2 x,none,none,0,0,false,rfl,⟨.inl rfl,.inl rfl,(by simp[Rt.keep2]),(by simp[Rt.keep2])⟩,bF,(by unfold Rt.body;rw[HK.out];simp only[Rt.only2,HP.out,HQ1.out,HQ2.out,HD.out];(try cases Rt.sameD x (Rt.keep2 x))<;>simp[Bool.and_comm])⟩
   ·have hd:(x.fr !=x.to)=true:=by simpa using hne
    have HD:=Lib.hid hd
    clear hne
    go_wp2_with fail
    refine(within_a _ _ _ _).mono ?_
    rintro e w' ⟨rfl,rfl⟩
    have l1:=ld_row ko6 Tryz.underlying24 rfl info_deal
    obtain⟨wF,stF,krF,gF⟩:=st_row w6 (w.heap.size+1) 24 24 zcs #[.int .i64 x.id,.int .i64 x.day,.int .u8 x.kind,.int .i64 x.lot,.int .i64 0,.int .i64 x.fr,.int .i64 x.to,.int .i64 x.parts,.int .i64 0,.slice none 0 0,.slice none 0 0] kr6 info_deal rfl (by simp[Value.oneCell'])
    have l2:=ld_row krF Tryz.underlying24 rfl info_deal
    have bF:Below w.heap.size w wF:=b6.grown gF (by omega) (by intro k e;cases e;omega)
    go_wp2
    refine bodyPost_ret (v:=.tuple #[.agg #[.int .i64 x.id,.int .i64 x.day,.int .u8 x.kind,.int .i64 x.lot,.int .i64 0,.int .i64 x.fr,.int .i64 x.to,.int .i64 x.parts,.int .i64 0,.slice none 0 0,.slice none 0 0],.bool (Rt.inR x.parts 1 5040)]) (by simp[results,Tryz.results97,go_sem,l2]) rfl ?_
    exact⟨Rt.keep2 x,none,none,0,0,(Rt.inR x.parts 1 5040),rfl,⟨.inl rfl,.inl rfl,(by simp[Rt.keep2]),(by simp[Rt.keep2])⟩,bF,(by unfold Rt.body;rw[HK.out];simp only[Rt.only2,HP.out,HQ1.out,HQ2.out,HD.out];(try cases Rt.sameD x (Rt.keep2 x))<;>simp[Bool.and_comm])⟩
end Go.Proofs.YtcffonnijhhhiaaGreatDoor
