/- Part U14 of the proof: Kp7 Kp8 Cd Ey. -/
import Derived.Test.YtcffonnijhhhiaaGreatDoorProg
import Derived.WalkKit
import Derived.WalkLawsBesides
import Derived.WalkSpells
import Derived.Handy
import Derived.Lib.Hide
import Derived.Great.BuildSlice
import Derived.Deep.QuietTactic
import Derived.BigQuiet
import Derived.Deep.RegionHeld3
import Derived.Deep.DeepCutAuto
import Derived.WideKeyEntry
import Derived.Test.YtcffonnijhhhiaaGreatDoorU10
import Derived.Test.YtcffonnijhhhiaaGreatDoorU11
import Derived.Test.YtcffonnijhhhiaaGreatDoorU12
import Derived.Test.YtcffonnijhhhiaaGreatDoorU13
import Derived.Test.YtcffonnijhhhiaaGreatDoorU02
set_option linter.all false
set_option linter.unusedSimpArgs false
set_option linter.unusedVariables false
set_option linter.unusedSectionVars false
namespace Go.Proofs.YtcffonnijhhhiaaGreatDoor
open Go Go.RowKit Mp
attribute [-go_sem] loadVar storeVar
attribute [local go_sem] lk_int lk_u8 lk_ints
set_option maxRecDepth 100000 in
set_option maxHeartbeats 4000000 in
theorem kept_7 (x:Dl)(hk:x.kind=7)(A1 A2:Option Addr)(c1 c2:Nat)(w:World)(hx:DS w w.heap.size A1 A2 x)(hcap:x.into.length≤c1):
  Calls Tryz.prog 97 #[.agg (xcs x A1 A2 c1 c2)] w (EndKp x w):=by
 obtain⟨w1,hw1⟩: ∃w1:World,w1=(w.alloc (oDl x A1 A2 c1 c2)).alloc (.cells zcs 24):=⟨_,rfl⟩
 have kx1:w1.heap[w.heap.size]?=some (oDl x A1 A2 c1 c2):=by rw[hw1];exact(Below.heap_alloc _ _ _ (by simp)).trans (heap_alloc_new w _)
 have kr1:w1.heap[w.heap.size+1]?=some (.cells zcs 24 (0,0)):=by rw[hw1];exact heap_at (by simp)
 have z1:w1.heap.size=w.heap.size+1+1:=by rw[hw1];simp
 have b1:Below w.heap.size w w1:=by rw[hw1];go_grown
 have kz2:(w1.alloc (.cells zcs 24)).heap[w.heap.size+1+1]?=some (.cells zcs 24 (0,0)):=heap_at z1
 have ba:Below w1.heap.size w1 (w1.alloc (.cells zcs 24)):=by go_grown
 obtain⟨w3,st3,ko3,g3⟩:=st_row _ (w.heap.size+1+1) 24 24 zcs #[.int .i64 x.id,.int .i64 x.day,.int .u8 x.kind,.int .i64 x.lot,.int .i64 0,.int .i64 0,.int .i64 0,.int .i64 0,.int .i64 0,.slice none 0 0,.slice none 0 0] kz2 info_deal rfl (by simp[Value.oneCell'])
 rw[hw1]at st3
 have z3:w.heap.size+1+1<w3.heap.size:=(Array.getElem?_eq_some_iff.1 ko3).1
 have kx3:=(g3.block w.heap.size (by simp;omega) (by simp<;>omega)).trans ((ba.block _ (by omega)).trans kx1)
 have kr3:=(g3.block (w.heap.size+1) (by simp;omega) (by simp<;>omega)).trans ((ba.block _ (by omega)).trans kr1)
 have b3:Below w.heap.size w w3:=(b1.trans (ba.mono (by omega))).grown g3 (by simp;omega) (by intro k e;cases e;omega)
 have n3:=named_1 (heap_alloc_new w3 (.cells #[.int .i64 x.lot] 3))
 obtain⟨hcx1,hfx1⟩:=blk_cells kx1
 obtain⟨hcx3,hfx3⟩:=blk_cells kx3
 have q1:(((x.kind:Nat):Int)==1)=false:=by rw[beq_eq_false_iff_ne];omega
 have q2:(((x.kind:Nat):Int)==2)=false:=by rw[beq_eq_false_iff_ne];omega
 have q3:(((x.kind:Nat):Int)==3)=false:=by rw[beq_eq_false_iff_ne];omega
 have q4:(((x.kind:Nat):Int)==4)=false:=by rw[beq_eq_false_iff_ne];omega
 have q5:(((x.kind:Nat):Int)==5)=false:=by rw[beq_eq_false_iff_ne];omega
 have q6:(((x.kind:Nat):Int)==6)=false:=by rw[beq_eq_false_iff_ne];omega
 have q7:(((x.kind:Nat):Int)==7)=true:=by rw[beq_iff_eq];omega
 have HX:=Lib.hid hx
 have HK:=Lib.hid hk
 clear hw1 hk hx
 go_enter Tryz.func97,Tryz.ntmps97
 go_wp2_with fail
 refine n3.mono ?_
 clear n3
 rintro e w4 ⟨rfl,hx4⟩
 have b34:Below w3.heap.size w3 (w3.alloc (.cells #[.int .i64 x.lot] 3)):=by go_grown
 have b4':Below w3.heap.size w3 w4:=b34.trans (hx4.mono b34.size)
 have b4:Below w.heap.size w w4:=b3.trans (b4'.mono (by omega))
 have kx4:=(b4'.block _ (by omega)).trans kx3
 have kr4:=(b4'.block _ (by omega)).trans kr3
 have ko4:=(b4'.block _ z3).trans ko3
 have z4:w.heap.size+1+1<w4.heap.size:=(Array.getElem?_eq_some_iff.1 ko4).1
 clear hx4 kx3 kr3 ko3 hcx3 hfx3 hcx1 hfx1 st3
 obtain⟨hcx,hfx⟩:=blk_cells kx4
 obtain⟨p,hp⟩: ∃p,Rt.isId x.lot=p:=⟨_,rfl⟩
 rw[hp]
 have HP:=Lib.hid hp
 clear hp
 obtain⟨V0,hV0⟩: ∃V:World,V=w4.drew:=⟨_,rfl⟩
 have g0:w4.grownBy V0 (some (w.heap.size+1+1)):=by rw[hV0];exact⟨rfl,rfl,rfl,Nat.le_refl _,fun _ _ _=>rfl⟩
 have kv0:V0.heap[w.heap.size+1+1]?=some (.cells #[.int .i64 x.id,.int .i64 x.day,.int .u8 x.kind,.int .i64 x.lot,.int .i64 0,.int .i64 0,.int .i64 0,.int .i64 0,.int .i64 0,.slice none 0 0,.slice none 0 0] 24 (0,0)):=by rw[hV0];exact ko4
 have HV0:=Lib.hid hV0
 clear hV0
 obtain⟨V1,hV1⟩: ∃V:World,V=V0.setCell ⟨w.heap.size+1+1,6,none⟩ (.int .i64 x.to):=⟨_,rfl⟩
 have g1:w4.grownBy V1 (some (w.heap.size+1+1)):=by rw[hV1];exact g0.trans (gsc V0 ⟨w.heap.size+1+1,6,none⟩ _)
 have kv1:V1.heap[w.heap.size+1+1]?=some (.cells #[.int .i64 x.id,.int .i64 x.day,.int .u8 x.kind,.int .i64 x.lot,.int .i64 0,.int .i64 0,.int .i64 x.to,.int .i64 0,.int .i64 0,.slice none 0 0,.slice none 0 0] 24 (0,0)):=by rw[hV1];exact hsc (j:=6) _ kv0
 have s0:=st_int (n:=x.to) kv0 (show 6<11 by omega)
 rw[←hV1]at s0
 clear hV1
 obtain⟨V2,hV2⟩: ∃V:World,V=V1.setCell ⟨w.heap.size+1+1,8,none⟩ (.int .i64 x.size):=⟨_,rfl⟩
 have g2:w4.grownBy V2 (some (w.heap.size+1+1)):=by rw[hV2];exact g1.trans (gsc V1 ⟨w.heap.size+1+1,8,none⟩ _)
 have kv2:V2.heap[w.heap.size+1+1]?=some (.cells #[.int .i64 x.id,.int .i64 x.day,.int .u8 x.kind,.int .i64 x.lot,.int .i64 0,.int .i64 0,.int .i64 x.to,.int .i64 0,.int .i64 x.size,.slice none 0 0,.slice none 0 0] 24 (0,0)):=by rw[hV2];exact hsc (j:=8) _ kv1
 have s1:=st_int (n:=x.size) kv1 (show 8<11 by omega)
 rw[←hV2]at s1
 clear hV2
 have HS:=Lib.hid (show ∀V,w4.grownBy V (some (w.heap.size+1+1))→V.cell? ⟨w.heap.size,6,none⟩=some (.int .i64 x.to)∧V.cell? ⟨w.heap.size,8,none⟩=some (.int .i64 x.size) from fun V hV=>by
  have k:=(hV.block _ (by omega) (by simp<;>omega)).trans kx4
  exact⟨(blk_cells k).1 6,(blk_cells k).1 8⟩)
 go_wp2
 refine wp_region_held_drew (S:=fun V=>V.cell? ⟨w.heap.size,6,none⟩=some (.int .i64 x.to)∧V.cell? ⟨w.heap.size,8,none⟩=some (.int .i64 x.size)) (by kernel_rfl) (by rw[←HV0.out];exact HS.out _ g0) (fun hHeld=> ?_)
 rw[←HV0.out]at hHeld ⊢
 refine takeH 0 (some 135) (v:= ?v22) rfl rfl (by kernel_rfl) (by kernel_rfl) (by kernel_rfl) (fun _ _ _ h=>h) (Or.inl ⟨by rfl,fun W hW=> ?hy22⟩) (by assumption) ?hr22
 case hy22=>(try dsimp only at hW);go_simp;try with_reducible rfl
 try simp only[Act.put,List.setIfInBounds_toArray,List.set_cons_zero,List.set_cons_succ]
 refine takeH 1 (some 136) (v:= ?v23) rfl rfl (by kernel_rfl) (by kernel_rfl) (by kernel_rfl) (fun _ _ _ h=>h) (Or.inl ⟨by rfl,fun W hW=> ?hy23⟩) (by assumption) ?hr23
 case hy23=>(try dsimp only at hW);go_simp;try with_reducible rfl
 try simp only[Act.put,List.setIfInBounds_toArray,List.set_cons_zero,List.set_cons_succ]
 refine takeH 2 (some 137) (v:= ?v24) rfl rfl (by kernel_rfl) (by kernel_rfl) (by kernel_rfl) (fun _ _ _ h=>h) (Or.inl ⟨by rfl,fun W hW=> ?hy24⟩) (by assumption) ?hr24
 case hy24=>(try dsimp only at hW);go_simp;try with_reducible rfl
 try simp only[Act.put,List.setIfInBounds_toArray,List.set_cons_zero,List.set_cons_succ]
 refine takeH 3 (some 138) (v:= ?v25) rfl rfl (by kernel_rfl) (by kernel_rfl) (by kernel_rfl) (fun _ _ _ h=>h) (Or.inl ⟨by rfl,fun W hW=> ?hy25⟩) (by assumption) ?hr25
 case hy25=>(try dsimp only at hW);go_simp;try with_reducible rfl
 try simp only[Act.put,List.setIfInBounds_toArray,List.set_cons_zero,List.set_cons_succ]
 refine takeH 4 (some 139) (v:= ?v26) rfl rfl (by kernel_rfl) (by kernel_rfl) (by kernel_rfl) (fun _ _ _ h=>h) (Or.inl ⟨by rfl,fun W hW=> ?hy26⟩) (by assumption) ?hr26
 case hy26=>(try dsimp only at hW);go_simp;try with_reducible rfl
 try simp only[Act.put,List.setIfInBounds_toArray,List.set_cons_zero,List.set_cons_succ]
 refine wpAnyH_ready (rs:=[5]) (by kernel_rfl) (by simp) ?_
 refine readyH none rfl rfl (fun K hK=> ?_) AllReadyH.nil
 go_simp
 refine hK _ _ (HS.out _ g1) (fun hHeld=> ?_)
 clear hK K
 try simp only[Act.put,List.setIfInBounds_toArray,List.set_cons_zero,List.set_cons_succ]
 refine takeH 6 (some 140) (v:= ?v27) rfl rfl (by kernel_rfl) (by kernel_rfl) (by kernel_rfl) (fun _ _ _ h=>h) (Or.inl ⟨by rfl,fun W hW=> ?hy27⟩) (by assumption) ?hr27
 case hy27=>(try dsimp only at hW);go_simp;try with_reducible rfl
 try simp only[Act.put,List.setIfInBounds_toArray,List.set_cons_zero,List.set_cons_succ]
 refine wpAnyH_ready (rs:=[7]) (by kernel_rfl) (by simp) ?_
 refine readyH none rfl rfl (fun K hK=> ?_) AllReadyH.nil
 go_simp
 refine hK _ _ (HS.out _ g2) (fun hHeld=> ?_)
 clear hK K
 try simp only[Act.put,List.setIfInBounds_toArray,List.set_cons_zero,List.set_cons_succ]
 refine wpAnyH_done (by kernel_rfl) ?_ _
 have g5:=g2
 have ko5:=kv2
 clear s0 s1
 have kx5:=(g5.block w.heap.size (by omega) (by simp<;>omega)).trans kx4
 have kr5:=(g5.block (w.heap.size+1) (by omega) (by simp<;>omega)).trans kr4
 have b5:Below w.heap.size w V2:=b4.grown g5 (by omega) (by intro k e;cases e;omega)
 have z5:w.heap.size+1+1<V2.heap.size:=(Array.getElem?_eq_some_iff.1 ko5).1
 obtain⟨hcx5,hfx5⟩:=blk_cells kx5
 cases p with
 |false=>
  have l1:=ld_row ko5 Tryz.underlying24 rfl info_deal
  obtain⟨wF,stF,krF,gF⟩:=st_row V2 (w.heap.size+1) 24 24 zcs #[.int .i64 x.id,.int .i64 x.day,.int .u8 x.kind,.int .i64 x.lot,.int .i64 0,.int .i64 0,.int .i64 x.to,.int .i64 0,.int .i64 x.size,.slice none 0 0,.slice none 0 0] kr5 info_deal rfl (by simp[Value.oneCell'])
  have l2:=ld_row krF Tryz.underlying24 rfl info_deal
  have bF:Below w.heap.size w wF:=b5.grown gF (by omega) (by intro k e;cases e;omega)
  go_wp2
  refine bodyPost_ret (v:=.tuple #[.agg #[.int .i64 x.id,.int .i64 x.day,.int .u8 x.kind,.int .i64 x.lot,.int .i64 0,.int .i64 0,.int .i64 x.to,.int .i64 0,.int .i64 x.size,.slice none 0 0,.slice none 0 0],.bool false]) (by simp[results,Tryz.results97,go_sem,l2]) rfl ?_
  exact⟨Rt.keep1 x,none,none,0,0,false,rfl,⟨.inl rfl,.inl rfl,(by simp[Rt.keep1]),(by simp[Rt.keep1])⟩,bF,(by unfold Rt.body;rw[HK.out];simp only[Rt.only1,HP.out];(try cases Rt.sameD x (Rt.keep1 x))<;>simp[Bool.and_comm])⟩
 |true=>
  have n6:=named_1 (heap_alloc_new V2 (.cells #[.int .i64 x.to] 3))
  obtain⟨q,hq⟩: ∃q,Rt.isId x.to=q:=⟨_,rfl⟩
  rw[hq]at n6
  have HQ:=Lib.hid hq
  clear hq
  go_wp2_with fail
  refine n6.mono ?_
  clear n6
  rintro e w6 ⟨rfl,hx6⟩
  have b56:Below V2.heap.size V2 (V2.alloc (.cells #[.int .i64 x.to] 3)):=by go_grown
  have b6':Below V2.heap.size V2 w6:=b56.trans (hx6.mono b56.size)
  have kx6:=(b6'.block _ (by omega)).trans kx5
  have kr6:=(b6'.block _ (by omega)).trans kr5
  have ko6:=(b6'.block _ (by omega)).trans ko5
  have b6:Below w.heap.size w w6:=b5.trans (b6'.mono (by omega))
  have z6:w.heap.size+1+1<w6.heap.size:=(Array.getElem?_eq_some_iff.1 ko6).1
  obtain⟨hcx6,hfx6⟩:=blk_cells kx6
  clear hx6
  cases q with
  |false=>
   have l1:=ld_row ko6 Tryz.underlying24 rfl info_deal
   obtain⟨wF,stF,krF,gF⟩:=st_row w6 (w.heap.size+1) 24 24 zcs #[.int .i64 x.id,.int .i64 x.day,.int .u8 x.kind,.int .i64 x.lot,.int .i64 0,.int .i64 0,.int .i64 x.to,.int .i64 0,.int .i64 x.size,.slice none 0 0,.slice none 0 0] kr6 info_deal rfl (by simp[Value.oneCell'])
   have l2:=ld_row krF Tryz.underlying24 rfl info_deal
   have bF:Below w.heap.size w wF:=b6.grown gF (by omega) (by intro k e;cases e;omega)
   go_wp2
   refine bodyPost_ret (v:=.tuple #[.agg #[.int .i64 x.id,.int .i64 x.day,.int .u8 x.kind,.int .i64 x.lot,.int .i64 0,.int .i64 0,.int .i64 x.to,.int .i64 0,.int .i64 x.size,.slice none 0 0,.slice none 0 0],.bool false]) (by simp[results,Tryz.results97,go_sem,l2]) rfl ?_
   exact⟨Rt.keep1 x,none,none,0,0,false,rfl,⟨.inl rfl,.inl rfl,(by simp[Rt.keep1]),(by simp[Rt.keep1])⟩,bF,(by unfold Rt.body;rw[HK.out];simp only[Rt.only1,HP.out,HQ.out];(try cases Rt.sameD x (Rt.keep1 x))<;>simp[Bool.and_comm])⟩
  |true=>
   go_wp2_with fail
   refine(within_a _ _ _ _).mono ?_
   rintro e w' ⟨rfl,rfl⟩
   have l1:=ld_row ko6 Tryz.underlying24 rfl info_deal
   obtain⟨wF,stF,krF,gF⟩:=st_row w6 (w.heap.size+1) 24 24 zcs #[.int .i64 x.id,.int .i64 x.day,.int .u8 x.kind,.int .i64 x.lot,.int .i64 0,.int .i64 0,.int .i64 x.to,.int .i64 0,.int .i64 x.size,.slice none 0 0,.slice none 0 0] kr6 info_deal rfl (by simp[Value.oneCell'])
   have l2:=ld_row krF Tryz.underlying24 rfl info_deal
   have bF:Below w.heap.size w wF:=b6.grown gF (by omega) (by intro k e;cases e;omega)
   go_wp2
   refine bodyPost_ret (v:=.tuple #[.agg #[.int .i64 x.id,.int .i64 x.day,.int .u8 x.kind,.int .i64 x.lot,.int .i64 0,.int .i64 0,.int .i64 x.to,.int .i64 0,.int .i64 x.size,.slice none 0 0,.slice none 0 0],.bool (Rt.inR x.size 1 1000)]) (by simp[results,Tryz.results97,go_sem,l2]) rfl ?_
   exact⟨Rt.keep1 x,none,none,0,0,(Rt.inR x.size 1 1000),rfl,⟨.inl rfl,.inl rfl,(by simp[Rt.keep1]),(by simp[Rt.keep1])⟩,bF,(by unfold Rt.body;rw[HK.out];simp only[Rt.only1,HP.out,HQ.out];(try cases Rt.sameD x (Rt.keep1 x))<;>simp[Bool.and_comm])⟩
end Go.Proofs.YtcffonnijhhhiaaGreatDoor
namespace Go.Proofs.YtcffonnijhhhiaaGreatDoor
open Go Go.RowKit Mp
attribute [-go_sem] loadVar storeVar
attribute [local go_sem] lk_int lk_u8 lk_ints
set_option maxRecDepth 100000 in
set_option maxHeartbeats 4000000 in
theorem kept_8 (x:Dl)(hk:x.kind=8)(A1 A2:Option Addr)(c1 c2:Nat)(w:World)(hx:DS w w.heap.size A1 A2 x)(hcap:x.into.length≤c1):
  Calls Tryz.prog 97 #[.agg (xcs x A1 A2 c1 c2)] w (EndKp x w):=by
 obtain⟨w1,hw1⟩: ∃w1:World,w1=(w.alloc (oDl x A1 A2 c1 c2)).alloc (.cells zcs 24):=⟨_,rfl⟩
 have kx1:w1.heap[w.heap.size]?=some (oDl x A1 A2 c1 c2):=by rw[hw1];exact(Below.heap_alloc _ _ _ (by simp)).trans (heap_alloc_new w _)
 have kr1:w1.heap[w.heap.size+1]?=some (.cells zcs 24 (0,0)):=by rw[hw1];exact heap_at (by simp)
 have z1:w1.heap.size=w.heap.size+1+1:=by rw[hw1];simp
 have b1:Below w.heap.size w w1:=by rw[hw1];go_grown
 have kz2:(w1.alloc (.cells zcs 24)).heap[w.heap.size+1+1]?=some (.cells zcs 24 (0,0)):=heap_at z1
 have ba:Below w1.heap.size w1 (w1.alloc (.cells zcs 24)):=by go_grown
 obtain⟨w3,st3,ko3,g3⟩:=st_row _ (w.heap.size+1+1) 24 24 zcs #[.int .i64 x.id,.int .i64 x.day,.int .u8 x.kind,.int .i64 x.lot,.int .i64 0,.int .i64 0,.int .i64 0,.int .i64 0,.int .i64 0,.slice none 0 0,.slice none 0 0] kz2 info_deal rfl (by simp[Value.oneCell'])
 rw[hw1]at st3
 have z3:w.heap.size+1+1<w3.heap.size:=(Array.getElem?_eq_some_iff.1 ko3).1
 have kx3:=(g3.block w.heap.size (by simp;omega) (by simp<;>omega)).trans ((ba.block _ (by omega)).trans kx1)
 have kr3:=(g3.block (w.heap.size+1) (by simp;omega) (by simp<;>omega)).trans ((ba.block _ (by omega)).trans kr1)
 have b3:Below w.heap.size w w3:=(b1.trans (ba.mono (by omega))).grown g3 (by simp;omega) (by intro k e;cases e;omega)
 have n3:=named_1 (heap_alloc_new w3 (.cells #[.int .i64 x.lot] 3))
 obtain⟨hcx1,hfx1⟩:=blk_cells kx1
 obtain⟨hcx3,hfx3⟩:=blk_cells kx3
 have q1:(((x.kind:Nat):Int)==1)=false:=by rw[beq_eq_false_iff_ne];omega
 have q2:(((x.kind:Nat):Int)==2)=false:=by rw[beq_eq_false_iff_ne];omega
 have q3:(((x.kind:Nat):Int)==3)=false:=by rw[beq_eq_false_iff_ne];omega
 have q4:(((x.kind:Nat):Int)==4)=false:=by rw[beq_eq_false_iff_ne];omega
 have q5:(((x.kind:Nat):Int)==5)=false:=by rw[beq_eq_false_iff_ne];omega
 have q6:(((x.kind:Nat):Int)==6)=false:=by rw[beq_eq_false_iff_ne];omega
 have q7:(((x.kind:Nat):Int)==7)=false:=by rw[beq_eq_false_iff_ne];omega
 have q8:(((x.kind:Nat):Int)==8)=true:=by rw[beq_iff_eq];omega
 have HX:=Lib.hid hx
 have HK:=Lib.hid hk
 clear hw1 hk hx
 go_enter Tryz.func97,Tryz.ntmps97
 go_wp2_with fail
 refine n3.mono ?_
 clear n3
 rintro e w4 ⟨rfl,hx4⟩
 have b34:Below w3.heap.size w3 (w3.alloc (.cells #[.int .i64 x.lot] 3)):=by go_grown
 have b4':Below w3.heap.size w3 w4:=b34.trans (hx4.mono b34.size)
 have b4:Below w.heap.size w w4:=b3.trans (b4'.mono (by omega))
 have kx4:=(b4'.block _ (by omega)).trans kx3
 have kr4:=(b4'.block _ (by omega)).trans kr3
 have ko4:=(b4'.block _ z3).trans ko3
 have z4:w.heap.size+1+1<w4.heap.size:=(Array.getElem?_eq_some_iff.1 ko4).1
 clear hx4 kx3 kr3 ko3 hcx3 hfx3 hcx1 hfx1 st3
 obtain⟨hcx,hfx⟩:=blk_cells kx4
 obtain⟨p,hp⟩: ∃p,Rt.isId x.lot=p:=⟨_,rfl⟩
 rw[hp]
 have HP:=Lib.hid hp
 clear hp
 obtain⟨w5,hw5⟩: ∃w5:World,w5=w4.setCell ⟨w.heap.size+1+1,6,none⟩ (.int .i64 x.to):=⟨_,rfl⟩
 have g5:w4.grownBy w5 (some (w.heap.size+1+1)):=by rw[hw5];exact gsc w4 ⟨w.heap.size+1+1,6,none⟩ _
 have ko5:w5.heap[w.heap.size+1+1]?=some (.cells #[.int .i64 x.id,.int .i64 x.day,.int .u8 x.kind,.int .i64 x.lot,.int .i64 0,.int .i64 0,.int .i64 x.to,.int .i64 0,.int .i64 0,.slice none 0 0,.slice none 0 0] 24 (0,0)):=by rw[hw5];exact hsc (j:=6) _ ko4
 have s5:=st_int (n:=x.to) ko4 (show 6<11 by omega)
 rw[←hw5]at s5
 clear hw5
 have kx5:=(g5.block w.heap.size (by omega) (by simp<;>omega)).trans kx4
 have kr5:=(g5.block (w.heap.size+1) (by omega) (by simp<;>omega)).trans kr4
 have b5:Below w.heap.size w w5:=b4.grown g5 (by omega) (by intro k e;cases e;omega)
 have z5:w.heap.size+1+1<w5.heap.size:=(Array.getElem?_eq_some_iff.1 ko5).1
 obtain⟨hcx5,hfx5⟩:=blk_cells kx5
 cases p with
 |false=>
  have l1:=ld_row ko5 Tryz.underlying24 rfl info_deal
  obtain⟨wF,stF,krF,gF⟩:=st_row w5 (w.heap.size+1) 24 24 zcs #[.int .i64 x.id,.int .i64 x.day,.int .u8 x.kind,.int .i64 x.lot,.int .i64 0,.int .i64 0,.int .i64 x.to,.int .i64 0,.int .i64 0,.slice none 0 0,.slice none 0 0] kr5 info_deal rfl (by simp[Value.oneCell'])
  have l2:=ld_row krF Tryz.underlying24 rfl info_deal
  have bF:Below w.heap.size w wF:=b5.grown gF (by omega) (by intro k e;cases e;omega)
  go_wp2
  refine bodyPost_ret (v:=.tuple #[.agg #[.int .i64 x.id,.int .i64 x.day,.int .u8 x.kind,.int .i64 x.lot,.int .i64 0,.int .i64 0,.int .i64 x.to,.int .i64 0,.int .i64 0,.slice none 0 0,.slice none 0 0],.bool false]) (by simp[results,Tryz.results97,go_sem,l2]) rfl ?_
  exact⟨Rt.keep8 x,none,none,0,0,false,rfl,⟨.inl rfl,.inl rfl,(by simp[Rt.keep8]),(by simp[Rt.keep8])⟩,bF,(by unfold Rt.body;rw[HK.out];simp only[Rt.only8,HP.out];(try cases Rt.sameD x (Rt.keep8 x))<;>simp[Bool.and_comm])⟩
 |true=>
  have n6:=named_1 (heap_alloc_new w5 (.cells #[.int .i64 x.to] 3))
  obtain⟨q,hq⟩: ∃q,Rt.isId x.to=q:=⟨_,rfl⟩
  rw[hq]at n6
  have HQ:=Lib.hid hq
  clear hq
  go_wp2_with fail
  refine n6.mono ?_
  clear n6
  rintro e w6 ⟨rfl,hx6⟩
  have b56:Below w5.heap.size w5 (w5.alloc (.cells #[.int .i64 x.to] 3)):=by go_grown
  have b6':Below w5.heap.size w5 w6:=b56.trans (hx6.mono b56.size)
  have kx6:=(b6'.block _ (by omega)).trans kx5
  have kr6:=(b6'.block _ (by omega)).trans kr5
  have ko6:=(b6'.block _ (by omega)).trans ko5
  have b6:Below w.heap.size w w6:=b5.trans (b6'.mono (by omega))
  have z6:w.heap.size+1+1<w6.heap.size:=(Array.getElem?_eq_some_iff.1 ko6).1
  obtain⟨hcx6,hfx6⟩:=blk_cells kx6
  clear hx6
  have l1:=ld_row ko6 Tryz.underlying24 rfl info_deal
  obtain⟨wF,stF,krF,gF⟩:=st_row w6 (w.heap.size+1) 24 24 zcs #[.int .i64 x.id,.int .i64 x.day,.int .u8 x.kind,.int .i64 x.lot,.int .i64 0,.int .i64 0,.int .i64 x.to,.int .i64 0,.int .i64 0,.slice none 0 0,.slice none 0 0] kr6 info_deal rfl (by simp[Value.oneCell'])
  have l2:=ld_row krF Tryz.underlying24 rfl info_deal
  have bF:Below w.heap.size w wF:=b6.grown gF (by omega) (by intro k e;cases e;omega)
  go_wp2
  refine bodyPost_ret (v:=.tuple #[.agg #[.int .i64 x.id,.int .i64 x.day,.int .u8 x.kind,.int .i64 x.lot,.int .i64 0,.int .i64 0,.int .i64 x.to,.int .i64 0,.int .i64 0,.slice none 0 0,.slice none 0 0],.bool q]) (by simp[results,Tryz.results97,go_sem,l2]) rfl ?_
  exact⟨Rt.keep8 x,none,none,0,0,q,rfl,⟨.inl rfl,.inl rfl,(by simp[Rt.keep8]),(by simp[Rt.keep8])⟩,bF,(by unfold Rt.body;rw[HK.out];simp only[Rt.only8,HP.out,HQ.out];(try cases Rt.sameD x (Rt.keep8 x))<;>simp[Bool.and_comm])⟩
end Go.Proofs.YtcffonnijhhhiaaGreatDoor
namespace Go.Proofs.YtcffonnijhhhiaaGreatDoor
open Go Go.RowKit Mp
theorem kept_a (x:Dl)(A1 A2:Option Addr)(c1 c2:Nat)(w:World)(hx:DS w w.heap.size A1 A2 x)(hcap:x.into.length≤c1):
  Calls Tryz.prog 97 #[.agg (xcs x A1 A2 c1 c2)] w (EndKp x w):=by
 by_cases h1:x.kind=1
 ·exact kept_1 x h1 A1 A2 c1 c2 w hx hcap
 by_cases h2:x.kind=2
 ·exact kept_2 x h2 A1 A2 c1 c2 w hx hcap
 by_cases h3:x.kind=3
 ·exact kept_3 x h3 A1 A2 c1 c2 w hx hcap
 by_cases h4:x.kind=4
 ·exact kept_4 x h4 A1 A2 c1 c2 w hx hcap
 by_cases h5:x.kind=5
 ·exact kept_5 x h5 A1 A2 c1 c2 w hx hcap
 by_cases h6:x.kind=6
 ·exact kept_6 x h6 A1 A2 c1 c2 w hx hcap
 by_cases h7:x.kind=7
 ·exact kept_7 x h7 A1 A2 c1 c2 w hx hcap
 by_cases h8:x.kind=8
 ·exact kept_8 x h8 A1 A2 c1 c2 w hx hcap
 exact kept_0 x (by omega) A1 A2 c1 c2 w hx hcap
attribute [-go_sem] loadVar storeVar
attribute [local go_sem] lk_int lk_u8 lk_ints
set_option maxRecDepth 100000 in
set_option maxHeartbeats 4000000 in
theorem formed_a (x:Dl)(A1 A2:Option Addr)(c1 c2:Nat)(w:World)(hx:DS w w.heap.size A1 A2 x)(hcap:x.into.length≤c1):
  Calls Tryz.prog 27 #[.agg (xcs x A1 A2 c1 c2)] w fun e w'=>e=.returned (.int .i64 (if Rt.formed x then 0 else 1))∧Below w.heap.size w w':=by
 have k1:=heap_alloc_new w (oDl x A1 A2 c1 c2)
 have b1:Below w.heap.size w (w.alloc (oDl x A1 A2 c1 c2)):=by go_grown
 have hx1:=hx.up b1
 have n2:=kept_a x A1 A2 c1 c2 _ hx1 hcap
 have l1:=ld_row k1 Tryz.underlying24 rfl info_deal
 obtain⟨p,hp⟩: ∃p,Rt.inR x.id 1 1000000=p:=⟨_,rfl⟩
 obtain⟨q,hq⟩: ∃q,Rt.inR x.day 0 100000=q:=⟨_,rfl⟩
 have HF:Rt.formed x=(p&&q&&Rt.body x):=by rw[Rt.formed_eq,←hp,←hq];rfl
 obtain⟨E,hE⟩: ∃E:Int,(if Rt.formed x then (0:Int)else 1)=E:=⟨_,rfl⟩
 rw[hE]
 rw[HF]at hE
 have HE:=Lib.hid hE
 clear HF hE
 have HP:=Lib.hid hp
 have HQ:=Lib.hid hq
 have HX:=Lib.hid hx
 have HX1:=Lib.hid hx1
 clear hp hq hx hx1
 go_enter Tryz.func27,Tryz.ntmps27
 go_wp2_with fail
 refine n2.mono ?_
 clear n2
 rintro e w2 ⟨y,B1,B2,d1,d2,fine,rfl,hy,b2',hfs⟩
 have b2:Below w.heap.size w w2:=b1.trans (b2'.mono (by simp))
 have k2:w2.heap[w.heap.size]?=some (oDl x A1 A2 c1 c2):=(b2'.block _ (by simp)).trans k1
 have z2:w.heap.size<w2.heap.size:=(Array.getElem?_eq_some_iff.1 k2).1
 obtain⟨w4,st4,ko4,g4⟩:=st_row (w2.alloc (.cells zcs 24)) w2.heap.size 24 24 zcs (xcs y B1 B2 d1 d2) (heap_alloc_new w2 _) info_deal rfl (by simp[Value.oneCell'])
 have b24:Below w2.heap.size w2 w4:=(Below.alloc (Below.refl _ w2) (Nat.le_refl _) _).grown g4 (by simp) (by intro k e;cases e;omega)
 have b4:Below w.heap.size w w4:=b2.trans (b24.mono (by omega))
 have k4:=(b24.block _ z2).trans k2
 have l4:=ld_row k4 Tryz.underlying24 rfl info_deal
 have l5:=ld_row ko4 Tryz.underlying24 rfl info_deal
 have n5:=same_a x y A1 A2 B1 B2 c1 c2 d1 d2 w4 (HX.out.up b4) (hy.up b24)
 obtain⟨s,hs⟩: ∃s,Rt.sameD x y=s:=⟨_,rfl⟩
 rw[hs]at n5 hfs
 have HB:=Lib.hid hfs
 clear hs hfs k1 l1 k2
 cases fine with
 |false=>
  obtain rfl:E=1:=by rw[←HE.out,←HB.out];simp
  go_wp2
  go_ret
  exact⟨rfl,b4⟩
 |true=>
  cases s with
  |false=>
   obtain rfl:E=1:=by rw[←HE.out,←HB.out];simp
   go_wp2_with fail
   refine n5.mono ?_
   rintro e w5 ⟨rfl,b5'⟩
   go_wp2
   go_ret
   exact⟨rfl,b4.trans (b5'.mono b4.size)⟩
  |true=>
   go_wp2_with fail
   refine n5.mono ?_
   rintro e w5 ⟨rfl,b5'⟩
   have k5:=(b5'.block _ ((Array.getElem?_eq_some_iff.1 k4).1)).trans k4
   have b5:Below w.heap.size w w5:=b4.trans (b5'.mono b4.size)
   clear l4 l5 n5 k4
   obtain⟨hcx,hfx⟩:=blk_cells k5
   go_wp2_with fail
   refine(within_a _ _ _ _).mono ?_
   rintro e w' ⟨rfl,rfl⟩
   rw[HP.out]
   cases p with
   |false=>
    obtain rfl:E=1:=by rw[←HE.out];simp
    go_wp2
    go_ret
    exact⟨rfl,b5⟩
   |true=>
    go_wp2_with fail
    refine(within_a _ _ _ _).mono ?_
    rintro e w' ⟨rfl,rfl⟩
    rw[HQ.out]
    cases q with
    |false=>
     obtain rfl:E=1:=by rw[←HE.out];simp
     go_wp2
     go_ret
     exact⟨rfl,b5⟩
    |true=>
     obtain rfl:E=0:=by rw[←HE.out,←HB.out];simp
     go_wp2
     go_ret
     exact⟨rfl,b5⟩
end Go.Proofs.YtcffonnijhhhiaaGreatDoor
namespace Go.Proofs.Mp
open Go Go.Maps Go.MapKept
open Go.ChangeMaps (setBlock heap_setBlock_same heap_setBlock_other modify_eq_set)
section
variable {P : Program} {K : Type} {kt t e : TypeId} {ek : K → Value} {ok : K → Prop} {w w' : World} {b r : Nat} {f : K → Option Value}
theorem FM.entry [DecidableEq K](h:FM ek ok w b f)(T:Kt P kt ek ok)(ht:P.underlying t=some (.map kt e)){z:Value}(hz: ∀u:World,(zeroValue e).run P u=.ok z u){k:K}(hk:ok k)(hno:f k=none):
  ∃(st:Nat) (w1:World),(Instr.mapEntry t (.map (some b)) (ek k)).run P w=.ok (.tuple #[z,goInt st]) w1∧w.grownBy w1 (some b)∧w1.heap.size=w.heap.size∧
   ∀(w2:World) (v:Value),w2.heap[b]?=w1.heap[b]?→ ∃w3,(Instr.entryStore t (.map (some b)) (goInt st) v).run P w2=.ok () w3∧FM ek ok w3 b (upd f k (some v))∧w2.grownBy w3 (some b):=by
 obtain⟨es,c,hb,E⟩:=h
 obtain⟨l,hl⟩:=T.key hk
 obtain⟨s1,s2,_⟩:=(stamped_iff es c).1 E.st
 rcases E.find T w hl with ⟨h1,h2,_⟩|⟨j,x,h1,h2,h3,h4⟩
 ·refine⟨c,setBlock w b (.map (es.push ⟨ek k,z,c⟩) (c+1)),?_,grown_setBlock hb _,by simp[setBlock],fun w2 v hw2=> ?_⟩
  ·simp[Instr.mapEntry,run_underlying ht,MapKept.run_getObj_map hb,T.law.check w false hl,h1,hz,MapKept.run_setObj_map _ hb,Result.andThen,setBlock]
  ·have hw2:w2.heap[b]?=some (.map (es.push ⟨ek k,z,c⟩) (c+1)):=hw2.trans (heap_setBlock_same hb _)
   have hidx:(es.push ⟨ek k,z,c⟩).findIdx? (fun e=>((e.born:Nat):Int)==((c:Nat):Int))=some es.size:=by
    rw[WideElems.findIdx_arr]
    exact WideElems.findIdx_born (l:=(es.push ⟨ek k,z,c⟩).toList) (j:=es.size) (e0:=⟨ek k,z,c⟩) (by
     simp only[Array.toList_push,List.map_append,List.map_cons,List.map_nil]
     refine List.nodup_append.2 ⟨s2,by simp,fun a ha c' hc e1=> ?_⟩
     simp only[List.mem_singleton]at hc
     obtain⟨x,hx,rfl⟩:=List.mem_map.1 ha
     have:=s1 x hx
     omega) (by simp)
   have hmod:(es.push ⟨ek k,z,c⟩).modify es.size (fun e=> {e with val:=v})=es.push ⟨ek k,v,c⟩:=by
    apply Array.ext'
    rw[Array.toList_modify,Array.toList_push,Array.toList_push,←Array.length_toList,WideElems.modify_last]
   refine⟨setBlock w2 b (.map (es.push ⟨ek k,v,c⟩) (c+1)),?_,⟨_,_,heap_setBlock_same hw2 _,E.push hk h2 v⟩,grown_setBlock hw2 _⟩
   simp[Instr.entryStore,MapKept.run_getObj_map hw2,asInt,asIntOf,goInt,hidx,hmod,MapKept.run_setObj_map _ hw2,Result.andThen,setBlock]
 ·rw[hno]at h4
  cases h4
end
end Go.Proofs.Mp
