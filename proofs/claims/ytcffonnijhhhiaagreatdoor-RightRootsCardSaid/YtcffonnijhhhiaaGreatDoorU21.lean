/- Part U21 of the proof: Ap Pt Fa. -/
import Derived.Test.YtcffonnijhhhiaaGreatDoorProg
import Derived.WalkKit
import Derived.WalkLawsBesides
import Derived.WalkSpells
import Derived.Handy
import Derived.Lib.Hide
import Derived.Great.BuildSlice
import Derived.Deep.QuietTactic
import Derived.BigQuiet
import Derived.Deep.RegionHeld3
import Derived.Deep.DeepCutAuto
import Derived.Test.YtcffonnijhhhiaaGreatDoorU20
import Derived.Test.YtcffonnijhhhiaaGreatDoorU16
set_option linter.all false
set_option linter.unusedSimpArgs false
set_option linter.unusedVariables false
set_option linter.unusedSectionVars false
namespace Go.Proofs.YtcffonnijhhhiaaGreatDoor
open Go Go.RowKit Go.Maps Mp
attribute [-go_sem] loadVar storeVar Builtin.append_
attribute [local go_sem] lk_int lk_u8 lk_ints lk_state lk_ids
def appE (l:List Dl)(x:Dl):Int:=if (Rt.check l).2=0 then Rt.refused (Rt.stOf l) l x else (Rt.check l).2
def EndA (w:World)(L:List Dp)(x:Dl)(E:Int)(e:Ending)(w':World):Prop:=Below w.heap.size w w'∧
 if E=0 then ∃A' c' M,e=.returned (.tuple #[.slice A' (L.length+1) c',.int .i64 0])∧Dls w' w'.heap.size A' M∧dls M=dls L++[x]∧M.length=L.length+1∧L.length+1≤c'∧From w.heap.size A'∧(∀p∈M,From w.heap.size p.A1∧From w.heap.size p.A2)∧OwnD w' A' M
 else e=.returned (.tuple #[.slice none 0 0,.int .i64 E])
set_option maxRecDepth 100000 in
set_option maxHeartbeats 4000000 in
theorem append_a (A:Option Addr)(c:Nat)(L:List Dp)(x:Dl)(A1 A2:Option Addr)(c1 c2:Nat)(w:World)(hL:Dls w w.heap.size A L)(hm:L.length≤1000000)(hx:DS w w.heap.size A1 A2 x)(hcap:x.into.length≤c1)(hcap2:x.sizes.length≤c2):
  Calls Tryz.prog 33 #[.slice A L.length c,.agg (xcs x A1 A2 c1 c2)] w (EndA w L x (appE (dls L) x)):=by
 have b1:Below w.heap.size w (w.alloc (oDl x A1 A2 c1 c2)):=by go_grown
 have k1:=heap_alloc_new w (oDl x A1 A2 c1 c2)
 have hw:=walked_a A c L _ (hL.up b1) hm
 unfold EndW at hw
 obtain⟨E,hE⟩: ∃E,appE (dls L) x=E:=⟨_,rfl⟩
 rw[hE]
 unfold appE at hE
 have HL:=Lib.hid hL
 have HX:=Lib.hid hx
 by_cases h0:(Rt.check (dls L)).2=0
 case neg=>
  simp only[h0,if_false]at hw hE
  rw[←hE]
  have hq:((Rt.check (dls L)).2==0)=false:=by simpa using h0
  have hq2:((Rt.check (dls L)).2 !=0)=true:=by simpa using h0
  generalize (Rt.check (dls L)).1=i at hw
  generalize (Rt.check (dls L)).2=E2 at hw hq hq2 h0
  clear hE hL hx
  go_enter Tryz.func33,Tryz.ntmps33
  go_wp2_with fail
  refine hw.mono ?_
  rintro e w' ⟨hb,rfl⟩
  go_wp2
  refine bodyPost_ret (v:=.tuple #[.slice none 0 0,.int .i64 E2]) (by simp[results,Tryz.results33,go_sem]) rfl ?_
  refine⟨b1.trans (hb.mono b1.size),?_⟩
  rw[if_neg h0]
 simp only[h0,if_true]at hw hE
 have HE:=Lib.hid hE
 clear hE h0 hL hx
 go_enter Tryz.func33,Tryz.ntmps33
 go_wp2_with fail
 refine hw.mono ?_
 clear hw
 rintro e w2 ⟨b2',sb,bu,bl,be,bs,ad,wb,bk,n,d,rfl,hk⟩
 have b2:Below w.heap.size w w2:=b1.trans (b2'.mono b1.size)
 have k2:w2.heap[w.heap.size]?=some (oDl x A1 A2 c1 c2):=(b2'.block _ (by simp)).trans k1
 have hx2:=HX.out.up b1
 have hst:=step_a hk x A1 A2 c1 c2 ⟨hx2.into.below b2',hx2.sizes.below b2',hx2.li,hx2.ls⟩ hcap
 rw[HE.out]at hst
 have l2:=ld_row k2 Tryz.underlying24 rfl info_deal
 clear hk
 go_wp2_with fail
 refine hst.mono ?_
 clear hst
 rintro e w3 ⟨rfl,b3',_⟩
 have b3:Below w.heap.size w w3:=b2.trans (b3'.mono b1.size)
 have k3:w3.heap[w.heap.size]?=some (oDl x A1 A2 c1 c2):=(b3'.block _ (by simp)).trans k2
 clear l2
 by_cases hE0:E=0
 case neg=>
  have hq2:(E !=0)=true:=by simpa using hE0
  go_wp2
  refine bodyPost_ret (v:=.tuple #[.slice none 0 0,.int .i64 E]) (by simp[results,Tryz.results33,go_sem]) rfl ?_
  refine⟨b3,?_⟩
  rw[if_neg hE0]
 subst hE0
 have hlen:(dls L).length<400:=(Rt.refused_zero HE.out).1
 rw[List.length_map]at hlen
 have hL3:=HL.out.up b3
 have hx3:=HX.out.up b3
 obtain⟨V0,hV0⟩: ∃V:World,V=w3.drew:=⟨_,rfl⟩
 have bd0:Below w3.heap.size w3 V0:=by rw[hV0];exact below_drew (Below.refl _ _)
 have k0:V0.heap[w.heap.size]?=some (oDl x A1 A2 c1 c2):=(bd0.block _ (Array.getElem?_eq_some_iff.1 k3).1).trans k3
 have hL0:=hL3.up bd0
 have hx0:=hx3.up bd0
 have bV:Below w.heap.size w V0:=b3.trans (bd0.mono b3.size)
 have HV0:=Lib.hid hV0
 clear hV0
 obtain⟨p,hp⟩: ∃p:Dp,p=⟨x,A1,A2,c1,c2⟩:=⟨_,rfl⟩
 have hcl1:=cloneD_a A c L V0 hL0 hm
 have ba:Below V0.heap.size V0 (V0.alloc (oDl x A1 A2 c1 c2)):=by go_grown
 have hcl2:=cloneD_a A c L (V0.alloc (oDl x A1 A2 c1 c2)) (hL0.up ba) hm
 have HS:=Lib.hid (show ∀V:World,Below V0.heap.size V0 V→(loadVar 24 ⟨w.heap.size,0,none⟩).run Tryz.prog V=.ok (.agg (xcs x A1 A2 c1 c2)) V from fun V hV=>ld_row ((hV.block _ (Array.getElem?_eq_some_iff.1 k0).1).trans k0) Tryz.underlying24 rfl info_deal)
 have HL0:=Lib.hid hL0
 have HX0:=Lib.hid hx0
 have HADD:=Lib.hid (show ∀(W:World) (A4:Option Addr) (c4 b:Nat),Below V0.heap.size V0 W→W.ownsRow V0.heap.size 24 11 (.slice A4 L.length c4) L.length (L.flatMap encD)∨W.ownsRow (V0.heap.size+1) 24 11 (.slice A4 L.length c4) L.length (L.flatMap encD)→W.heap[b]?=some (oDl x A1 A2 c1 c2)→V0.heap.size+1≤W.heap.size→
   ∃A' c' w2,(Builtin.append_ #[34,34] 34 #[.slice A4 L.length c4,.slice (some ⟨b,0,none⟩) 1 1]).run Tryz.prog W=.ok (.slice A' (L.length+1) c') w2∧
    Dls w2 w2.heap.size A' (L++[p])∧Below V0.heap.size W w2 from by
  intro W A4 c4 b hW ho hb hz
  have hcell: ∀j u,([p].flatMap encD)[j]?=some u→W.cell? ⟨b,j,none⟩=some u:=by
   intro j u hj
   rw[(blk_cells hb).1 j]
   subst hp
   simpa [encD]using hj
  have fin: ∀n₀,V0.heap.size≤n₀→n₀≤W.heap.size→W.ownsRow n₀ 24 11 (.slice A4 L.length c4) L.length (L.flatMap encD)→_:=fun n₀ h1 h2 h3=>own_add layD (r:=[p]) (c:=1) h3 hcell (by simp;omega) (by decide) h2
  have fin2: ∀n₀,V0.heap.size≤n₀→n₀≤W.heap.size→W.ownsRow n₀ 24 11 (.slice A4 L.length c4) L.length (L.flatMap encD)→(∃A' c' w2,(Builtin.append_ #[34,34] 34 #[.slice A4 L.length c4,.slice (some ⟨b,0,none⟩) 1 1]).run Tryz.prog W=.ok (.slice A' (L.length+1) c') w2∧Dls w2 w2.heap.size A' (L++[p])∧Below V0.heap.size W w2):=fun n₀ h1 h2 h3=>by
   obtain⟨A',c',w2,hr,hs,_,_,hbb⟩:=fin n₀ h1 h2 h3
   have hb2:Below V0.heap.size W w2:=hbb.mono h1
   exact⟨A',c',w2,hr,⟨hs,fun q hq=>by
    have hv:=hW.trans hb2
    rcases List.mem_append.1 hq with hq|hq
    ·exact(HL0.out.up hv).each q hq
    ·rw[List.mem_singleton.1 hq,hp]
     exact⟨HX0.out.up hv,hcap,hcap2⟩⟩,hb2⟩
  rcases ho with ho|ho
  ·exact fin2 _ (Nat.le_refl _) (by omega) ho
  ·exact fin2 _ (by omega) hz ho)
 clear hL3 hx3 hL0 hx0
 go_wp2
 refine wp_region_held_drew (S:=fun V=>(loadVar 24 ⟨w.heap.size,0,none⟩).run Tryz.prog V=.ok (.agg (xcs x A1 A2 c1 c2)) V) (by kernel_rfl) (by rw[←HV0.out];exact HS.out V0 (Below.refl _ _)) (fun hHeld=> ?_)
 rw[←HV0.out]
 replace hHeld:=HS.out V0 (Below.refl _ _)
 refine takeH 0 (some 23) (v:= ?v1) rfl rfl (by kernel_rfl) (by kernel_rfl) (by kernel_rfl) (fun _ _ _ h=>h) (Or.inl ⟨by rfl,fun W hW=> ?hy1⟩) (by assumption) ?hr1
 case hy1=>(try dsimp only at hW);go_simp;try with_reducible rfl
 try simp only[Act.put,List.setIfInBounds_toArray,List.set_cons_zero,List.set_cons_succ]
 refine takeH 2 (some 25) (v:= ?v2) rfl rfl (by kernel_rfl) (by kernel_rfl) (by kernel_rfl) (fun _ _ _ h=>h) (Or.inl ⟨by rfl,fun W hW=> ?hy2⟩) (by assumption) ?hr2
 case hy2=>(try dsimp only at hW);go_simp;try with_reducible rfl
 try simp only[Act.put,List.setIfInBounds_toArray,List.set_cons_zero,List.set_cons_succ]
 refine wpAnyH_ready (rs:=[1,3]) (by kernel_rfl) (by simp) ?_
 refine readyH (some 24) rfl rfl (fun K hK=> ?_) (readyH (some 26) rfl rfl (fun K hK=> ?_) AllReadyH.nil)
 ·clear hHeld
  go_simp
  refine hcl1.mono ?_
  rintro e w5 ⟨A4,c4,rfl,_,_,_,b5,_,ho5⟩
  refine hK _ _ (HS.out w5 b5) (fun hHeld=> ?_)
  clear hK K hcl1 hcl2
  try simp only[Act.put,List.setIfInBounds_toArray,List.set_cons_zero,List.set_cons_succ]
  refine wpAnyH_ready (rs:=[3]) (by kernel_rfl) (by simp) ?_
  refine readyH (some 26) rfl rfl (fun K hK=> ?_) AllReadyH.nil
  go_simp
  have bW:Below V0.heap.size V0 (w5.alloc (oDl x A1 A2 c1 c2)):=b5.alloc b5.size _
  have kW:(w5.alloc (oDl x A1 A2 c1 c2)).heap[w5.heap.size]?=some (oDl x A1 A2 c1 c2):=heap_alloc_new w5 _
  have oW:(w5.alloc (oDl x A1 A2 c1 c2)).ownsRow V0.heap.size 24 11 (.slice A4 L.length c4) L.length (L.flatMap encD):=ho5.alloc _
  have zW:V0.heap.size+1≤(w5.alloc (oDl x A1 A2 c1 c2)).heap.size:=by have:=b5.size;simp;omega
  refine hK _ (w5.alloc (oDl x A1 A2 c1 c2)) (HS.out _ bW) (fun hHeld=> ?_)
  generalize w5.alloc (oDl x A1 A2 c1 c2)=W5 at bW kW oW zW hHeld ⊢
  clear hK K
  try simp only[Act.put,List.setIfInBounds_toArray,List.set_cons_zero,List.set_cons_succ]
  obtain⟨A6,c6,w6,hr6,hD6,b6⟩:=HADD.out W5 A4 c4 _ bW (.inl oW) kW zW
  have b06:Below V0.heap.size V0 w6:=(bW).trans b6
  have hcp6:=copied_a A6 c6 (L++[p]) w6 hD6 (by simp;omega)
  rw[List.length_append,List.length_singleton]at hcp6
  refine wpAnyH_ready (rs:=[4]) (by kernel_rfl) (by simp) ?_
  refine readyH (some 27) rfl rfl (fun K hK=> ?_) AllReadyH.nil
  go_simp
  refine hK _ _ (HS.out w6 b06) (fun hHeld=> ?_)
  clear hK K hr6
  try simp only[Act.put,List.setIfInBounds_toArray,List.set_cons_zero,List.set_cons_succ]
  refine wpAnyH_ready (rs:=[5]) (by kernel_rfl) (by simp) ?_
  refine readyH (some 28) rfl rfl (fun K hK=> ?_) AllReadyH.nil
  go_simp
  refine hcp6.mono ?_
  rintro e w7 ⟨A7,c7,M,rfl,hD7,hM7,hl7,hc7,hf7,he7,b7,ho7⟩
  have b07:=b06.trans (b7.mono b06.size)
  refine hK _ _ (HS.out w7 b07) (fun hHeld=> ?_)
  clear hK K hcp6
  try simp only[Act.put,List.setIfInBounds_toArray,List.set_cons_zero,List.set_cons_succ]
  refine takeH 6 (some 4) (v:= ?v3) rfl rfl (by kernel_rfl) (by kernel_rfl) (by kernel_rfl) (fun _ _ _ h=>h) (Or.inl ⟨by rfl,fun W hW=> ?hy3⟩) (by assumption) ?hr3
  case hy3=>(try dsimp only at hW);go_simp;try with_reducible rfl
  try simp only[Act.put,List.setIfInBounds_toArray,List.set_cons_zero,List.set_cons_succ]
  refine takeH 7 (some 5) (v:= ?v4) rfl rfl (by kernel_rfl) (by kernel_rfl) (by kernel_rfl) (fun _ _ _ h=>h) (Or.inl ⟨by rfl,fun W hW=> ?hy4⟩) (by assumption) ?hr4
  case hy4=>(try dsimp only at hW);go_simp;try with_reducible rfl
  try simp only[Act.put,List.setIfInBounds_toArray,List.set_cons_zero,List.set_cons_succ]
  refine wpAnyH_done (by kernel_rfl) ?_ _
  go_wp2
  refine bodyPost_ret (v:=.tuple #[.slice A7 (L.length+1) c7,.int .i64 0]) (by simp[results,Tryz.results33,go_sem]) rfl ?_
  have y1:=bV.size
  have y2:=b06.size
  refine⟨bV.trans (b07.mono y1),?_⟩
  rw[if_pos rfl]
  exact⟨A7,c7,M,rfl,hD7,by rw[hM7];simp[hp],by simpa using hl7,by simpa using hc7,fun a ha=>by have:=hf7 a ha;omega,fun q hq=>⟨fun a ha=>by have:=(he7 q hq).1 a ha;omega,fun a ha=>by have:=(he7 q hq).2 a ha;omega⟩,ho7⟩
 ·clear hHeld
  go_simp
  have bV1:Below V0.heap.size V0 (V0.alloc (oDl x A1 A2 c1 c2)):=ba
  have kV1:(V0.alloc (oDl x A1 A2 c1 c2)).heap[V0.heap.size]?=some (oDl x A1 A2 c1 c2):=heap_alloc_new V0 _
  have zV1:(V0.alloc (oDl x A1 A2 c1 c2)).heap.size=V0.heap.size+1:=by simp
  refine hK _ (V0.alloc (oDl x A1 A2 c1 c2)) (HS.out _ bV1) (fun hHeld=> ?_)
  generalize V0.alloc (oDl x A1 A2 c1 c2)=V1 at bV1 kV1 zV1 hHeld hcl2 ⊢
  clear hK K hcl1 ba
  try simp only[Act.put,List.setIfInBounds_toArray,List.set_cons_zero,List.set_cons_succ]
  refine wpAnyH_ready (rs:=[1]) (by kernel_rfl) (by simp) ?_
  refine readyH (some 24) rfl rfl (fun K hK=> ?_) AllReadyH.nil
  go_simp
  refine hcl2.mono ?_
  rintro e W5 ⟨A4,c4,rfl,_,_,_,b5,_,oW⟩
  have kW:W5.heap[V0.heap.size]?=some (oDl x A1 A2 c1 c2):=(b5.block _ (by omega)).trans kV1
  have bW:Below V0.heap.size V0 W5:=bV1.trans (b5.mono (by omega))
  have zW:V0.heap.size+1≤W5.heap.size:=by have:=b5.size;omega
  rw[zV1]at oW
  refine hK _ _ (HS.out W5 bW) (fun hHeld=> ?_)
  clear hK K hcl2
  try simp only[Act.put,List.setIfInBounds_toArray,List.set_cons_zero,List.set_cons_succ]
  obtain⟨A6,c6,w6,hr6,hD6,b6⟩:=HADD.out W5 A4 c4 _ bW (.inr oW) kW zW
  have b06:Below V0.heap.size V0 w6:=(bW).trans b6
  have hcp6:=copied_a A6 c6 (L++[p]) w6 hD6 (by simp;omega)
  rw[List.length_append,List.length_singleton]at hcp6
  refine wpAnyH_ready (rs:=[4]) (by kernel_rfl) (by simp) ?_
  refine readyH (some 27) rfl rfl (fun K hK=> ?_) AllReadyH.nil
  go_simp
  refine hK _ _ (HS.out w6 b06) (fun hHeld=> ?_)
  clear hK K hr6
  try simp only[Act.put,List.setIfInBounds_toArray,List.set_cons_zero,List.set_cons_succ]
  refine wpAnyH_ready (rs:=[5]) (by kernel_rfl) (by simp) ?_
  refine readyH (some 28) rfl rfl (fun K hK=> ?_) AllReadyH.nil
  go_simp
  refine hcp6.mono ?_
  rintro e w7 ⟨A7,c7,M,rfl,hD7,hM7,hl7,hc7,hf7,he7,b7,ho7⟩
  have b07:=b06.trans (b7.mono b06.size)
  refine hK _ _ (HS.out w7 b07) (fun hHeld=> ?_)
  clear hK K hcp6
  try simp only[Act.put,List.setIfInBounds_toArray,List.set_cons_zero,List.set_cons_succ]
  refine takeH 6 (some 4) (v:= ?v5) rfl rfl (by kernel_rfl) (by kernel_rfl) (by kernel_rfl) (fun _ _ _ h=>h) (Or.inl ⟨by rfl,fun W hW=> ?hy5⟩) (by assumption) ?hr5
  case hy5=>(try dsimp only at hW);go_simp;try with_reducible rfl
  try simp only[Act.put,List.setIfInBounds_toArray,List.set_cons_zero,List.set_cons_succ]
  refine takeH 7 (some 5) (v:= ?v6) rfl rfl (by kernel_rfl) (by kernel_rfl) (by kernel_rfl) (fun _ _ _ h=>h) (Or.inl ⟨by rfl,fun W hW=> ?hy6⟩) (by assumption) ?hr6
  case hy6=>(try dsimp only at hW);go_simp;try with_reducible rfl
  try simp only[Act.put,List.setIfInBounds_toArray,List.set_cons_zero,List.set_cons_succ]
  refine wpAnyH_done (by kernel_rfl) ?_ _
  go_wp2
  refine bodyPost_ret (v:=.tuple #[.slice A7 (L.length+1) c7,.int .i64 0]) (by simp[results,Tryz.results33,go_sem]) rfl ?_
  have y1:=bV.size
  have y2:=b06.size
  refine⟨bV.trans (b07.mono y1),?_⟩
  rw[if_pos rfl]
  exact⟨A7,c7,M,rfl,hD7,by rw[hM7];simp[hp],by simpa using hl7,by simpa using hc7,fun a ha=>by have:=hf7 a ha;omega,fun q hq=>⟨fun a ha=>by have:=(he7 q hq).1 a ha;omega,fun a ha=>by have:=(he7 q hq).2 a ha;omega⟩,ho7⟩
end Go.Proofs.YtcffonnijhhhiaaGreatDoor
namespace Go.Proofs.Rt
def part1 (id:Int)(q:St×List Deal×List Deal)(x:Deal):St×List Deal×List Deal:=if x.id=id∨refused q.1 q.2.1 x≠0 then (q.1,q.2.1,q.2.2++[x])else (does q.1 x,q.2.1++[x],q.2.2)
def partGo (l:List Deal)(id:Int):St×List Deal×List Deal:=l.foldl (part1 id) (St.begun,[],[])
def partE (l:List Deal)(id:Int):Int:=if (check l).2≠0 then (check l).2 else if (partGo l id).2.2=[]then 5 else 0
def partS (l:List Deal)(id:Int):List Deal:=if partE l id=0 then (partGo l id).2.1 else []
def partF (l:List Deal)(id:Int):List Deal:=if partE l id=0 then (partGo l id).2.2 else []
theorem partGo_snoc (l:List Deal)(id:Int)(x:Deal):partGo (l++[x]) id=part1 id (partGo l id) x:=by
 unfold partGo
 rw[List.foldl_append]
 rfl
end Go.Proofs.Rt
namespace Go.Proofs.YtcffonnijhhhiaaGreatDoor
open Go Go.RowKit Go.Maps Mp
attribute [-simp] Prod.forall Prod.exists
attribute [-go_sem] loadVar storeVar Builtin.append_
attribute [local go_sem] lk_int lk_u8 lk_ints lk_state lk_ids
section
variable {α : Type} {enc : α → List Value} {ST ET : TypeId} {z : Value} {size bytes : Nat}
theorem own_pushF (L:Lay enc ST ET z size bytes){n₀:Nat}{w1:World}{v:Value}{l:List α}(hr:w1.ownsRow n₀ ET size v l.length (l.flatMap enc))(x:α)(cs:Array Value)(hcs:cs.toList=enc x)
  (hm:l.length+1≤3000000) (hb:bytes≤1000) (hn:n₀≤w1.heap.size):
  ∃g' cap' w2,(Builtin.append_ #[ST,ST] ST #[v,.slice (some ⟨w1.heap.size,0,none⟩) 1 1]).run Tryz.prog (w1.alloc (.cells cs ET))=.ok (.slice (some ⟨g',0,none⟩) (l.length+1) cap') w2∧
   w2.ownsRow n₀ ET size (.slice (some ⟨g',0,none⟩) (l.length+1) cap') (l++[x]).length ((l++[x]).flatMap enc)∧w1.grownBy w2 v.ownBlock∧(v.ownBlock=some g'∨w1.heap.size<g'):=by
 obtain⟨i0,hi0,hz0,hz1,hz2⟩:=info_parts L.hi
 have hcell: ∀j u,(enc x)[j]?=some u→(w1.alloc (.cells cs ET)).cell? ((⟨w1.heap.size,0,none⟩:Addr).add j)=some u:=by
  intro j u hj
  rw[Go.WideShapes.add_plain,Nat.zero_add,(blk_cells (World.alloc_heap_new w1 (.cells cs ET))).1,←Array.getElem?_toList,hcs]
  exact hj
 obtain⟨v',w2,hrun,hown,hgrow,_,hob⟩:=run_append_own_at (P:=Tryz.prog) (w:=w1.alloc (.cells cs ET)) n₀ ST ST ET i0 _ size bytes L.ht hi0 hz0 hz1 hz2 L.hz L.hs v l.length (l.flatMap enc) (hr.alloc _) ⟨w1.heap.size,0,none⟩ 1 1 (enc x)
  (by rw[L.henc,Nat.one_mul]) hcell (L.hone x) (by unfold maxLen;omega) (Nat.le_trans (Nat.mul_le_mul hm hb) (by decide)) (by simp only[World.size_alloc];omega)
 rw[show(l.flatMap enc)++enc x=(l++[x]).flatMap enc by simp]at hown
 obtain⟨g',cap',rfl⟩:=ownsRow_succ hown
 refine⟨g',cap',w2,hrun,by rw[List.length_append];exact hown,⟨hgrow.os,hgrow.tape,hgrow.output,by have:=hgrow.size;simp only[World.size_alloc]at this;omega,fun i hi hne=>(hgrow.block i (by simp only[World.size_alloc];omega) hne).trans (Below.heap_alloc _ _ i hi)⟩,?_⟩
 rcases hob with e|e
 ·exact .inl e.symm
 ·right
  have:g'=(w1.alloc (.cells cs ET)).heap.size:=Option.some.inj e
  simp at this
  omega
theorem own_same {w w':World}{n₀ k:Nat}{v:Value}{xs:List Value}(h:w.ownsRow n₀ ET size v k xs)(e: ∀g,v.ownBlock=some g→w'.heap[g]?=w.heap[g]?):w'.ownsRow n₀ ET size v k xs:=by
 refine⟨h.1,?_⟩
 rcases h.2 with h2|⟨g,cap,cur,h2,h3,h4,h5⟩
 ·exact .inl h2
 ·exact .inr ⟨g,cap,cur,h2,h3,(e g (by rw[h2];rfl)).trans h4,h5⟩
end
def Off (wb:Nat)(ad:Int→Option (Nat×Nat))(row:Option Nat):Prop:= ∀r,row=some r→wb<r∧ ∀m q,ad m=some q→r≠q.1∧r≠q.2
theorem WK.row {w w':World}{B sb bu bl be bs wb bk:Nat}{ad:Int→Option (Nat×Nat)}{n d:Int}{s:Rt.St}{l:List Rt.Deal}(h:WK w B sb bu bl be bs ad wb bk n d s l){row:Option Nat}(g:w.grownBy w' row)(hr:Off wb ad row):WK w' B sb bu bl be bs ad wb bk n d s l:=by
 have hu:=h.up
 cases row with
 |none=>exact h.below ⟨g.os,g.tape,g.output,g.size,fun i hi=>g.block i hi (by simp)⟩
 |some r=>
  obtain⟨h1,h2⟩:=hr r rfl
  exact {h with sm:=h.sm.kept' g (by omega) (fun m q hq=>⟨fun e=>(h2 m q hq).1 e.symm,fun e=>(h2 m q hq).2 e.symm⟩),blk:=(g.block _ h.lt (by simp;omega)).trans h.blk,ids:=h.ids.same (g.block _ h.ids.lt (by simp;omega))}
structure PT (w W:World)(N:Nat)(L:List Dp)(id:Int)(j:Nat)(v1 v2:Value)(M1 M2:List Dp)(sb bu bl be bs:Nat)(ad:Int→Option (Nat×Nat))(wb bk:Nat)(n d:Int):Prop where
 wk:WK W w.heap.size sb bu bl be bs ad wb bk n d (Rt.partGo ((dls L).take j) id).1 (Rt.partGo ((dls L).take j) id).2.1
 o1:W.ownsRow N 24 11 v1 M1.length (M1.flatMap encD)
 o2:W.ownsRow N 24 11 v2 M2.length (M2.flatMap encD)
 m1:dls M1=(Rt.partGo ((dls L).take j) id).2.1
 m2:dls M2=(Rt.partGo ((dls L).take j) id).2.2
 all: ∀p,p∈M1∨p∈M2→p∈L
 few:M1.length+M2.length=j
 f1:Off wb ad v1.ownBlock
 f2:Off wb ad v2.ownBlock
 ne: ∀g,v1.ownBlock=some g→v2.ownBlock≠some g
 bel:Below w.heap.size w W
 up:wb<N∧N≤W.heap.size
section
variable {w W W' : World} {N : Nat} {L : List Dp} {id : Int} {j : Nat} {v1 v2 : Value} {M1 M2 : List Dp} {sb bu bl be bs : Nat} {ad : Int → Option (Nat × Nat)} {wb bk : Nat} {n d : Int}
theorem PT.below (h:PT w W N L id j v1 v2 M1 M2 sb bu bl be bs ad wb bk n d)(hb:Below W.heap.size W W'):PT w W' N L id j v1 v2 M1 M2 sb bu bl be bs ad wb bk n d:=
 {h with wk:=h.wk.below hb,o1:=own_below h.o1 hb,o2:=own_below h.o2 hb,bel:=h.bel.trans (hb.mono h.bel.size),up:=⟨h.up.1,Nat.le_trans h.up.2 hb.size⟩}
theorem PT.fall (h:PT w W N L id j v1 v2 M1 M2 sb bu bl be bs ad wb bk n d)(hj:j<L.length)(hm:L.length≤1000000)(hc:L[j].x.id=id∨Rt.refused (Rt.partGo ((dls L).take j) id).1 (Rt.partGo ((dls L).take j) id).2.1 L[j].x≠0):
  ∃g' c' W',(Builtin.append_ #[34,34] 34 #[v2,.slice (some ⟨W.heap.size,0,none⟩) 1 1]).run Tryz.prog (W.alloc (oDl L[j].x L[j].A1 L[j].A2 L[j].c1 L[j].c2))=.ok (.slice (some ⟨g',0,none⟩) (M2.length+1) c') W'∧
   PT w W' N L id (j+1) v1 (.slice (some ⟨g',0,none⟩) (M2.length+1) c') M1 (M2++[L[j]]) sb bu bl be bs ad wb bk n d:=by
 have hf:=h.few
 have hu:=h.up
 obtain⟨g',c',W',hrun,ho,hg,hn⟩:=own_pushF layD h.o2 L[j] (xcs L[j].x L[j].A1 L[j].A2 L[j].c1 L[j].c2) rfl (by omega) (by decide) hu.2
 have hg':=(ho.lt g' rfl).1
 have htk:(dls L).take (j+1)=(dls L).take j++[L[j].x]:=by
  rw[List.take_succ_eq_append_getElem (by simpa using hj)]
  simp
 have hp:Rt.partGo ((dls L).take (j+1)) id=((Rt.partGo ((dls L).take j) id).1,(Rt.partGo ((dls L).take j) id).2.1,(Rt.partGo ((dls L).take j) id).2.2++[L[j].x]):=by
  rw[htk,Rt.partGo_snoc,Rt.part1,if_pos hc]
 have hnew:Off wb ad (some g'):=fun r e=>by
  cases e
  rcases hn with e|e
  ·exact h.f2 g' e
  ·exact⟨by omega,fun m q hq=>by have:=h.wk.sm.lotlt hq;omega⟩
 refine⟨g',c',W',hrun,⟨by rw[hp];exact h.wk.row hg h.f2,own_same h.o1 (fun g e=>hg.block g (h.o1.lt g e).2 (fun e2=>h.ne g e e2.symm)),ho,by rw[hp];exact h.m1,by rw[hp];show(M2++[L[j]]).map _=_;rw[List.map_append,←h.m2];rfl,fun p hp=> ?_,by rw[List.length_append];simp;omega,h.f1,hnew,fun g e e2=> ?_,h.bel.grown hg h.bel.size (fun k e=> ?_),hu.1,Nat.le_trans hu.2 hg.size⟩⟩
 ·rcases hp with hp|hp
  ·exact h.all p (.inl hp)
  ·rcases List.mem_append.1 hp with hp|hp
   ·exact h.all p (.inr hp)
   ·rw[List.mem_singleton.1 hp];exact List.getElem_mem hj
 ·have e3:g'=g:=Option.some.inj e2
  rcases hn with e4|e4
  ·rw[e3]at e4;exact h.ne g e e4
  ·have:=(h.o1.lt g e).2;omega
 ·have:=(h.o2.lt k e).1
  have:=h.wk.sm.ord
  have:=h.wk.up
  have:=h.wk.sm.lt
  omega
theorem PT.stay (h:PT w W N L id j v1 v2 M1 M2 sb bu bl be bs ad wb bk n d)(hj:j<L.length)(hm:L.length≤1000000)(hc: ¬(L[j].x.id=id∨Rt.refused (Rt.partGo ((dls L).take j) id).1 (Rt.partGo ((dls L).take j) id).2.1 L[j].x≠0)){w5:World}{ad':Int→Option (Nat×Nat)}{n' d':Int}
  (hwk:WK w5 w.heap.size sb bu bl be bs ad' wb bk n' d' (Rt.does (Rt.partGo ((dls L).take j) id).1 L[j].x) ((Rt.partGo ((dls L).take j) id).2.1++[L[j].x])) (hb5:Below w.heap.size w w5) (hN5:N≤w5.heap.size) (hk: ∀i,i<W.heap.size→wb<i→(∀m q,ad m=some q→i≠q.1∧i≠q.2)→w5.heap[i]?=W.heap[i]?) (hz:W.heap.size≤w5.heap.size) (hnw:New W ad ad'):
  ∃g' c' W',(Builtin.append_ #[34,34] 34 #[v1,.slice (some ⟨w5.heap.size,0,none⟩) 1 1]).run Tryz.prog (w5.alloc (oDl L[j].x L[j].A1 L[j].A2 L[j].c1 L[j].c2))=.ok (.slice (some ⟨g',0,none⟩) (M1.length+1) c') W'∧
   PT w W' N L id (j+1) (.slice (some ⟨g',0,none⟩) (M1.length+1) c') v2 (M1++[L[j]]) M2 sb bu bl be bs ad' wb bk n' d':=by
 have hf:=h.few
 have hu:=h.up
 have k1: ∀g,v1.ownBlock=some g→w5.heap[g]?=W.heap[g]?:=fun g e=>hk g (h.o1.lt g e).2 (h.f1 g e).1 (h.f1 g e).2
 have k2: ∀g,v2.ownBlock=some g→w5.heap[g]?=W.heap[g]?:=fun g e=>hk g (h.o2.lt g e).2 (h.f2 g e).1 (h.f2 g e).2
 have o1:=own_same h.o1 k1
 have o2:=own_same h.o2 k2
 have f1:Off wb ad' v1.ownBlock:=fun r e=>⟨(h.f1 r e).1,fun m q hq=>by
  rcases hnw m q hq with ⟨l',hl'⟩|h6
  ·exact(h.f1 r e).2 l' q hl'
  ·have:=(h.o1.lt r e).2;omega⟩
 have f2:Off wb ad' v2.ownBlock:=fun r e=>⟨(h.f2 r e).1,fun m q hq=>by
  rcases hnw m q hq with ⟨l',hl'⟩|h6
  ·exact(h.f2 r e).2 l' q hl'
  ·have:=(h.o2.lt r e).2;omega⟩
 obtain⟨g',c',W',hrun,ho,hg,hn⟩:=own_pushF layD o1 L[j] (xcs L[j].x L[j].A1 L[j].A2 L[j].c1 L[j].c2) rfl (by omega) (by decide) hN5
 have hg':=(ho.lt g' rfl).1
 have htk:(dls L).take (j+1)=(dls L).take j++[L[j].x]:=by
  rw[List.take_succ_eq_append_getElem (by simpa using hj)]
  simp
 have hp:Rt.partGo ((dls L).take (j+1)) id=(Rt.does (Rt.partGo ((dls L).take j) id).1 L[j].x,(Rt.partGo ((dls L).take j) id).2.1++[L[j].x],(Rt.partGo ((dls L).take j) id).2.2):=by
  rw[htk,Rt.partGo_snoc,Rt.part1,if_neg hc]
 have hnew:Off wb ad' (some g'):=fun r e=>by
  cases e
  rcases hn with e|e
  ·exact f1 g' e
  ·exact⟨by omega,fun m q hq=>by have:=hwk.sm.lotlt hq;omega⟩
 refine⟨g',c',W',hrun,⟨by rw[hp];exact hwk.row hg f1,ho,own_same o2 (fun g e=>hg.block g (o2.lt g e).2 (fun e2=>h.ne g e2.symm e)),by rw[hp];show(M1++[L[j]]).map _=_;rw[List.map_append,←h.m1];rfl,by rw[hp];exact h.m2,fun p hp=> ?_,by rw[List.length_append];simp;omega,hnew,f2,fun g e e2=> ?_,hb5.grown hg hb5.size (fun k e=> ?_),hu.1,Nat.le_trans hN5 hg.size⟩⟩
 ·rcases hp with hp|hp
  ·rcases List.mem_append.1 hp with hp|hp
   ·exact h.all p (.inl hp)
   ·rw[List.mem_singleton.1 hp];exact List.getElem_mem hj
  ·exact h.all p (.inr hp)
 ·have e3:g'=g:=Option.some.inj e
  rcases hn with e4|e4
  ·rw[e3]at e4;exact h.ne g e4 e2
  ·have:=(o2.lt g e2).2;omega
 ·have:=(h.o1.lt k e).1
  have:=hwk.sm.ord
  have:=hwk.up
  have:=hwk.sm.lt
  omega
theorem PT.stood (h:PT w W N L id j v1 v2 M1 M2 sb bu bl be bs ad wb bk n d){w5:World}{ad':Int→Option (Nat×Nat)}{n' d':Int}
  (hwk:WK w5 w.heap.size sb bu bl be bs ad' wb bk n' d' (Rt.partGo ((dls L).take j) id).1 (Rt.partGo ((dls L).take j) id).2.1) (hb5:Below w.heap.size w w5) (hk: ∀i,i<W.heap.size→wb<i→(∀m q,ad m=some q→i≠q.1∧i≠q.2)→w5.heap[i]?=W.heap[i]?) (hz:W.heap.size≤w5.heap.size) (hnw:New W ad ad'):
  PT w w5 N L id j v1 v2 M1 M2 sb bu bl be bs ad' wb bk n' d':=
 {h with
  wk:=hwk
  o1:=own_same h.o1 fun g e=>hk g (h.o1.lt g e).2 (h.f1 g e).1 (h.f1 g e).2
  o2:=own_same h.o2 fun g e=>hk g (h.o2.lt g e).2 (h.f2 g e).1 (h.f2 g e).2
  f1:=fun r e=>⟨(h.f1 r e).1,fun m q hq=>by
   rcases hnw m q hq with ⟨l',hl'⟩|h6
   ·exact(h.f1 r e).2 l' q hl'
   ·have:=(h.o1.lt r e).2;omega⟩
  f2:=fun r e=>⟨(h.f2 r e).1,fun m q hq=>by
   rcases hnw m q hq with ⟨l',hl'⟩|h6
   ·exact(h.f2 r e).2 l' q hl'
   ·have:=(h.o2.lt r e).2;omega⟩
  bel:=hb5
  up:=⟨h.up.1,Nat.le_trans h.up.2 hz⟩}
end
def EndPt (w:World)(L:List Dp)(id:Int)(e:Ending)(w':World):Prop:= ∃A1 c1 M1 A2 c2 M2,e=.returned (.tuple #[.slice A1 M1.length c1,.slice A2 M2.length c2,.int .i64 (Rt.partE (dls L) id)])∧Dls w' w'.heap.size A1 M1∧Dls w' w'.heap.size A2 M2∧dls M1=Rt.partS (dls L) id∧dls M2=Rt.partF (dls L) id∧
 M1.length≤L.length∧M2.length≤L.length∧Below w.heap.size w w'
set_option maxRecDepth 100000 in
set_option maxHeartbeats 4000000 in
theorem parted_a (A:Option Addr)(c:Nat)(L:List Dp)(id:Int)(w:World)(hL:Dls w w.heap.size A L)(hm:L.length≤1000000):Calls Tryz.prog 124 #[.slice A L.length c,.int .i64 id] w (EndPt w L id):=by
 have hck:=check_a A c L w hL hm
 have HL:=Lib.hid hL
 have hlen:(dls L).length=L.length:=by simp
 clear hL
 obtain⟨E,hE⟩: ∃E,Rt.partE (dls L) id=E:=⟨_,rfl⟩
 unfold EndPt Rt.partS Rt.partF
 rw[hE]
 unfold Rt.partE at hE
 by_cases h0:(Rt.check (dls L)).2=0
 case neg=>
  rw[if_pos h0]at hE
  rw[if_neg (by rw[←hE];exact h0),if_neg (by rw[←hE];exact h0)]
  have hq2:((Rt.check (dls L)).2 !=0)=true:=by simpa using h0
  generalize (Rt.check (dls L)).1=i at hck
  generalize (Rt.check (dls L)).2=E2 at hck hq2 hE
  subst hE
  clear h0
  go_enter Tryz.func124,Tryz.ntmps124
  go_wp2_with fail
  refine hck.mono ?_
  rintro e w' ⟨rfl,hb⟩
  go_wp2
  refine bodyPost_ret (v:=.tuple #[.slice none 0 0,.slice none 0 0,.int .i64 E2]) (by simp[results,Tryz.results124,go_sem]) rfl ?_
  exact⟨none,0,[],none,0,[],rfl,⟨.inl rfl,fun p hp=>by cases hp⟩,⟨.inl rfl,fun p hp=>by cases hp⟩,rfl,rfl,Nat.zero_le _,Nat.zero_le _,hb⟩
 rw[h0]at hck
 simp only[h0,ne_eq,not_true_eq_false,if_false]at hE
 generalize (Rt.check (dls L)).1=i at hck
 have HE:=Lib.hid hE
 clear h0 hE
 go_enter Tryz.func124,Tryz.ntmps124
 go_wp2_with fail
 refine hck.mono ?_
 clear hck
 rintro e w1 ⟨rfl,b1⟩
 have hst:=started_a w1
 have z1:=b1.size
 go_wp2_with fail
 refine hst.mono ?_
 clear hst
 rintro e w2 ⟨rfl,b2,bu,bl,be,bs,ad,h0⟩
 have hP0:PT w w2 w2.heap.size L id 0 (.slice none 0 0) (.slice none 0 0) [] [] (w1.heap.size+4) bu bl be bs ad (w1.heap.size+6) (w1.heap.size+5) 0 0:=
  ⟨{h0 with sm:=h0.sm.less z1},World.ownsRow_nil _ _ _ _,World.ownsRow_nil _ _ _ _,rfl,rfl,fun p hp=>(by rcases hp with hp|hp<;>cases hp),rfl,fun r e=>(by cases e),fun r e=>(by cases e),fun g e=>(by cases e),b1.trans (b2.mono z1),h0.lt,Nat.le_refl _⟩
 clear h0
 go_wp2
 go_loopw [4,5,23] (fun va vb i wr=> ∃(j:Nat) (M1 M2:List Dp) (ad:Int→Option (Nat×Nat)) (n d:Int) (A1:Option Addr) (c1:Nat) (A2:Option Addr) (c2:Nat),j≤L.length∧i=.int .i64 j∧va=.slice A1 M1.length c1∧vb=.slice A2 M2.length c2∧Hid (PT w wr w2.heap.size L id j va vb M1 M2 (w1.heap.size+4) bu bl be bs ad (w1.heap.size+6) (w1.heap.size+5) n d)) (fun _ _ i _=>L.length-(intOf i).toNat)
 case atStart=>exact⟨0,[],[],ad,0,0,none,0,none,0,by omega,rfl,rfl,rfl,Lib.hid hP0⟩
 case round=>
  obtain⟨j,M1,M2,ad,n,d,A1,c1,A2,c2,hj,rfl,rfl,rfl,HP⟩:=hrel
  by_cases hlt:j<L.length
  ·obtain⟨b,off,hA,hbb,hld,hds,hcp,_⟩:=(HL.out.below HP.out.bel).at_ hlt
   obtain⟨w4,st4,k4,g4⟩:=st_row (wr.alloc (.cells zcs 24)) wr.heap.size 24 24 zcs (xcs L[j].x L[j].A1 L[j].A2 L[j].c1 L[j].c2) (heap_alloc_new wr _) info_deal rfl (by simp[Value.oneCell'])
   have b4:Below wr.heap.size wr w4:=(Below.alloc (Below.refl _ wr) (Nat.le_refl _) _).grown g4 (by simp) (by intro k e;cases e;omega)
   have hP4:=HP.out.below b4
   have l4:=ld_row k4 Tryz.underlying24 rfl info_deal
   obtain⟨hc4,hf4⟩:=blk_cells k4
   have hid4:=hc4 0
   have zr:=HP.out.up.2
   have zw:=HP.out.bel.size
   have z4:=b4.size
   have kz:=(Array.getElem?_eq_some_iff.1 k4).1
   have K4:=Lib.hid k4
   clear hc4 hf4 k4 g4
   subst hA
   by_cases hid:L[j].x.id=id
   ·obtain⟨g',c',W',hrun,hP⟩:=hP4.fall hlt hm (.inl hid)
    have HP':=Lib.hid hP
    have hq:(L[j].x.id==id)=true:=by simpa using hid
    obtain⟨p,hp⟩: ∃p,L[j]=p:=⟨_,rfl⟩
    rw[hp]at hld st4 l4 hid4 hrun hq
    clear hP hP4 hds hcp hid
    go_wp2
    go_roundw
    case rel=>exact⟨j+1,M1,M2++[L[j]],ad,n,d,A1,c1,some ⟨g',0,none⟩,c',by omega,by go_num,rfl,by simp,HP'⟩
    case measure=>first|(simp[intOf];done)|(simp[intOf];omega)
   ·have hq:(L[j].x.id==id)=false:=by simpa using hid
    have hds4:DS w4 w.heap.size L[j].A1 L[j].A2 L[j].x:=⟨hds.into.below (b4.mono zw),hds.sizes.below (b4.mono zw),hds.li,hds.ls⟩
    have hstep:=step_a hP4.wk L[j].x L[j].A1 L[j].A2 L[j].c1 L[j].c2 hds4 hcp
    have HN:=Lib.hid hid
    have HP4:=Lib.hid hP4
    obtain⟨E',hE'⟩: ∃E',Rt.refused (Rt.partGo ((dls L).take j) id).1 (Rt.partGo ((dls L).take j) id).2.1 L[j].x=E':=⟨_,rfl⟩
    rw[hE']at hstep
    have HE':=Lib.hid hE'
    have hoz: ∀m q,ad m=some q→wr.heap.size≠q.1∧wr.heap.size≠q.2:=fun m q hq=>by have:=HP.out.wk.sm.lotlt hq;omega
    clear hP4 hds hds4 hcp hid hE'
    obtain⟨p,hp⟩: ∃p,L[j]=p:=⟨_,rfl⟩
    rw[hp]at hld st4 l4 hid4 hq hstep
    go_wp2_with fail
    refine hstep.mono ?_
    clear hstep l4
    rintro e w5 ⟨rfl,b5,ad5,n5,d5,hw5,hk5,hn5⟩
    have hb5:Below w.heap.size w w5:=HP4.out.bel.trans b5
    have k5:w5.heap[wr.heap.size]?=w4.heap[wr.heap.size]?:=hk5 _ kz (by have:=HP.out.up;omega) hoz
    have l5:(loadVar 24 ⟨wr.heap.size,0,none⟩).run Tryz.prog w5=.ok (.agg (xcs p.x p.A1 p.A2 p.c1 p.c2)) w5:=by
     have:=k5.trans K4.out
     rw[hp]at this
     exact ld_row this Tryz.underlying24 rfl info_deal
    by_cases hE0:E'=0
    ·subst hE0
     rw[if_pos rfl,if_pos rfl]at hw5
     obtain⟨g',c',W',hrun,hP⟩:=HP4.out.stay hlt hm (by rintro(h|h);exact HN.out h;exact h HE'.out) (by rw[hp];exact hw5) hb5 (Nat.le_trans HP4.out.up.2 b5.size) hk5 b5.size hn5
     have HP':=Lib.hid hP
     rw[hp]at hrun
     clear hP hw5 k5
     go_wp2
     go_roundw
     case rel=>exact⟨j+1,M1++[L[j]],M2,ad5,n5,d5,some ⟨g',0,none⟩,c',A2,c2,by omega,by go_num,by simp,rfl,HP'⟩
     case measure=>first|(simp[intOf];done)|(simp[intOf];omega)
    ·rw[if_neg hE0,if_neg hE0]at hw5
     obtain⟨g',c',W',hrun,hP⟩:=(HP4.out.stood hw5 hb5 hk5 b5.size hn5).fall hlt hm (.inr (by rw[HE'.out];exact hE0))
     have HP':=Lib.hid hP
     rw[hp]at hrun
     have hq2:(E' !=0)=true:=by simpa using hE0
     clear hP hw5 k5
     go_wp2
     go_roundw
     case rel=>exact⟨j+1,M1,M2++[L[j]],ad5,n5,d5,A1,c1,some ⟨g',0,none⟩,c',by omega,by go_num,rfl,by simp,HP'⟩
     case measure=>first|(simp[intOf];done)|(simp[intOf];omega)
  ·obtain rfl:j=L.length:=by omega
   have hP:=HP.out
   have htk:(dls L).take L.length=dls L:=by rw[←hlen,List.take_length]
   obtain⟨A1',c1',e1,hs1,hcc1,_⟩:=own_seg layD hP.o1
   obtain⟨A2',c2',e2,hs2,hcc2,_⟩:=own_seg layD hP.o2
   cases e1
   cases e2
   have hm1:=hP.m1
   have hm2:=hP.m2
   rw[htk]at hm1 hm2
   have hD: ∀p∈L,DS wr wr.heap.size p.A1 p.A2 p.x∧p.x.into.length≤p.c1∧p.x.sizes.length≤p.c2:=(HL.out.up hP.bel).each
   have HD1:=Lib.hid (show Dls wr wr.heap.size A1 M1 from⟨hs1,fun p hp=>hD p (hP.all p (.inl hp))⟩)
   have HD2:=Lib.hid (show Dls wr wr.heap.size A2 M2 from⟨hs2,fun p hp=>hD p (hP.all p (.inr hp))⟩)
   have HM1:=Lib.hid hm1
   have HM2:=Lib.hid hm2
   have hfw:=hP.few
   have hbl:=hP.bel
   have hz2:M2.length=0↔(Rt.partGo (dls L) id).2.2=[]:=by rw[←hm2,List.map_eq_nil_iff,List.length_eq_zero_iff]
   have HZ:=Lib.hid hz2
   clear hP hs1 hs2 hD hm1 hm2 hz2 htk HP
   by_cases hM:M2.length=0
   ·have hE5:E=5:=by rw[←HE.out,if_pos (HZ.out.1 hM)]
    subst hE5
    have hq:((M2.length:Int)==0)=true:=by rw[hM];rfl
    go_wp2
    refine bodyPost_ret (v:=.tuple #[.slice none 0 0,.slice none 0 0,.int .i64 5]) (by simp[results,Tryz.results124,go_sem]) rfl ?_
    exact⟨none,0,[],none,0,[],rfl,⟨.inl rfl,fun p hp=>by cases hp⟩,⟨.inl rfl,fun p hp=>by cases hp⟩,rfl,rfl,Nat.zero_le _,Nat.zero_le _,hbl⟩
   ·have hE5:E=0:=by rw[←HE.out,if_neg (fun h=>hM (HZ.out.2 h))]
    subst hE5
    have hq:((M2.length:Int)==0)=false:=beq_eq_false_iff_ne.2 (by omega)
    go_wp2
    refine bodyPost_ret (v:=.tuple #[.slice A1 M1.length c1,.slice A2 M2.length c2,.int .i64 0]) (by simp[results,Tryz.results124,go_sem]) rfl ?_
    exact⟨A1,c1,M1,A2,c2,M2,rfl,HD1.out,HD2.out,HM1.out,HM2.out,by omega,by omega,hbl⟩
end Go.Proofs.YtcffonnijhhhiaaGreatDoor
namespace Go.Proofs.YtcffonnijhhhiaaGreatDoor
open Go Go.RowKit Go.Maps Mp
attribute [-simp] Prod.forall Prod.exists
attribute [-go_sem] loadVar storeVar Builtin.append_
attribute [local go_sem] lk_int lk_u8 lk_ints lk_state lk_ids
set_option maxRecDepth 100000 in
set_option maxHeartbeats 1000000 in
theorem ids_a (A : Option Addr) (c : Nat) (L : List Dp) (w : World) (hL : Dls w w.heap.size A L) (hm : L.length ≤ 1000000) : Calls Tryz.prog 123 #[.slice A L.length c] w (EndN w ((dls L).map (·.id))) := by
 have HL:=Lib.hid hL
 clear hL
 go_enter Tryz.func123,Tryz.ntmps123
 go_wp2
 go_loopw [3, 8] (fun v i wr => ∃ (j : Nat) (A' : Option Addr) (c' : Nat), j ≤ L.length ∧ i = .int .i64 j ∧ v = .slice A' j c' ∧ Hid (wr.ownsRow w.heap.size 3 1 (.slice A' j c') j ((((dls L).map (·.id)).take j).flatMap encInt)) ∧ Below w.heap.size w wr) (fun _ i _ => L.length - (intOf i).toNat)
 case atStart=>exact⟨0,none,0,by omega,rfl,rfl,Lib.hid (World.ownsRow_nil _ _ _ _),Below.refl _ _⟩
 case round=>
  obtain⟨j,A',c',hj,rfl,rfl,HO,hb⟩:=hrel
  by_cases hlt:j<L.length
  ·obtain⟨b,off,hA,hbb,hld,_⟩:=(HL.out.below hb).at_ hlt
   have etk : ((dls L).map (·.id)).take (j + 1) = ((dls L).map (·.id)).take j ++ [L[j].x.id] := by
    rw[List.take_succ_eq_append_getElem (by simpa using hlt)]
    simp
   have elk : (((dls L).map (·.id)).take j).length = j := by rw [List.length_take]; simp; omega
   obtain⟨p,hp⟩: ∃p,L[j]=p:=⟨_,rfl⟩
   rw[hp]at hld etk
   obtain⟨w4,st4,k4,g4⟩:=st_row (wr.alloc (.cells zcs 24)) wr.heap.size 24 24 zcs (xcs p.x p.A1 p.A2 p.c1 p.c2) (heap_alloc_new wr _) info_deal rfl (by simp[Value.oneCell'])
   have b4:Below wr.heap.size wr w4:=(Below.alloc (Below.refl _ wr) (Nat.le_refl _) _).grown g4 (by simp) (by intro k e;cases e;omega)
   obtain⟨hc4,hf4⟩:=blk_cells k4
   have hid4:=hc4 0
   have zr:=hb.size
   have z4:=b4.size
   have o4 : w4.ownsRow w.heap.size 3 1 (.slice A' j c') (((dls L).map (·.id)).take j).length ((((dls L).map (·.id)).take j).flatMap encInt) := by rw [elk]; exact own_below HO.out b4
   obtain⟨g',c2,w6,hrun,ho6,hb6,_⟩:=own_push layI o4 p.x.id #[.int .i64 p.x.id] rfl (by omega) (by decide) (by omega)
   have el : (((dls L).map (·.id)).take j ++ [p.x.id]).length = j + 1 := by rw [List.length_append, elk]; rfl
   rw[el]at hrun ho6
   rw[←etk]at ho6
   have HO6:=Lib.hid ho6
   have hbb6:Below w.heap.size w w6:=(hb.trans (b4.mono zr)).trans hb6
   subst hA
   clear hc4 hf4 k4 g4 o4 ho6 etk elk el hp
   go_wp2
   go_roundw
   case rel=>exact⟨j+1,some ⟨g',0,none⟩,c2,by omega,by go_num,rfl,HO6,hbb6⟩
   case measure=>first|(simp[intOf];done)|(simp[intOf];omega)
  ·obtain rfl:j=L.length:=by omega
   have ho:=HO.out
   rw[List.take_of_length_le (by simp)]at ho
   have HF := Lib.hid (show EndN w ((dls L).map (·.id)) (.returned (.slice A' L.length c')) wr from ⟨A', c', by simp, by simpa using ho, hb⟩)
   clear ho HO
   go_wp2
   go_ret
   exact HF.out
set_option maxRecDepth 100000 in
theorem falls_a (A : Option Addr) (c : Nat) (L : List Dp) (id : Int) (w : World) (hL : Dls w w.heap.size A L) (hm : L.length ≤ 1000000) : Calls Tryz.prog 52 #[.slice A L.length c, .int .i64 id] w fun e w' => ∃ A' c', e = .returned (.tuple #[.slice A' ((Rt.partF (dls L) id).map (·.id)).length c', .int .i64 (Rt.partE (dls L) id)]) ∧
  w'.ownsRow w.heap.size 3 1 (.slice A' ((Rt.partF (dls L) id).map (·.id)).length c') ((Rt.partF (dls L) id).map (·.id)).length (((Rt.partF (dls L) id).map (·.id)).flatMap encInt) ∧ Below w.heap.size w w' := by
 have hp:=parted_a A c L id w hL hm
 clear hL
 obtain⟨E,hE⟩: ∃E,Rt.partE (dls L) id=E:=⟨_,rfl⟩
 obtain⟨F,hF⟩: ∃F,Rt.partF (dls L) id=F:=⟨_,rfl⟩
 unfold EndPt at hp
 rw[hE,hF]at hp
 rw[hE,hF]
 clear hE hF
 go_enter Tryz.func52,Tryz.ntmps52
 go_wp2_with fail
 refine hp.mono ?_
 clear hp
 rintro e w1 ⟨A1,c1,M1,A2,c2,M2,rfl,_,hD2,_,hF,_,hl2,b1⟩
 have hi:=ids_a A2 c2 M2 w1 hD2 (by omega)
 rw[hF]at hi
 have z1:=b1.size
 clear hD2
 go_wp2_with fail
 refine hi.mono ?_
 clear hi
 rintro e w2 ⟨A',c',rfl,ho,b2⟩
 have HO:=Lib.hid ho
 clear ho
 go_wp2
 refine bodyPost_ret (v := .tuple #[.slice A' (F.map (·.id)).length c', .int .i64 E]) (by simp [results, Tryz.results52, go_sem]) rfl ?_
 refine⟨A',c',rfl,⟨HO.out.1,?_⟩,b1.trans (b2.mono z1)⟩
 rcases HO.out.2 with h4|⟨g,cap,cur,h4,h5,h6⟩
 ·exact .inl h4
 ·exact .inr ⟨g,cap,cur,h4,by omega,h6⟩
end Go.Proofs.YtcffonnijhhhiaaGreatDoor
