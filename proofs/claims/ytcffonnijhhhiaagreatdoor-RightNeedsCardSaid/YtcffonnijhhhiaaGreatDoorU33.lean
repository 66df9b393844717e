/- Part U33 of the proof: Nl. -/
import Derived.Test.YtcffonnijhhhiaaGreatDoorProg
import Derived.WalkKit
import Derived.WalkLawsBesides
import Derived.WalkSpells
import Derived.Handy
import Derived.Lib.Hide
import Derived.Great.BuildSlice
import Derived.Deep.QuietTactic
import Derived.BigQuiet
import Derived.Deep.RegionHeld3
import Derived.Deep.DeepCutAuto
import Derived.Test.YtcffonnijhhhiaaGreatDoorU32
set_option linter.all false
set_option linter.unusedSimpArgs false
set_option linter.unusedVariables false
set_option linter.unusedSectionVars false
namespace Go.Proofs.Rt
theorem part_mem (id:Int): ∀(m:List Deal) (q:St×List Deal×List Deal),(q.2.2≠ []∨ ∃x∈m,x.id=id)→(m.foldl (part1 id) q).2.2≠ []
 | [],q,h=>by
  rcases h with h|⟨x,hx,_⟩
  ·exact h
  ·cases hx
 |x::m,q,h=>by
  rw[List.foldl_cons]
  refine part_mem id m _ ?_
  by_cases e:x.id=id
  ·refine .inl ?_
   unfold part1
   rw[if_pos (.inl e)]
   simp
  ·rcases h with h|⟨y,hy,e2⟩
   ·refine .inl ?_
    unfold part1
    split
    ·simp
    ·exact h
   ·rcases List.mem_cons.1 hy with rfl|hy
    ·exact absurd e2 e
    ·exact .inr ⟨y,hy,e2⟩
theorem partE_zero {l:List Deal}{x:Deal}(hc:(check l).2=0)(hx:x∈l):partE l x.id=0:=by
 unfold partE
 rw[if_neg (by rw[hc];decide),if_neg]
 exact part_mem x.id l _ (.inr ⟨x,hx,rfl⟩)
def fallsWith (l : List Deal) (id : Int) (x : Deal) : Bool := ((partF l x.id).map (·.id)).contains id
def restN (l : List Deal) (id : Int) (K j : Nat) : List Int := (((l.take K).drop j).filter (fallsWith l id)).map (·.id)
theorem restN_zero {l : List Deal} {id : Int} {K : Nat} (h : idx (fun x => x == id) (l.map (·.id)) = some K) : needsL l id = restN l id K 0 := by
 unfold needsL restN
 rw[h]
 rfl
theorem restN_end (l:List Deal)(id:Int)(K:Nat):restN l id K K=[]:=by
 unfold restN
 rw[List.drop_eq_nil_of_le (by simp;omega)]
 rfl
theorem restN_next {l:List Deal}{id:Int}{K j:Nat}(hj:j<K)(hl:j<l.length):restN l id K j=if fallsWith l id l[j]=true then l[j].id::restN l id K (j+1)else restN l id K (j+1):=by
 unfold restN
 rw[List.drop_eq_getElem_cons (by simp;omega),List.filter_cons,List.getElem_take]
 split<;>simp
end Go.Proofs.Rt
namespace Go.Proofs.YtcffonnijhhhiaaGreatDoor
open Go Go.RowKit Go.Maps Mp
attribute [-simp] Prod.forall Prod.exists
attribute [-go_sem] loadVar storeVar Builtin.append_
attribute [local go_sem] lk_int lk_u8 lk_ints
theorem Ints.tail {w:World}{B:Nat}{A:Option Addr}{a:Int}{l:List Int}(h:Ints w B A (a::l)): ∃b off,A=some ⟨b,off,none⟩∧w.cell? ⟨b,off,none⟩=some (.int .i64 a)∧Ints w B (some ⟨b,off+1,none⟩) l:=by
 rcases h with h|⟨b,off,hA,hb,hc⟩
 ·cases h
 ·refine⟨b,off,hA,?_,.inr ⟨b,off+1,rfl,hb,fun k x hk j v hv=> ?_⟩⟩
  ·have:=hc 0 a rfl 0 _ rfl
   simpa using this
  ·have:=hc (k+1) x hk j v hv
   rwa[show off+1+k*1+j=off+(k+1)*1+j by omega]
set_option maxRecDepth 100000 in
set_option maxHeartbeats 4000000 in
theorem rightNeeds_w (A:Option Addr)(c:Nat)(L:List Dp)(id:Int)(w:World)(hE:Env w)(h:Dlo w w.heap.size A L)(hc:L.length≤c)(hm:c≤maxLen):Calls Tryz.prog 10 #[.slice A L.length c,.int .i64 id] w fun e w'=>e=.returned (.bool true)∧Below w.heap.size w w':=by
 have hfe:=few_a A c L 20 w h.seg (Nat.le_trans hc hm) (by decide)
 have HE:=Lib.hid hE
 by_cases hf:Rt.few (dls L) 20=true
 case neg=>
  have hf2:Rt.few (dls L) 20=false:=by simpa using hf
  rw[hf2]at hfe
  have hal:=alive_a w hE
  clear hf hf2 h hE hc hm
  go_enter Tryz.func10,Tryz.ntmps10
  go_wp2_with fail
  refine hfe.mono ?_
  clear hfe
  rintro e w' ⟨rfl,rfl⟩
  go_wp2_with fail
  refine hal.mono ?_
  rintro e w1 ⟨rfl,hb⟩
  go_wp2
  go_ret
  exact⟨rfl,hb⟩
 rw[hf]at hfe
 obtain⟨hD,hl20⟩:=h.few hf
 have hne:=needsOf_a A c L id w hD (by omega) hc
 clear hf h hE
 obtain⟨E,hEE⟩: ∃E,Rt.needsE (dls L) id=E:=⟨_,rfl⟩
 by_cases h0:E=0
 case neg=>
  have hr:Rt.needsR (dls L) id=[]:=by unfold Rt.needsR;rw[if_neg (by rw[hEE];exact h0)]
  rw[hr,hEE]at hne
  have hq:(E !=0)=true:=by simpa using h0
  clear h0 hEE hr hD hl20 hc hm
  go_enter Tryz.func10,Tryz.ntmps10
  go_wp2_with fail
  refine hfe.mono ?_
  clear hfe
  rintro e w' ⟨rfl,rfl⟩
  go_wp2_with fail
  refine hne.mono ?_
  clear hne
  rintro e w1 ⟨A',c',rfl,_,b1⟩
  have hal:=alive_a w1 (HE.out.up b1)
  go_wp2_with fail
  refine hal.mono ?_
  clear hal
  rintro e w2 ⟨rfl,b2⟩
  go_wp2
  go_ret
  exact⟨rfl,b1.trans (b2.mono b1.size)⟩
 subst h0
 obtain ⟨K, hK, hck⟩ : ∃ K, Rt.idx (fun x => x == id) ((dls L).map (·.id)) = some K ∧ (Rt.check (dls L)).2 = 0 := by
  unfold Rt.needsE at hEE
  by_cases h1:(Rt.check (dls L)).2=0
  ·rw[if_neg (by rw[h1];decide)]at hEE
   cases hi : Rt.idx (fun x => x == id) ((dls L).map (·.id)) with
   |some K=>exact⟨K,rfl,h1⟩
   |none=>rw[hi]at hEE;simp at hEE
  ·rw[if_pos h1]at hEE
   exact absurd hEE h1
 obtain⟨hKl,hK1,hK2⟩:=idx_some hK
 have hKL:K<L.length:=by simpa using hKl
 have HKid:Hid (∀j (hj:j<L.length),(L[j].x.id=id↔j=K)∨K<j):=Lib.hid fun j hj=>by
  rcases Nat.lt_trichotomy j K with e|e|e
  ·refine .inl ⟨fun h=> ?_,fun h=>by omega⟩
   have:=hK2 j (by simpa using hj) e
   simp at this
   exact absurd h this
  ·subst e
   refine .inl ⟨fun _=>rfl,fun _=> ?_⟩
   simpa using hK1
  ·exact .inr e
 have hR:Rt.needsR (dls L) id=Rt.restN (dls L) id K 0:=by unfold Rt.needsR;rw[if_pos hEE,Rt.restN_zero hK]
 rw[hR,hEE]at hne
 have HD:=Lib.hid hD
 have HCK:=Lib.hid hck
 have HC:=Lib.hid hc
 clear hR hEE hK hKl hK1 hK2 hD hck hc hm
 go_enter Tryz.func10,Tryz.ntmps10
 go_wp2_with fail
 refine hfe.mono ?_
 clear hfe
 rintro e w' ⟨rfl,rfl⟩
 go_wp2_with fail
 refine hne.mono ?_
 clear hne
 rintro e w1 ⟨A1,c1,rfl,ho1,b1⟩
 obtain⟨A9,c9,e9,hs1,hc1,_⟩:=own_seg layI ho1
 cases e9
 have HI0:=Lib.hid (And.intro hs1 hc1)
 have HB1:=Lib.hid b1
 clear ho1 hs1 hc1 b1
 go_wp2
 go_loopw [5,31] (fun v i wr=> ∃(j:Nat) (A':Option Addr) (c':Nat) (l:List Int),j≤K∧i=.int .i64 j∧v=.slice A' l.length c'∧Hid (Rt.restN (dls L) id K j=l)∧Hid (Ints wr wr.heap.size A' l∧l.length≤c')∧Hid (Below w'.heap.size w' wr)) (fun _ i _=>L.length-(intOf i).toNat)
 case atStart=>exact⟨0,A1,c1,Rt.restN (dls L) id K 0,by omega,rfl,rfl,Lib.hid rfl,HI0,HB1⟩
 case round=>
  obtain⟨j,A',c',l,hj,rfl,rfl,HR,HI,HBr⟩:=hrel
  have hjl:j<L.length:=by omega
  have hji:(j:Int)<(L.length:Int):=by omega
  obtain⟨b,off,hA,hbb,hld,_⟩:=(HD.out.below HBr.out).at_ hjl
  have hkj:=HKid.out j hjl
  have hxm:L[j].x∈dls L:=List.mem_map.2 ⟨L[j],List.getElem_mem hjl,rfl⟩
  have hpe:=Rt.partE_zero HCK.out hxm
  have hnx:j<K→l=if Rt.fallsWith (dls L) id L[j].x=true then L[j].x.id::Rt.restN (dls L) id K (j+1)else Rt.restN (dls L) id K (j+1):=fun hlt=>by
   rw[←HR.out,Rt.restN_next hlt (by simpa using hjl)]
   simp
  have HNX:=Lib.hid hnx
  obtain⟨p,hp⟩: ∃p,L[j]=p:=⟨_,rfl⟩
  rw[hp]at hld hkj hpe HNX
  obtain⟨w4,st4,k4,g4⟩:=st_row (wr.alloc (.cells zcs 24)) wr.heap.size 24 24 zcs (xcs p.x p.A1 p.A2 p.c1 p.c2) (heap_alloc_new wr _) info_deal rfl (by simp[Value.oneCell'])
  have b4:Below wr.heap.size wr w4:=(Below.alloc (Below.refl _ wr) (Nat.le_refl _) _).grown g4 (by simp) (by intro k e;cases e;omega)
  obtain⟨hc4,hf4⟩:=blk_cells k4
  have hid4:=hc4 0
  have HK4:=Lib.hid k4
  have HB4:=Lib.hid (HBr.out.trans (b4.mono HBr.out.size))
  have HI4:=Lib.hid (And.intro (HI.out.1.up b4) HI.out.2)
  have HX4:=Lib.hid (Nat.lt_of_lt_of_le (show wr.heap.size<w4.heap.size from(Array.getElem?_eq_some_iff.1 k4).1) (Nat.le_refl _))
  subst hA
  clear hc4 hf4 k4 g4 b4 hp hxm hnx
  by_cases hlt:j<K
  ·have hnid:(p.x.id==id)=false:=by
    rw[beq_eq_false_iff_ne]
    intro e
    rcases hkj with h|h
    ·have:=h.1 e;omega
    ·omega
   have hfa:=falls_a (some ⟨b,off,none⟩) c L p.x.id w4 (HD.out.up HB4.out) (by omega)
   rw[hpe]at hfa
   obtain ⟨F, hF⟩ : ∃ F, (Rt.partF (dls L) p.x.id).map (·.id) = F := ⟨_, rfl⟩
   rw[hF]at hfa
   have hFl:F.length≤1000000:=by
    rw[←hF,List.length_map]
    have:=Rt.partF_len (dls L) p.x.id
    simp at this
    omega
   have HFW:Hid (Rt.fallsWith (dls L) id p.x=F.contains id):=Lib.hid (by unfold Rt.fallsWith;rw[hF])
   have HLT:=Lib.hid hlt
   clear hF hpe hkj
   go_wp2_with fail
   refine hfa.mono ?_
   clear hfa
   rintro e w5 ⟨A5,c5,rfl,ho5,b5⟩
   obtain⟨A9,c9,e9,hs5,_⟩:=own_seg layI ho5
   cases e9
   have hco:=hasI_a A5 c5 F id w5 hs5 hFl
   have k5:=(b5.block _ HX4.out).trans HK4.out
   obtain⟨hc5,hf5⟩:=blk_cells k5
   have hid5:=hc5 0
   have HB5:=Lib.hid (HB4.out.trans (b5.mono HB4.out.size))
   have HI5:=Lib.hid (And.intro (HI4.out.1.up b5) HI4.out.2)
   clear ho5 hs5 hc5 hf5 k5 b5 st4 hld hid4
   cases hF2:F.contains id with
   |false=>
    rw[hF2]at hco
    have HRN:Hid (Rt.restN (dls L) id K (j+1)=l):=Lib.hid (by
     have:=HNX.out HLT.out
     rw[HFW.out,hF2]at this
     simpa using this.symm)
    clear hF2
    go_wp2_with fail
    refine hco.mono ?_
    clear hco
    rintro e w6 ⟨rfl,rfl⟩
    go_wp2
    go_roundw
    case rel=>exact⟨j+1,A',c',l,by omega,by go_num,rfl,HRN,HI5,HB5⟩
    case measure=>first|(simp[intOf];done)|(simp[intOf];omega)
   |true=>
    rw[hF2]at hco
    obtain⟨m,hmm⟩: ∃m,Rt.restN (dls L) id K (j+1)=m:=⟨_,rfl⟩
    obtain rfl:l=p.x.id::m:=by
     have:=HNX.out HLT.out
     rw[HFW.out,hF2,hmm]at this
     simpa using this
    have HRN:=Lib.hid hmm
    clear hF2 hmm
    obtain⟨bi,oi,rfl,q1,hit⟩:=Ints.tail HI5.out.1
    have HIT:=Lib.hid hit
    obtain⟨W,hW⟩: ∃W:World,W=w5.drew:=⟨_,rfl⟩
    have q1w:W.cell? ⟨bi,oi,none⟩=some (.int .i64 p.x.id):=by rw[hW];exact q1
    have hidw:W.cell? ⟨wr.heap.size,0,none⟩=some (.int .i64 p.x.id):=by rw[hW];exact hid5
    have HBW:Hid (Below w'.heap.size w' W):=Lib.hid (by rw[hW];exact below_drew HB5.out)
    have HITW:Hid (Ints W W.heap.size (some ⟨bi,oi+1,none⟩) m):=Lib.hid (by rw[hW];exact hit)
    have HW:=Lib.hid hW
    have hml:m.length+1≤c':=by simpa using HI5.out.2
    have hz0:((((m.length+1:Nat)):Int)==0)=false:=by rw[beq_eq_false_iff_ne];omega
    have hz1:(((m.length:Int)+1)==0)=false:=by rw[beq_eq_false_iff_ne];omega
    have hz2: ¬((m.length:Int)+1=0):=by omega
    have hz3:(0:Int)<(m.length:Int)+1:=by omega
    have hz4:(1:Int)≤(m.length:Int)+1:=by omega
    have hz5:(p.x.id !=p.x.id)=false:=by simp
    clear hW q1 hit hid5
    by_cases hc1:c'=1
    ·subst hc1
     have hm0:m=[]:=List.length_eq_zero_iff.1 (by omega)
     subst hm0
     have HIE:Hid (Ints W W.heap.size (some ⟨bi,oi,none⟩) ([]:List Int)∧([]:List Int).length≤0):=Lib.hid ⟨.inl rfl,Nat.le_refl _⟩
     clear hml hz0 hz1 hz2 hz3 hz4
     go_wp2_with fail
     refine hco.mono ?_
     clear hco
     rintro e w6 ⟨rfl,rfl⟩
     go_wp2
     refine still_all HW.out (by kernel_rfl) (by kernel_rfl) ?_
     repeat still_step
     refine wpStill_nil ?_
     go_wp2
     go_roundw
     case rel=>exact⟨j+1,_,_,[],by omega,by go_num,rfl,HRN,HIE,HBW⟩
     case measure=>first|(simp[intOf];done)|(simp[intOf];omega)
    ·have HIE:Hid (Ints W W.heap.size (some ⟨bi,oi+1,none⟩) m∧m.length≤c'-1):=Lib.hid ⟨HITW.out,by omega⟩
     go_wp2_with fail
     refine hco.mono ?_
     clear hco
     rintro e w6 ⟨rfl,rfl⟩
     go_wp2
     refine still_all HW.out (by kernel_rfl) (by kernel_rfl) ?_
     repeat still_step
     refine wpStill_nil ?_
     go_wp2
     go_roundw
     case rel=>exact⟨j+1,_,_,m,by omega,by go_num,rfl,HRN,HIE,HBW⟩
     case measure=>first|(simp[intOf];done)|(simp[intOf];omega)
  ·obtain rfl:j=K:=by omega
   have hideq:p.x.id=id:=by
    rcases hkj with h|h
    ·exact h.2 rfl
    ·omega
   have hl0:l=[]:=by rw[←HR.out];exact Rt.restN_end _ _ _
   subst hl0
   have hq:(p.x.id==id)=true:=by rw[beq_iff_eq];exact hideq
   have hal:=alive_a w4 (HE.out.up HB4.out)
   clear hideq hpe hkj hlt
   go_wp2_with fail
   refine hal.mono ?_
   clear hal
   rintro e w5 ⟨rfl,b5⟩
   go_wp2
   go_ret
   exact⟨rfl,HB4.out.trans (b5.mono HB4.out.size)⟩
end Go.Proofs.YtcffonnijhhhiaaGreatDoor
