/- Part Va00 of the proof: Ya Yw Ra Cm Rb Yb. -/
import Derived.Test.YtcffonnijhhhiaaGreatDoorProg
import Derived.WalkKit
import Derived.WalkLawsBesides
import Derived.WalkSpells
import Derived.Handy
import Derived.Lib.Hide
import Derived.Great.BuildSlice
import Derived.Deep.QuietTactic
import Derived.BigQuiet
import Derived.Deep.RegionHeld3
import Derived.Deep.DeepCutAuto
import Derived.Test.YtcffonnijhhhiaaGreatDoorU32
import Derived.Test.YtcffonnijhhhiaaGreatDoorU30
import Derived.Test.YtcffonnijhhhiaaGreatDoorU26
import Derived.Test.YtcffonnijhhhiaaGreatDoorU24
import Derived.Test.YtcffonnijhhhiaaGreatDoorU25
import Derived.Deep.CutBlock
import Derived.Test.YtcffonnijhhhiaaGreatDoorU22
import Derived.Test.YtcffonnijhhhiaaGreatDoorU11
set_option linter.all false
set_option linter.unusedSimpArgs false
set_option linter.unusedVariables false
set_option linter.unusedSectionVars false
set_option linter.all false
set_option linter.unusedSimpArgs false
set_option linter.unusedVariables false
set_option linter.unusedSectionVars false
namespace Go.Proofs.Rt
theorem chk_app (l:List Deal)(x:Deal):(check (l++[x])).2=0↔(check l).2=0∧refused (stOf l) l x=0:=by
 unfold check
 rw[checkGo_iff,checkGo_iff,right_app]
 simp[rightFrom,stOf]
theorem stOf_snoc (l:List Deal)(x:Deal):stOf (l++[x])=does (stOf l) x:=by
 unfold stOf
 rw[List.foldl_append]
 rfl
def stayJ (l:List Deal)(id:Int)(j:Nat):List Deal:=(partGo (l.take j) id).2.1
def fallJ (l:List Deal)(id:Int)(j:Nat):List Deal:=(partGo (l.take j) id).2.2
theorem part_ok (id:Int): ∀(l:List Deal) (q:St×List Deal×List Deal),q.1=stOf q.2.1→(check q.2.1).2=0→(l.foldl (part1 id) q).1=stOf (l.foldl (part1 id) q).2.1∧(check (l.foldl (part1 id) q).2.1).2=0
 | [],q,h,h2=>⟨h,h2⟩
 |x::l,q,h,h2=>by
  rw[List.foldl_cons]
  refine part_ok id l _ ?_ ?_
  ·unfold part1
   split
   ·exact h
   ·rw[stOf_snoc,h]
  ·unfold part1
   split
   ·exact h2
   ·rename_i hn
    refine(chk_app _ _).2 ⟨h2,?_⟩
    rw[←h]
    exact Classical.byContradiction fun hc=>hn (.inr hc)
theorem part_split (id:Int): ∀(l:List Deal) (q:St×List Deal×List Deal),∃a b,(l.foldl (part1 id) q).2.1=q.2.1++a∧(l.foldl (part1 id) q).2.2=q.2.2++b∧a.length+b.length=l.length∧ ∀x∈a,x∈l
 | [],q=>⟨[],[],by simp,by simp,rfl,by simp⟩
 |x::l,q=>by
  rw[List.foldl_cons]
  obtain⟨a,b,h1,h2,h3,h4⟩:=part_split id l (part1 id q x)
  by_cases h:x.id=id∨refused q.1 q.2.1 x≠0
  ·have e:part1 id q x=(q.1,q.2.1,q.2.2++[x]):=by unfold part1;rw[if_pos h]
   rw[e]at h1 h2
   rw[e]
   exact⟨a,x::b,h1,by rw[h2];simp,by simp;omega,fun y hy=>List.mem_cons_of_mem _ (h4 y hy)⟩
  ·have e:part1 id q x=(does q.1 x,q.2.1++[x],q.2.2):=by unfold part1;rw[if_neg h]
   rw[e]at h1 h2
   rw[e]
   refine⟨x::a,b,by rw[h1];simp,h2,by simp;omega,fun y hy=> ?_⟩
   rcases List.mem_cons.1 hy with rfl|hy
   ·simp
   ·exact List.mem_cons_of_mem _ (h4 y hy)
theorem part_take (l:List Deal)(id:Int)(j:Nat):partGo l id=(l.drop j).foldl (part1 id) (partGo (l.take j) id):=by
 unfold partGo
 rw[←List.foldl_append,List.take_append_drop]
theorem partGo_next {l:List Deal}{id:Int}{j:Nat}(h:j<l.length):partGo (l.take (j+1)) id=part1 id (partGo (l.take j) id) l[j]:=by
 rw[List.take_succ_eq_append_getElem h,partGo_snoc]
theorem begun_ok (l:List Deal)(id:Int):(partGo l id).1=stOf (partGo l id).2.1∧(check (partGo l id).2.1).2=0:=part_ok id l _ rfl rfl
theorem none_fell (id:Int): ∀(m l:List Deal),(∀x∈m,True)→(l.foldl (part1 id) (St.begun,[],[])).2.2=[]→(l.foldl (part1 id) (St.begun,[],[])).2.1=l∧(l.foldl (part1 id) (St.begun,[],[])).1=stOf l:=fun _ l _ h=>by
 obtain⟨a,b,h1,h2,h3,h4⟩:=part_split id l (St.begun,[],[])
 have key: ∀(l:List Deal) (q:St×List Deal×List Deal),(l.foldl (part1 id) q).2.2=[]→(l.foldl (part1 id) q).2.1=q.2.1++l∧q.2.2=[]:=by
  intro l
  induction l with
  |nil=>intro q h;exact⟨by simp,h⟩
  |cons x l ih=>
   intro q h
   rw[List.foldl_cons]at h ⊢
   obtain⟨e1,e2⟩:=ih _ h
   by_cases c:x.id=id∨refused q.1 q.2.1 x≠0
   ·unfold part1 at e2
    rw[if_pos c]at e2
    simp at e2
   ·rw[e1]
    unfold part1 at e2 ⊢
    rw[if_neg c]at e2 ⊢
    exact⟨by simp,e2⟩
 have e:=(key l _ h).1
 rw[List.nil_append]at e
 exact⟨e,by rw[(part_ok id l (St.begun,[],[]) rfl rfl).1,e]⟩
theorem fallen_at {l : List Deal} {id : Int} (hc : (check l).2 = 0) {j : Nat} (h : j < l.length) :
    (check (stayJ l id j)).2 = 0 ∧ stayJ l id l.length = stayJ l id j ++ (stayJ l id l.length).drop (stayJ l id j).length ∧ (stayJ l id j).length + (fallJ l id j).length = j ∧
    ((l[j].id = id ∨ refused (stOf (stayJ l id j)) (stayJ l id j) l[j] ≠ 0) ∧ (stayJ l id (j + 1) = stayJ l id j ∧ fallJ l id (j + 1) = fallJ l id j ++ [l[j]]) ∧ (fallJ l id l.length)[(fallJ l id j).length]? = some l[j] ∧ (∀ y, (stayJ l id l.length)[(stayJ l id j).length]? = some y → y.id ≠ l[j].id) ∧ ((fallJ l id j).length = 0 → l[j].id = id) ∨
     stayJ l id (j + 1) = stayJ l id j ++ [l[j]] ∧ fallJ l id (j + 1) = fallJ l id j ∧ (stayJ l id l.length)[(stayJ l id j).length]? = some l[j]) := by
  obtain ⟨o1, o2⟩ := begun_ok (l.take j) id
  obtain ⟨a0, b0, p1, p2, p3, p4⟩ := part_split id (l.take j) (St.begun, [], [])
  obtain ⟨a, b, q1, q2, q3, q4⟩ := part_split id (l.drop (j + 1)) (partGo (l.take (j + 1)) id)
  rw [← part_take] at q1 q2
  have ht : l.take l.length = l := List.take_length
  have hsn : stayJ l id l.length = (partGo l id).2.1 := by unfold stayJ; rw [ht]
  have hfn : fallJ l id l.length = (partGo l id).2.2 := by unfold fallJ; rw [ht]
  have hn := partGo_next (id := id) h
  have hlen : (stayJ l id j).length + (fallJ l id j).length = j := by
    unfold stayJ fallJ partGo
    rw [p1, p2]
    simp
    rw [List.length_take, Nat.min_eq_left (Nat.le_of_lt h)] at p3
    exact p3
  have hpre : ∃ r, stayJ l id (j + 1) = stayJ l id j ++ r := by
    unfold stayJ
    rw [hn]
    unfold part1
    split
    · exact ⟨[], by simp⟩
    · exact ⟨_, rfl⟩
  refine ⟨o2, ?_, hlen, ?_⟩
  · obtain ⟨r, hr⟩ := hpre
    have e : stayJ l id l.length = stayJ l id j ++ (r ++ a) := by rw [hsn, q1, ← List.append_assoc, ← hr]; rfl
    rw [e, List.drop_left]
  · by_cases c : l[j].id = id ∨ refused (partGo (l.take j) id).1 (partGo (l.take j) id).2.1 l[j] ≠ 0
    · left
      have e1 : stayJ l id (j + 1) = stayJ l id j := by unfold stayJ; rw [hn]; unfold part1; rw [if_pos c]
      have e2 : fallJ l id (j + 1) = fallJ l id j ++ [l[j]] := by unfold fallJ; rw [hn]; unfold part1; rw [if_pos c]
      have ids : ∀ y ∈ l.drop (j + 1), y.id ≠ l[j].id := fun y hy => by
        have hr : rightFrom St.begun [] (l.take (j + 1) ++ l.drop (j + 1)) := by
          rw [List.take_append_drop]
          exact (checkGo_iff _ _ _).1 hc
        have hr2 := ((right_app _ _ _ _).1 hr).2
        rw [List.nil_append] at hr2
        obtain ⟨i, hi, rfl⟩ := List.getElem_of_mem hy
        have hr3 : rightFrom (List.foldl does St.begun (l.take (j + 1))) (l.take (j + 1)) ((l.drop (j + 1)).take i ++ (l.drop (j + 1)).drop i) := by rw [List.take_append_drop]; exact hr2
        have hr4 := ((right_app _ _ _ _).1 hr3).2
        rw [List.drop_eq_getElem_cons hi] at hr4
        obtain ⟨_, _, g, _⟩ := refused_zero hr4.1
        have hm : l[j] ∈ l.take (j + 1) := List.mem_take_iff_getElem.2 ⟨j, by omega, rfl⟩
        have := g l[j] (List.mem_append_left _ hm)
        exact fun e => this e.symm
      refine ⟨?_, ⟨e1, e2⟩, ?_, fun y hy => ?_, fun h0 => ?_⟩
      · rw [o1] at c
        exact c
      · have : fallJ l id l.length = fallJ l id j ++ (l[j] :: b) := by
          rw [hfn, q2]
          show fallJ l id (j + 1) ++ b = _
          rw [e2]
          simp
        rw [this, List.getElem?_append_right (Nat.le_refl _)]
        simp
      · have : stayJ l id l.length = stayJ l id j ++ a := by
          rw [hsn, q1]
          show stayJ l id (j + 1) ++ a = _
          rw [e1]
        rw [this, List.getElem?_append_right (Nat.le_refl _)] at hy
        refine ids y (q4 y ?_)
        exact List.mem_of_getElem? hy
      · obtain ⟨u1, u2⟩ := none_fell id [] (l.take j) (by simp) (List.length_eq_zero_iff.1 h0)
        rcases c with c | c
        · exact c
        · exfalso
          apply c
          have hr : rightFrom St.begun [] (l.take j ++ l.drop j) := by
            rw [List.take_append_drop]
            exact (checkGo_iff _ _ _).1 hc
          have hr2 := ((right_app _ _ _ _).1 hr).2
          rw [List.nil_append, List.drop_eq_getElem_cons h] at hr2
          unfold partGo
          rw [u1, u2]
          exact hr2.1
    · right
      have e1 : stayJ l id (j + 1) = stayJ l id j ++ [l[j]] := by unfold stayJ; rw [hn]; unfold part1; rw [if_neg c]
      have e2 : fallJ l id (j + 1) = fallJ l id j := by unfold fallJ; rw [hn]; unfold part1; rw [if_neg c]
      refine ⟨e1, e2, ?_⟩
      have : stayJ l id l.length = stayJ l id j ++ (l[j] :: a) := by
        rw [hsn, q1]
        show stayJ l id (j + 1) ++ a = _
        rw [e1]
        simp
      rw [this, List.getElem?_append_right (Nat.le_refl _)]
      simp
theorem part_ends {l:List Deal}{id:Int}(h:partE l id=0):(check l).2=0∧partS l id=stayJ l id l.length∧partF l id=fallJ l id l.length∧(partS l id).length+(partF l id).length=l.length∧(check (partS l id)).2=0∧ ∃z m,partF l id=z::m∧z.id=id:=by
 have ht:l.take l.length=l:=List.take_length
 obtain⟨h0,h1⟩:(check l).2=0∧(partGo l id).2.2≠ []:=by
  unfold partE at h
  by_cases c:(check l).2≠0
  ·rw[if_pos c]at h
   exact absurd h c
  ·rw[if_neg c]at h
   refine⟨Classical.not_not.1 c,fun e=> ?_⟩
   rw[if_pos e]at h
   exact absurd h (by decide)
 have es:partS l id=stayJ l id l.length:=by unfold partS stayJ;rw[if_pos h,ht]
 have ef:partF l id=fallJ l id l.length:=by unfold partF fallJ;rw[if_pos h,ht]
 obtain⟨a,b,p1,p2,p3,_⟩:=part_split id l (St.begun,[],[])
 have hl:(stayJ l id l.length).length+(fallJ l id l.length).length=l.length:=by
  unfold stayJ fallJ
  rw[ht]
  unfold partGo
  rw[p1,p2]
  simpa using p3
 refine⟨h0,es,ef,by rw[es,ef];exact hl,by rw[es];exact(begun_ok _ id).2,?_⟩
 have key: ∀j,j≤l.length→fallJ l id j=[]∨ ∃z m,fallJ l id j=z::m∧z.id=id:=by
  intro j
  induction j with
  |zero=>intro _;left;rfl
  |succ j ih=>
   intro hj
   have hj':j<l.length:=hj
   obtain⟨_,_,_,hh⟩:=fallen_at (id:=id) h0 hj'
   rcases hh with ⟨_,⟨_,e⟩,_,_,g⟩|⟨_,e,_⟩
   ·right
    rcases ih (by omega)with h|⟨z,m,h,hz⟩
    ·rw[h]at g
     exact⟨l[j],[],by rw[e,h];rfl,g rfl⟩
    ·exact⟨z,m++[l[j]],by rw[e,h];rfl,hz⟩
   ·rw[e]
    exact ih (by omega)
 rcases key l.length (Nat.le_refl _)with h|⟨z,m,h,hz⟩
 ·exfalso
  apply h1
  unfold fallJ at h
  rwa[ht]at h
 ·exact⟨z,m,by rw[ef,h],hz⟩
end Go.Proofs.Rt
set_option linter.all false
set_option linter.unusedSimpArgs false
set_option linter.unusedVariables false
set_option linter.unusedSectionVars false
namespace Go.Proofs.YtcffonnijhhhiaaGreatDoor
open Go Go.RowKit Go.Maps Mp
attribute [-simp] Prod.forall Prod.exists
attribute [-go_sem] loadVar storeVar Builtin.append_
attribute [local go_sem] lk_int lk_u8 lk_ints
set_option maxRecDepth 100000 in
theorem without_a (A:Option Addr)(c:Nat)(L:List Dp)(id:Int)(w:World)(hL:Dls w w.heap.size A L)(hm:L.length≤1000000):Calls Tryz.prog 57 #[.slice A L.length c,.int .i64 id] w fun e w'=> ∃A' c' M,e=.returned (.tuple #[.slice A' M.length c',.int .i64 (Rt.partE (dls L) id)])∧
  Dls w' w'.heap.size A' M∧dls M=Rt.partS (dls L) id∧M.length≤c'∧From w.heap.size A'∧Below w.heap.size w w':=by
 have hp:=parted_a A c L id w hL hm
 clear hL
 obtain⟨E,hE⟩: ∃E,Rt.partE (dls L) id=E:=⟨_,rfl⟩
 obtain⟨F,hF⟩: ∃F,Rt.partS (dls L) id=F:=⟨_,rfl⟩
 unfold EndPt at hp
 rw[hE,hF]at hp
 rw[hE,hF]
 clear hE hF
 go_enter Tryz.func57,Tryz.ntmps57
 go_wp2_with fail
 refine hp.mono ?_
 clear hp
 rintro e w1 ⟨A1,c1,M1,A2,c2,M2,rfl,hD1,_,hS,_,hl1,_,b1⟩
 have hi:=copied_a A1 c1 M1 w1 hD1 (by omega)
 have z1:=b1.size
 clear hD1
 go_wp2_with fail
 refine hi.mono ?_
 clear hi
 rintro e w2 ⟨A',c',M,rfl,hD,hM,hl,hc,hf,_,b2,_⟩
 have HD:=Lib.hid hD
 have HM:=Lib.hid hM
 clear hD hM
 go_wp2
 refine bodyPost_ret (v:=.tuple #[.slice A' M1.length c',.int .i64 E]) (by simp[results,Tryz.results57,go_sem]) rfl ?_
 exact⟨A',c',M,by rw[hl],HD.out,by rw[HM.out,hS],by omega,fun a ha=>by have:=hf a ha;omega,b1.trans (b2.mono z1)⟩
end Go.Proofs.YtcffonnijhhhiaaGreatDoor
set_option linter.all false
set_option linter.unusedSimpArgs false
set_option linter.unusedVariables false
set_option linter.unusedSectionVars false
namespace Go.Proofs.YtcffonnijhhhiaaGreatDoor
open Go Go.RowKit Go.Maps Mp
attribute [-simp] Prod.forall Prod.exists
attribute [-go_sem] loadVar storeVar run_equalIn_agg Builtin.append_
attribute [local go_sem] lk_int lk_u8 lk_ints lk_sL lk_sE lk_sS lk_holds
theorem Rt.eqBy_true_len {α β:Type}{p:α→β→Bool}{l:List α}{m:List β}(h:Rt.eqBy p l m=true):l.length=m.length:=by
 by_cases e:l.length=m.length
 ·exact e
 ·rw[Rt.eqBy_len e]at h
  cases h
theorem below_drewQ {B:Nat}{a w:World}(h:Below B a w)(n:Nat):Below B a (w.drewN n):=⟨h.os,h.tape,h.output,h.size,h.block⟩
theorem hid_box2 {w:World}(ra rb:Array Value)(t:TypeId):
  Below w.heap.size w ((w.alloc (.cells ra t (0,0))).alloc (.cells rb t (0,0)))∧((w.alloc (.cells ra t (0,0))).alloc (.cells rb t (0,0))).heap[w.heap.size]?=some (.cells ra t (0,0))∧
  ((w.alloc (.cells ra t (0,0))).alloc (.cells rb t (0,0))).heap[w.heap.size+1]?=some (.cells rb t (0,0))∧((w.alloc (.cells ra t (0,0))).alloc (.cells rb t (0,0))).heap.size=w.heap.size+2:=
 ⟨((Below.refl _ w).alloc (Nat.le_refl _) _).alloc (by simp) _,by rw[Below.heap_alloc _ _ _ (by simp)];exact heap_at rfl,heap_at (by simp),by simp⟩
set_option maxRecDepth 100000 in
set_option maxHeartbeats 1000000 in
theorem sameInts_h (A B:Option Addr)(c d:Nat)(l m:List Int)(w:World)(hl:Seg encInt 1 w w.heap.size A l)(hm:Seg encInt 1 w w.heap.size B m)(h1:l.length≤3000000000000):
  Calls Tryz.prog 99 #[.slice A l.length c,.slice B m.length d] w fun e w'=>e=.returned (.bool (Rt.eqBy (fun a b:Int=>decide (a=b)) l m))∧Below w.heap.size w w':=by
 by_cases hne:l.length=m.length
 ·have HL:=Lib.hid hne
  obtain⟨N,hN⟩: ∃N,m.length=N:=⟨_,rfl⟩
  have hNl:l.length=N:=hne.trans hN
  rw[hN,hNl]
  rw[hNl]at h1
  have HNl:=Lib.hid hNl
  have HN:=Lib.hid hN
  have HA:=Lib.hid hl
  have HB:=Lib.hid hm
  clear hne hN hNl hl hm
  go_enter Tryz.func99,Tryz.ntmps99
  go_wp2
  go_loopw [5] (fun i wr=> ∃k:Nat,k≤N∧i=.int .i64 k∧Hid (∀j (hj:j<l.length) (hj':j<m.length),j<k→(fun a b:Int=>decide (a=b)) l[j] m[j]=true)∧Below w.heap.size w wr) (fun i _=>N-(intOf i).toNat)
  case atStart=>exact⟨0,by omega,rfl,Lib.hid (fun j _ _ h=>by omega),Below.refl _ _⟩
  case round=>
   obtain⟨k,hk,rfl,hg,hb⟩:=hrel
   by_cases hlt:k<N
   ·obtain⟨W,hW⟩: ∃W:World,W=wr.drew:=⟨_,rfl⟩
    have b1:Below w.heap.size w W:=by rw[hW];exact below_drew hb
    have HW:=Lib.hid hW
    have HB1:=Lib.hid b1
    clear hW
    have hkl:k<l.length:=by have:=HNl.out;omega
    have hkm:k<m.length:=by have:=HN.out;omega
    have hki:(k:Int)<(N:Int):=by omega
    obtain⟨bi,oi,ei,hbi,q1⟩:=(HA.out.below b1).at_ hkl
    obtain⟨bj,oj,ej,hbj,q2⟩:=(HB.out.below b1).at_ hkm
    subst ei ej
    obtain⟨x,hx⟩: ∃x,l[k]=x:=⟨_,rfl⟩
    obtain⟨y,hy⟩: ∃y,m[k]=y:=⟨_,rfl⟩
    rw[hx]at q1
    rw[hy]at q2
    have x0:W.cell? ⟨bi,oi+k,none⟩=some (.int .i64 x):=by have:=q1 0 _ rfl;simpa using this
    have y0:W.cell? ⟨bj,oj+k,none⟩=some (.int .i64 y):=by have:=q2 0 _ rfl;simpa using this
    have HX:=Lib.hid hx
    have HY:=Lib.hid hy
    clear hx hy q1 q2
    by_cases g0:x=y
    case neg=>
     have n0:(x !=y)=true:=by simpa using g0
     have HV:=Lib.hid (show Rt.eqBy (fun a b:Int=>decide (a=b)) l m=false by
      rw[Bool.eq_false_iff]
      intro e
      have:=(Rt.eqBy_iff HL.out).1 e k hkl hkm
      rw[HX.out,HY.out]at this
      simp[g0]at this)
     clear g0
     go_wp2
     refine still_all HW.out (by kernel_rfl) (by kernel_rfl) ?_
     repeat still_step
     refine wpStill_nil ?_
     go_wp2
     go_ret
     exact⟨ret_bool HV.out.symm,b1⟩
    have n0:(x !=y)=false:=by simpa using g0
    have HS:Hid (((fun a b:Int=>decide (a=b))) x y=true):=Lib.hid (by simp[g0])
    clear g0
    go_wp2
    refine still_all HW.out (by kernel_rfl) (by kernel_rfl) ?_
    repeat still_step
    refine wpStill_nil ?_
    go_wp2
    go_roundw
    case rel=>exact⟨k+1,by omega,by go_num,Lib.hid (fun j hj hj' h=>by
     by_cases e:j=k
     ·subst e
      rw[HX.out,HY.out]
      exact HS.out
     ·exact hg.out j hj hj' (by omega)),b1⟩
    case measure=>first|(simp[intOf];done)|(simp[intOf];omega)
   ·obtain rfl:k=N:=by omega
    have HV:=Lib.hid (show Rt.eqBy (fun a b:Int=>decide (a=b)) l m=true from(Rt.eqBy_iff HL.out).2 (fun j hj hj'=>hg.out j hj hj' (by have:=HNl.out;omega)))
    go_wp2
    go_ret
    exact⟨ret_bool HV.out.symm,hb⟩
 ·have hq:((l.length:Int) !=(m.length:Int))=true:=bne_iff_ne.2 (by omega)
  have HV:=Lib.hid (Rt.eqBy_len (p:=(fun a b:Int=>decide (a=b))) hne)
  clear hne
  go_enter Tryz.func99,Tryz.ntmps99
  go_wp2
  go_ret
  exact⟨ret_bool HV.out.symm,Below.refl _ _⟩
end Go.Proofs.YtcffonnijhhhiaaGreatDoor
set_option linter.all false
set_option linter.unusedSimpArgs false
set_option linter.unusedVariables false
set_option linter.unusedSectionVars false
namespace Go.Proofs.YtcffonnijhhhiaaGreatDoor
open Go Go.RowKit Go.Maps Mp
attribute [-simp] Prod.forall Prod.exists
attribute [-go_sem] loadVar storeVar Builtin.append_
attribute [local go_sem] lk_int lk_u8 lk_ints lk_sL lk_sE lk_sS
structure Dpo (w:World)(B:Nat)(p:Dp):Prop where
 into:Ints w B p.A1 p.x.into
 sizes:Ints w B p.A2 p.x.sizes
 h1:p.x.into.length≤p.c1
 h2:p.x.sizes.length≤p.c2
theorem Dpo.up {w w':World}{p:Dp}(h:Dpo w w.heap.size p)(hb:Below w.heap.size w w'):Dpo w' w'.heap.size p:=
 ⟨(h.into.below hb).more hb.size,(h.sizes.below hb).more hb.size,h.h1,h.h2⟩
theorem Dpo.ds {w:World}{B:Nat}{p:Dp}(h:Dpo w B p)(h1:p.x.into.length≤1000)(h2:p.x.sizes.length≤1000):DS w B p.A1 p.A2 p.x:=⟨h.into,h.sizes,h1,h2⟩
theorem Dlo.up {w w':World}{A:Option Addr}{L:List Dp}(h:Dlo w w.heap.size A L)(hb:Below w.heap.size w w'):Dlo w' w'.heap.size A L:=
 ⟨(h.seg.below hb).more hb.size,fun p hp=>by
  obtain⟨h1,h2,h3,h4⟩:=h.each p hp
  exact⟨(h1.below hb).more hb.size,(h2.below hb).more hb.size,h3,h4⟩⟩
end Go.Proofs.YtcffonnijhhhiaaGreatDoor
set_option linter.all false
set_option linter.unusedSimpArgs false
set_option linter.unusedVariables false
set_option linter.unusedSectionVars false
namespace Go.Proofs.YtcffonnijhhhiaaGreatDoor
open Go Go.RowKit Go.Maps Mp
attribute [-simp] Prod.forall Prod.exists
attribute [-go_sem] loadVar storeVar run_equalIn_agg Builtin.append_
attribute [local go_sem] lk_int lk_u8 lk_ints
theorem Rt.eqI {l m:List Int}:Rt.eqBy (fun a b:Int=>decide (a=b)) l m=decide (l=m):=by
 by_cases h:l=m
 ·subst h
  rw[decide_eq_true rfl]
  exact(Rt.eqBy_iff rfl).2 (fun j hj hj'=>by simp)
 ·rw[decide_eq_false h,Bool.eq_false_iff]
  intro e
  have hl:=Rt.eqBy_true_len e
  exact h (List.ext_getElem hl fun j hj hj'=>by simpa using (Rt.eqBy_iff hl).1 e j hj hj')
set_option maxRecDepth 100000 in
set_option maxHeartbeats 4000000 in
theorem sameDeal_h (a b:Dl)(A1 A2 B1 B2:Option Addr)(c1 c2 f1 f2:Nat)(w:World)(ha1:Ints w w.heap.size A1 a.into)(ha2:Ints w w.heap.size A2 a.sizes)(hb1:Ints w w.heap.size B1 b.into)(hb2:Ints w w.heap.size B2 b.sizes)(hl1:a.into.length≤3000000000000)(hl2:a.sizes.length≤3000000000000):
  Calls Tryz.prog 29 #[.agg (xcs a A1 A2 c1 c2),.agg (xcs b B1 B2 f1 f2)] w fun e w'=>e=.returned (.bool (Rt.sameD a b))∧Below w.heap.size w w':=by
 obtain⟨b0,k1,k2,z0⟩:=hid_box2 (w:=w) (xcs a A1 A2 c1 c2) (xcs b B1 B2 f1 f2) 24
 have h1:=sameInts_h A1 B1 c1 f1 a.into b.into _ ((ha1.below b0).more b0.size) ((hb1.below b0).more b0.size) hl1
 have h2: ∀V,Below w.heap.size w V→_:=fun V hV=>sameInts_h A2 B2 c2 f2 a.sizes b.sizes V ((ha2.below hV).more hV.size) ((hb2.below hV).more hV.size) hl2
 rw[Rt.eqI]at h1
 simp only[Rt.eqI]at h2
 obtain⟨v,hv⟩: ∃v,Rt.sameD a b=v:=⟨_,rfl⟩
 rw[hv]
 unfold Rt.sameD at hv
 obtain⟨vi,hvi⟩: ∃v,decide (a.into=b.into)=v:=⟨_,rfl⟩
 obtain⟨vs,hvs⟩: ∃v,decide (a.sizes=b.sizes)=v:=⟨_,rfl⟩
 rw[hvi]at h1 hv
 rw[hvs]at hv
 simp only[hvs]at h2
 have H2:=Lib.hid h2
 obtain⟨x1,_⟩:=blk_cells k1
 obtain⟨x2,_⟩:=blk_cells k2
 have d0:_=some (Value.int .i64 a.id):=x1 0
 have e0:_=some (Value.int .i64 b.id):=x2 0
 have d1:_=some (Value.int .i64 a.day):=x1 1
 have e1:_=some (Value.int .i64 b.day):=x2 1
 have d2:_=some (Value.int .u8 (a.kind:Nat)):=x1 2
 have e2:_=some (Value.int .u8 (b.kind:Nat)):=x2 2
 have d3:_=some (Value.int .i64 a.lot):=x1 3
 have e3:_=some (Value.int .i64 b.lot):=x2 3
 have d4:_=some (Value.int .i64 a.other):=x1 4
 have e4:_=some (Value.int .i64 b.other):=x2 4
 have d5:_=some (Value.int .i64 a.fr):=x1 5
 have e5:_=some (Value.int .i64 b.fr):=x2 5
 have d6:_=some (Value.int .i64 a.to):=x1 6
 have e6:_=some (Value.int .i64 b.to):=x2 6
 have d7:_=some (Value.int .i64 a.parts):=x1 7
 have e7:_=some (Value.int .i64 b.parts):=x2 7
 have d8:_=some (Value.int .i64 a.size):=x1 8
 have e8:_=some (Value.int .i64 b.size):=x2 8
 have K1:=Lib.hid k1
 have K2:=Lib.hid k2
 have B0:=Lib.hid b0
 have Z0:=Lib.hid z0
 have d9:_=some (Value.slice A1 a.into.length c1):=x1 9
 have e9:_=some (Value.slice B1 b.into.length f1):=x2 9
 clear x1 x2 k1 k2 b0 z0 h2 hvi hvs ha1 ha2 hb1 hb2 hl1 hl2
 obtain⟨v0,q0⟩: ∃v,(a.id==b.id)=v:=⟨_,rfl⟩
 rw[q0]at hv
 obtain⟨v1,q1⟩: ∃v,(a.day==b.day)=v:=⟨_,rfl⟩
 rw[q1]at hv
 obtain⟨v2,q2⟩: ∃v,(((a.kind:Nat):Int)==((b.kind:Nat):Int))=v:=⟨_,rfl⟩
 have q2n:(a.kind==b.kind)=v2:=by rw[←q2,Bool.eq_iff_iff,beq_iff_eq,beq_iff_eq];omega
 rw[q2n]at hv
 obtain⟨v3,q3⟩: ∃v,(a.lot==b.lot)=v:=⟨_,rfl⟩
 rw[q3]at hv
 obtain⟨v4,q4⟩: ∃v,(a.other==b.other)=v:=⟨_,rfl⟩
 rw[q4]at hv
 obtain⟨v5,q5⟩: ∃v,(a.fr==b.fr)=v:=⟨_,rfl⟩
 rw[q5]at hv
 obtain⟨v6,q6⟩: ∃v,(a.to==b.to)=v:=⟨_,rfl⟩
 rw[q6]at hv
 obtain⟨v7,q7⟩: ∃v,(a.parts==b.parts)=v:=⟨_,rfl⟩
 rw[q7]at hv
 obtain⟨v8,q8⟩: ∃v,(a.size==b.size)=v:=⟨_,rfl⟩
 rw[q8]at hv
 have HV:=Lib.hid hv
 clear hv q2n
 go_enter Tryz.func29,Tryz.ntmps29
 go_upto_region 1 with fail
 go_cut [5] (fun s5 wx=>s5=.bool (v0&&v1&&v2&&v3&&v4&&v5&&v6&&v7&&v8)∧wx=(w.alloc (.cells (xcs a A1 A2 c1 c2) 24 (0,0))).alloc (.cells (xcs b B1 B2 f1 f2) 24 (0,0)))
 case first=>
  clear h1
  cases v0
  case false=>
   go_wp2
   go_meet
   exact⟨by simp,rfl⟩
  cases v1
  case false=>
   go_wp2
   go_meet
   exact⟨by simp,rfl⟩
  cases v2
  case false=>
   go_wp2
   go_meet
   exact⟨by simp,rfl⟩
  cases v3
  case false=>
   go_wp2
   go_meet
   exact⟨by simp,rfl⟩
  cases v4
  case false=>
   go_wp2
   go_meet
   exact⟨by simp,rfl⟩
  cases v5
  case false=>
   go_wp2
   go_meet
   exact⟨by simp,rfl⟩
  cases v6
  case false=>
   go_wp2
   go_meet
   exact⟨by simp,rfl⟩
  cases v7
  case false=>
   go_wp2
   go_meet
   exact⟨by simp,rfl⟩
  cases v8
  case false=>
   go_wp2
   go_meet
   exact⟨by simp,rfl⟩
  go_wp2
  go_meet
  exact⟨rfl,rfl⟩
 case rest=>
  obtain⟨rfl,rfl⟩:=hcut
  obtain⟨vn,hvn⟩: ∃v,(v0&&v1&&v2&&v3&&v4&&v5&&v6&&v7&&v8)=v:=⟨_,rfl⟩
  rw[hvn]
  have HVN:=Lib.hid (show v=(vn&&vi&&vs) by rw[←HV.out,hvn])
  clear d0 e0 d1 e1 d2 e2 d3 e3 d4 e4 d5 e5 d6 e6 d7 e7 d8 e8 q0 q1 q2 q3 q4 q5 q6 q7 q8 hvn
  go_wp2_with fail
  refine h1.mono ?_
  clear h1 d9 e9
  rintro e w2 ⟨rfl,b2⟩
  have hz:=Z0.out
  have kr1:=(b2.block w.heap.size (by omega)).trans K1.out
  have kr2:=(b2.block (w.heap.size+1) (by omega)).trans K2.out
  have dr:_=some (Value.slice A2 a.sizes.length c2):=(blk_cells kr1).1 10
  have er:_=some (Value.slice B2 b.sizes.length f2):=(blk_cells kr2).1 10
  have HBW:=Lib.hid (B0.out.trans (b2.mono B0.out.size))
  have h2:=H2.out w2 HBW.out
  clear kr1 kr2 b2 hz
  go_wp2_with fail
  refine h2.mono ?_
  clear h2 dr er
  rintro e w3 ⟨rfl,b3⟩
  have HB3:=Lib.hid (HBW.out.trans (b3.mono HBW.out.size))
  clear b3
  have hv:=HVN.out
  clear HVN HV
  subst hv
  cases vn
  case false=>
   go_wp2
   go_ret
   exact⟨rfl,HB3.out⟩
  cases vi
  all_goals
   go_wp2
   go_ret
   exact⟨rfl,HB3.out⟩
end Go.Proofs.YtcffonnijhhhiaaGreatDoor
set_option linter.all false
set_option linter.unusedSimpArgs false
set_option linter.unusedVariables false
set_option linter.unusedSectionVars false
namespace Go.Proofs.YtcffonnijhhhiaaGreatDoor
open Go Go.RowKit Go.Maps Mp
attribute [-simp] Prod.forall Prod.exists
attribute [-go_sem] loadVar storeVar Builtin.append_ run_sliceAt_slice
attribute [local go_sem] lk_int lk_u8 lk_ints
set_option maxRecDepth 100000 in
theorem slice_to3 {A:Option Addr}{n c k:Nat}(hk:k≤n)(hc:n≤c):
  ∃A1,(∀W,(Instr.sliceAt 34 (.slice A n c) none (some (.int .i64 (k:Int))) (some (.int .i64 (k:Int)))).run Tryz.prog W=.ok (.slice A1 k k) W)∧ ∀W B (L:List Dp),L.length=n→Dls W B A L→Dls W B A1 (L.take k):=by
 have ht:Tryz.prog.underlying 34=some (.slice (Tryz.prog.elem 34)):=rfl
 have hso: ∀W,(Go.sizeOf (Tryz.prog.elem 34)).run Tryz.prog W=.ok 11 W:=fun W=>by rfl
 refine ⟨if k = 0 then A else A.map (·.add (0 * 11)), fun W => ?_, fun W B L hL h => ?_⟩
 ·rw[run_sliceAt_slice W 34 _ _ _ _ ht,run_slice_any W 34 A n c ht]
  have h1:(0:Int)≤(k:Int):=by omega
  have h2:(k:Int)≤(c:Int):=by omega
  simp[Instr.sliceBounds,run_sliceBound,sliced,Result.andThen,hso,h1,h2]
 ·refine⟨?_,fun p hp=>h.each p (List.mem_of_mem_take hp)⟩
  by_cases e:k=0
  ·subst e
   exact .inl (by simp)
  ·rw[if_neg e]
   rcases h.seg with h|⟨b,off,hA,hb,hx⟩
   ·subst h
    simp only[List.take_nil]
    exact .inl rfl
   ·subst hA
    refine .inr ⟨b,off,by simp[Go.WideShapes.add_plain],hb,fun k x hk i v hv=> ?_⟩
    rw[List.getElem?_take]at hk
    split at hk
    ·exact hx k x hk i v hv
    ·cases hk
theorem fallen_step {L M : List Dp} {F : List Int} {id : Int} (hc : (Rt.check (dls L)).2 = 0) (hM : dls M = Rt.stayJ (dls L) id (dls L).length) (hF : F = (Rt.fallJ (dls L) id (dls L).length).map (·.id)) {j a b : Nat} (hlt : j < L.length) (ha : (Rt.stayJ (dls L) id j).length = a) (hb : (Rt.fallJ (dls L) id j).length = b) :
  a≤M.length∧(L[j].x.id≠id→(∀h:a<M.length,M[a].x.id≠L[j].x.id)→appE (dls (M.take a)) L[j].x≠0∨ ∃h:a<M.length,M[a].x=L[j].x)∧
  ((b<F.length∧F[b]?=some L[j].x.id∧(∀h:a<M.length,M[a].x.id≠L[j].x.id)∧(b=0→L[j].x.id=id)∧(Rt.stayJ (dls L) id (j+1)).length=a∧(Rt.fallJ (dls L) id (j+1)).length=b+1)∨(∃h:a<M.length,M[a].x=L[j].x)∧(Rt.stayJ (dls L) id (j+1)).length=a+1∧(Rt.fallJ (dls L) id (j+1)).length=b):=by
 have hlj:j<(dls L).length:=by simpa using hlt
 obtain⟨h1,h2,_,h3⟩:=Rt.fallen_at (id:=id) hc hlj
 have hx:(dls L)[j]=L[j].x:=by simp
 rw[hx,ha,hb,←hM]at h3
 rw[←hM,ha]at h2
 have ht:Rt.stayJ (dls L) id j=dls (M.take a):=by
  have e:(dls M).take a=Rt.stayJ (dls L) id j:=by rw[h2,←ha,List.take_left]
  rw[←e]
  simp[List.map_take]
 have hal:a≤M.length:=by
  have e:(dls M).length=M.length:=by simp
  rw[←e,h2,List.length_append,ha]
  omega
 refine⟨hal,fun hn hm=> ?_,?_⟩
 ·rcases h3 with ⟨c,_⟩|⟨_,_,g⟩
  ·left
   unfold appE
   rw[←ht,if_pos h1]
   exact c.resolve_left hn
  ·right
   rw[List.getElem?_map]at g
   cases hg:M[a]? with
   |none=>rw[hg]at g;cases g
   |some y=>
    obtain⟨u1,u2⟩:=List.getElem?_eq_some_iff.1 hg
    rw[hg]at g
    exact⟨u1,by rw[u2];simpa using g⟩
 ·rcases h3 with ⟨_,⟨e1,e2⟩,g,n,z⟩|⟨e1,e2,g⟩
  ·left
   have hFb:F[b]?=some L[j].x.id:=by rw[hF,List.getElem?_map,g];rfl
   refine⟨(List.getElem?_eq_some_iff.1 hFb).1,hFb,fun h=> ?_,z,by rw[e1,ha],by rw[e2,List.length_append,hb];rfl⟩
   refine n M[a].x ?_
   rw[List.getElem?_map,List.getElem?_eq_getElem h]
   rfl
  ·right
   rw[List.getElem?_map]at g
   cases hg:M[a]? with
   |none=>rw[hg]at g;cases g
   |some y=>
    obtain⟨u1,u2⟩:=List.getElem?_eq_some_iff.1 hg
    rw[hg]at g
    exact⟨⟨u1,by rw[u2];simpa using g⟩,by rw[e1,List.length_append,ha];rfl,by rw[e2,hb]⟩
set_option maxRecDepth 100000 in
set_option maxHeartbeats 8000000 in
theorem rightFallen_w (A:Option Addr)(c:Nat)(L:List Dp)(id:Int)(w:World)(hE:Env w)(h:Dlo w w.heap.size A L)(hc:L.length≤c)(hm:c≤maxLen):Calls Tryz.prog 13 #[.slice A L.length c,.int .i64 id] w fun e w'=>e=.returned (.bool true)∧Below w.heap.size w w':=by
 have hfe:=few_a A c L 20 w h.seg (Nat.le_trans hc hm) (by decide)
 have HE:=Lib.hid hE
 by_cases hf:Rt.few (dls L) 20=true
 case neg=>
  have hf2:Rt.few (dls L) 20=false:=by simpa using hf
  rw[hf2]at hfe
  have hal:=alive_a w hE
  clear hf hf2 h hE hc hm
  go_enter Tryz.func13,Tryz.ntmps13
  go_wp2_with fail
  refine hfe.mono ?_
  clear hfe
  rintro e w' ⟨rfl,rfl⟩
  go_wp2_with fail
  refine hal.mono ?_
  rintro e w1 ⟨rfl,hb⟩
  go_wp2
  go_ret
  exact⟨rfl,hb⟩
 rw[hf]at hfe
 obtain⟨hD,hl20⟩:=h.few hf
 have hfa:=falls_a A c L id w hD (by omega)
 have HWI:Hid (∀V,Below w.heap.size w V→_):=Lib.hid fun V hV=>without_a A c L id V (hD.up hV) (by omega)
 have HL20:=Lib.hid hl20
 have HD:=Lib.hid hD
 clear hf h hE hc hm hl20 hD
 obtain⟨E,hEE⟩: ∃E,Rt.partE (dls L) id=E:=⟨_,rfl⟩
 by_cases h0:E=0
 case neg=>
  have hr:Rt.partF (dls L) id=[]:=by unfold Rt.partF;rw[if_neg (by rw[hEE];exact h0)]
  have hr2:Rt.partS (dls L) id=[]:=by unfold Rt.partS;rw[if_neg (by rw[hEE];exact h0)]
  rw[hr,hEE]at hfa
  have HR2:=Lib.hid hr2
  have HEE:=Lib.hid hEE
  have hq:(E !=0)=true:=by simpa using h0
  clear h0 hEE hr hr2
  go_enter Tryz.func13,Tryz.ntmps13
  go_wp2_with fail
  refine hfe.mono ?_
  clear hfe
  rintro e w' ⟨rfl,rfl⟩
  go_wp2_with fail
  refine hfa.mono ?_
  clear hfa
  rintro e w1 ⟨A',c',rfl,_,b1⟩
  have hwi:=HWI.out w1 b1
  rw[HEE.out]at hwi
  have HB1:=Lib.hid b1
  clear b1
  go_wp2_with fail
  refine hwi.mono ?_
  clear hwi
  rintro e w2 ⟨A2,c2,M,rfl,_,hM,_,_,b2⟩
  obtain rfl:M=[]:=by
   rw[HR2.out]at hM
   simpa using hM
  have HB2:=Lib.hid (HB1.out.trans (b2.mono HB1.out.size))
  have hal:=alive_a w2 (HE.out.up HB2.out)
  clear b2 hM
  go_wp2_with fail
  refine hal.mono ?_
  clear hal
  rintro e w3 ⟨rfl,b3⟩
  go_wp2
  go_ret
  exact⟨rfl,HB2.out.trans (b3.mono HB2.out.size)⟩
 subst h0
 obtain⟨hck,es,ef,hlen,hcs,z,m,ez,hz⟩:=Rt.part_ends hEE
 obtain ⟨F, hF⟩ : ∃ F, (Rt.partF (dls L) id).map (·.id) = F := ⟨_, rfl⟩
 rw[hF,hEE]at hfa
 have hF0 : F = id :: m.map (·.id) := by rw [← hF, ez, ← hz]; rfl
 have HFF : Hid (F = (Rt.fallJ (dls L) id (dls L).length).map (·.id)) := Lib.hid (by rw [← hF, ef])
 have HFL:Hid (F.length=(Rt.partF (dls L) id).length):=Lib.hid (by rw[←hF,List.length_map])
 have HF0:=Lib.hid hF0
 have HES:=Lib.hid es
 have HEE:=Lib.hid hEE
 have HLEN:=Lib.hid hlen
 have HCS:=Lib.hid hcs
 have HCK:=Lib.hid hck
 clear hck es ef hlen hcs ez hz hF hF0 hEE
 go_enter Tryz.func13,Tryz.ntmps13
 go_wp2_with fail
 refine hfe.mono ?_
 clear hfe
 rintro e w' ⟨rfl,rfl⟩
 go_wp2_with fail
 refine hfa.mono ?_
 clear hfa
 rintro e w1 ⟨A1,c1,rfl,ho1,b1⟩
 obtain⟨A9,c9,e9,hs1,hc1,_⟩:=own_seg layI ho1
 cases e9
 have hwi:=HWI.out w1 b1
 rw[HEE.out]at hwi
 have HB1:=Lib.hid b1
 have HS1:=Lib.hid hs1
 clear ho1 hs1 hc1 b1
 go_wp2_with fail
 refine hwi.mono ?_
 clear hwi
 rintro e w2 ⟨A2,c2,M,rfl,hDM,hM,hMc,_,b2⟩
 have HMS:Hid (dls M=Rt.stayJ (dls L) id (dls L).length):=Lib.hid (by rw[hM,HES.out])
 have hlen:M.length+F.length=L.length:=by
  have h1:(dls M).length=M.length:=by simp
  have h2:=HLEN.out
  rw[←hM,h1,←HFL.out]at h2
  simpa using h2
 have hch:=check_a A2 c2 M w2 hDM (by have:=HL20.out;omega)
 rw[hM,HCS.out]at hch
 generalize (Rt.check (Rt.partS (dls L) id)).1=i0 at hch
 have HB2:=Lib.hid (HB1.out.trans (b2.mono HB1.out.size))
 have HS2:Hid (Ints w2 w2.heap.size A1 F):=Lib.hid ((HS1.out.below b2).more b2.size)
 have HDM:=Lib.hid hDM
 have HMC:=Lib.hid hMc
 have HLM:=Lib.hid hlen
 clear b2 hDM hM hMc hlen
 go_wp2_with fail
 refine hch.mono ?_
 clear hch
 rintro e w3 ⟨rfl,b3⟩
 have HB3:=Lib.hid (HB2.out.trans (b3.mono HB2.out.size))
 have HS3:Hid (Ints w3 w3.heap.size A1 F):=Lib.hid ((HS2.out.below b3).more b3.size)
 have HDM3:Hid (Dls w3 w3.heap.size A2 M):=Lib.hid (HDM.out.up b3)
 have hFl:0<F.length:=by rw[HF0.out];simp
 have hq1:((M.length:Int)+(F.length:Int) !=(L.length:Int))=false:=by
  have:=HLM.out
  simp only[bne_eq_false_iff_eq]
  omega
 have hq5:wrap64 ((M.length:Int)+(F.length:Int))=(L.length:Int):=by
  have:=HLM.out
  have:=HL20.out
  unfold wrap64
  omega
 have hq2:((F.length:Int)==0)=false:=by rw[beq_eq_false_iff_ne];omega
 have hq3:(id !=id)=false:=by simp
 have hq4:(0:Int)<(F.length:Int):=by omega
 obtain⟨bf,of,eA,hbf,qf⟩:=HS3.out.at1 hFl
 have hF0:F[0]=id:=by simp[HF0.out]
 rw[hF0,Nat.add_zero]at qf
 subst eA
 have HB:=Lib.hid hbf
 clear b3 hF0 hbf
 go_wp2
 clear hq1 hq2 hq3 hq4 hq5 qf
 go_loopw [11,12,84] (fun k n i wr=> ∃(j a b:Nat),j≤L.length∧k=.int .i64 a∧n=.int .i64 b∧i=.int .i64 j∧Hid ((Rt.stayJ (dls L) id j).length=a∧(Rt.fallJ (dls L) id j).length=b)∧Hid (Below w3.heap.size w3 wr)) (fun _ _ i _=>L.length-(intOf i).toNat)
 case atStart=>exact⟨0,0,0,by omega,rfl,rfl,rfl,Lib.hid ⟨rfl,rfl⟩,Lib.hid (Below.refl _ _)⟩
 case round=>
  obtain⟨j,a,b,hj,rfl,rfl,rfl,HAB,HBr⟩:=hrel
  by_cases hlt:j<L.length
  ·have hl20:=HL20.out
   have hml:M.length≤20:=by have:=HLM.out;omega
   have hfl:F.length≤20:=by have:=HLM.out;omega
   obtain⟨hal,hap,hcs⟩:=fallen_step HCK.out HMS.out HFF.out hlt HAB.out.1 HAB.out.2
   have hji:(j:Int)<(L.length:Int):=by omega
   have HBw:Hid (Below w'.heap.size w' wr):=Lib.hid (HB3.out.trans (HBr.out.mono HB3.out.size))
   obtain⟨bl,ol,hA,hbb,hld,_⟩:=(HD.out.below HBw.out).at_ hlt
   have hdp:=HD.out.each _ (List.getElem_mem hlt)
   obtain⟨p,hp⟩: ∃p,L[j]=p:=⟨_,rfl⟩
   rw[hp]at hld hap hcs hdp
   obtain⟨w4,st4,k4,g4⟩:=st_row (wr.alloc (.cells zcs 24)) wr.heap.size 24 24 zcs (xcs p.x p.A1 p.A2 p.c1 p.c2) (heap_alloc_new wr _) info_deal rfl (by simp[Value.oneCell'])
   have b4:Below wr.heap.size wr w4:=(Below.alloc (Below.refl _ wr) (Nat.le_refl _) _).grown g4 (by simp) (by intro k e;cases e;omega)
   have HB4:Hid (Below w3.heap.size w3 w4):=Lib.hid (HBr.out.trans (b4.mono HBr.out.size))
   have HX4:Hid (wr.heap.size<w4.heap.size):=Lib.hid (Array.getElem?_eq_some_iff.1 k4).1
   have HDP:=Lib.hid hdp
   subst hA
   have HAL:=Lib.hid hal
   have HAP:=Lib.hid hap
   have HCS2:=Lib.hid hcs
   have K4:=Lib.hid k4
   clear g4 b4 hp hal hap hcs hdp k4
   by_cases ha:a<M.length
   ·have hai:(a:Int)<(M.length:Int):=by omega
    obtain⟨W,hW⟩: ∃W:World,W=w4.drew:=⟨_,rfl⟩
    have HBW:Hid (Below w3.heap.size w3 W):=Lib.hid (by rw[hW];exact below_drew HB4.out)
    have KW:Hid (W.heap[wr.heap.size]?=some (.cells (xcs p.x p.A1 p.A2 p.c1 p.c2) 24 (0,0))):=Lib.hid (by rw[hW];exact K4.out)
    have HXW:Hid (wr.heap.size<W.heap.size):=Lib.hid (by rw[hW];exact HX4.out)
    have lx:=ld_row KW.out Tryz.underlying24 rfl info_deal
    obtain⟨bm,om,em,hbm,qm⟩:=ld_D (HDM3.out.up HBW.out).seg ha
    have dm:=(HDM3.out.up HBW.out).each _ (List.getElem_mem ha)
    have dp:=(HD.out.up (HB3.out.trans (HBW.out.mono HB3.out.size))).each _ (List.getElem_mem hlt)
    subst em
    have HW:=Lib.hid hW
    have hdq:=HDP.out
    have dpp:DS W W.heap.size p.A1 p.A2 p.x:=hdq.1.up (HB3.out.trans (HBW.out.mono HB3.out.size))
    have hcall:=sameDeal_h M[a].x p.x M[a].A1 M[a].A2 p.A1 p.A2 M[a].c1 M[a].c2 p.c1 p.c2 W dm.1.into dm.1.sizes dpp.into dpp.sizes (by have:=dm.1.li;omega) (by have:=dm.1.ls;omega)
    obtain⟨u,hu⟩: ∃u,Rt.sameD M[a].x p.x=u:=⟨_,rfl⟩
    rw[hu]at hcall
    have HU:=Lib.hid hu
    have HCT:=Lib.hid (HCS2.out)
    obtain⟨y,hy⟩: ∃y,M[a]=y:=⟨_,rfl⟩
    have HY:=Lib.hid hy
    rw[hy]at qm hcall
    clear hW hu hy dm dp dpp hdq hbm
    go_upto_region 14 with fail
    clear st4 hld
    go_wp2
    refine still_tail HW.out 10 (by kernel_rfl) (by kernel_rfl) ?_
    simp only[List.take_succ_cons,List.take_zero,List.drop_succ_cons,List.drop_zero]
    repeat still_step
    refine wpStill_nil ?_
    go_wp2_with fail
    refine hcall.mono ?_
    clear hcall qm lx
    rintro e w6 ⟨rfl,b6⟩
    have HB6:Hid (Below w3.heap.size w3 w6):=Lib.hid (HBW.out.trans (b6.mono HBW.out.size))
    have K6:Hid (w6.heap[wr.heap.size]?=some (.cells (xcs p.x p.A1 p.A2 p.c1 p.c2) 24 (0,0))):=Lib.hid ((b6.block _ HXW.out).trans KW.out)
    clear b6
    cases u with
    |true=>
     have hnx:(Rt.stayJ (dls L) id (j+1)).length=a+1∧(Rt.fallJ (dls L) id (j+1)).length=b:=by
      rcases HCS2.out with ⟨_,_,g,_⟩|⟨_,g⟩
      ·exact absurd (by rw[Rt.sameD_iff.1 HU.out]) (g ha)
      ·exact g
     have HNX:=Lib.hid hnx
     clear hnx
     go_wp2
     go_roundw
     case rel=>exact⟨j+1,a+1,b,by omega,by go_num,rfl,by go_num,HNX,HB6⟩
     case measure=>first|(simp[intOf];done)|(simp[intOf];omega)
    |false=>
     have hnx: ¬ ∃h:a<M.length,M[a].x=p.x:=fun⟨h,e⟩=>by
      have:=HU.out
      rw[Rt.sameD_iff.2 e]at this
      cases this
     obtain⟨hbl,hFb,hma,hbz,hn1,hn2⟩:b<F.length∧F[b]?=some p.x.id∧(∀h:a<M.length,M[a].x.id≠p.x.id)∧(b=0→p.x.id=id)∧(Rt.stayJ (dls L) id (j+1)).length=a∧(Rt.fallJ (dls L) id (j+1)).length=b+1:=by
      rcases HCS2.out with g|⟨g,_⟩
      ·exact g
      ·exact absurd g hnx
     have HNX:=Lib.hid (And.intro hn1 hn2)
     have HNE:=Lib.hid (And.intro hnx hma)
     obtain⟨bf2,of2,ef2,_,qf⟩:=Ints.at1 (HS3.out.up HB6.out) hbl
     cases ef2
     have hF1:F[b]=p.x.id:=by rw[List.getElem?_eq_getElem hbl]at hFb;exact Option.some.inj hFb
     rw[hF1]at qf
     have qx:w6.cell? ⟨wr.heap.size,0,none⟩=some (.int .i64 p.x.id):=(blk_cells K6.out).1 0
     have hb1:decide (F.length≤b)=false:=by rw[decide_eq_false_iff_not];omega
     have hbe:decide (F=[])=false:=by
      rw[decide_eq_false_iff_not]
      rintro rfl
      simp at hbl
     have hb2:(p.x.id !=p.x.id)=false:=by simp
     have hb3:(b:Int)<(F.length:Int):=by omega
     clear hnx hma hF1 hFb hn1 hn2 hbl
     by_cases hid:p.x.id=id
     ·have hi1:(p.x.id !=id)=false:=by simpa using hid
      clear hbz hid
      by_cases hb0:b=0
      ·subst hb0
       rw[Nat.add_zero]at qf
       rw[Int.natCast_zero]at hb3
       go_wp2
       refine wp_region_quiet_lit (by kernel_rfl) (by kernel_rfl) ?_
       repeat (first|go_big_quiet_step (fail)|quiet_step (fail))
       refine wpQuiet_nil ?_
       rintro wq ⟨nq,rfl⟩
       have HBq:Hid (Below w3.heap.size w3 (w6.drewN nq)):=Lib.hid (below_drewQ HB6.out nq)
       go_wp2
       go_roundw
       case rel=>exact⟨j+1,a,1,by omega,rfl,by go_num,by go_num,HNX,HBq⟩
       case measure=>first|(simp[intOf];done)|(simp[intOf];omega)
      ·have hb4:((b:Int)==0)=false:=by rw[beq_eq_false_iff_ne];omega
       go_wp2
       refine wp_region_quiet_lit (by kernel_rfl) (by kernel_rfl) ?_
       repeat (first|go_big_quiet_step (fail)|quiet_step (fail))
       refine wpQuiet_nil ?_
       rintro wq ⟨nq,rfl⟩
       have HBq:Hid (Below w3.heap.size w3 (w6.drewN nq)):=Lib.hid (below_drewQ HB6.out nq)
       go_wp2
       go_roundw
       case rel=>exact⟨j+1,a,b+1,by omega,rfl,by go_num,by go_num,HNX,HBq⟩
       case measure=>first|(simp[intOf];done)|(simp[intOf];omega)
     ·have hi1:(p.x.id !=id)=true:=by simpa using hid
      have hb4:((b:Int)==0)=false:=by
       rw[beq_eq_false_iff_ne]
       intro e
       exact hid (hbz (by omega))
      have HBL:Hid (b<F.length):=Lib.hid (by omega)
      have HAE:Hid (appE (dls (M.take a)) p.x≠0):=Lib.hid ((HAP.out hid HNE.out.2).resolve_right HNE.out.1)
      clear hbz hid
      go_wp2
      refine wp_region_quiet_lit (by kernel_rfl) (by kernel_rfl) ?_
      repeat (first|go_big_quiet_step (fail)|quiet_step (fail))
      refine wpQuiet_nil ?_
      rintro wq ⟨nq,rfl⟩
      obtain⟨w7,hw7⟩: ∃w7,w6.drewN nq=w7:=⟨_,rfl⟩
      have HB7:Hid (Below w3.heap.size w3 w7):=Lib.hid (by rw[←hw7];exact below_drewQ HB6.out nq)
      have K7:Hid (w7.heap[wr.heap.size]?=some (.cells (xcs p.x p.A1 p.A2 p.c1 p.c2) 24 (0,0))):=Lib.hid (by rw[←hw7];exact K6.out)
      have qx7:w7.cell? ⟨wr.heap.size,0,none⟩=some (.int .i64 p.x.id):=(blk_cells K7.out).1 0
      rw[hw7]
      clear hw7 qx qf hb1 hb2 hb4
      obtain⟨W,hW⟩: ∃W:World,w7.drew=W:=⟨_,rfl⟩
      have HBW:Hid (Below w3.heap.size w3 W):=Lib.hid (by rw[←hW];exact below_drew HB7.out)
      have lx:=ld_row (show W.heap[wr.heap.size]?=some (.cells (xcs p.x p.A1 p.A2 p.c1 p.c2) 24 (0,0)) by rw[←hW];exact K7.out) Tryz.underlying24 rfl info_deal
      have HLX:=Lib.hid lx
      obtain⟨A5,hsl,hD5⟩:=slice_to3 (A:=some ⟨bm,om,none⟩) (n:=M.length) (c:=c2) HAL.out HMC.out
      have dW:=hD5 W W.heap.size M rfl (HDM3.out.up HBW.out)
      have etl:(M.take a).length=a:=by rw[List.length_take];have:=HAL.out;omega
      have dpp:DS W W.heap.size p.A1 p.A2 p.x:=HDP.out.1.up (HB3.out.trans (HBW.out.mono HB3.out.size))
      have hapd:=append_a A5 a (M.take a) p.x p.A1 p.A2 p.c1 p.c2 W dW (by rw[etl];have:=HAL.out;have:=HLM.out;have:=HL20.out;omega) dpp HDP.out.2.1 HDP.out.2.2
      rw[etl]at hapd
      unfold EndA at hapd
      obtain⟨E,hE⟩: ∃E,appE (dls (M.take a)) p.x=E:=⟨_,rfl⟩
      rw[hE]at hapd
      have hE0:E≠0:=by rw[←hE];exact HAE.out
      simp only[hE0,if_false]at hapd
      have hE1:(E==0)=false:=by simpa using hE0
      have HW:=Lib.hid hW
      clear hE hE0 dW etl dpp hD5 lx hW
      go_upto_region 20 with fail
      have HKW:Hid (W.heap[wr.heap.size]?=some (.cells (xcs p.x p.A1 p.A2 p.c1 p.c2) 24 (0,0))):=Lib.hid (by rw[←HW.out];exact K7.out)
      have HS:Hid (∀V:World,Below W.heap.size W V→(loadVar 24 ⟨wr.heap.size,0,none⟩).run Tryz.prog V=.ok (.agg (xcs p.x p.A1 p.A2 p.c1 p.c2)) V):=Lib.hid fun V hV=>ld_row ((hV.block _ (Array.getElem?_eq_some_iff.1 HKW.out).1).trans HKW.out) Tryz.underlying24 rfl info_deal
      clear HLX qx7
      refine wp_region_held_drew (S:=fun V=>(loadVar 24 ⟨wr.heap.size,0,none⟩).run Tryz.prog V=.ok (.agg (xcs p.x p.A1 p.A2 p.c1 p.c2)) V) (by kernel_rfl) (by rw[HW.out];exact HS.out _ (Below.refl _ _)) (fun hHeld=> ?_)
      rw[HW.out]
      replace hHeld:=HS.out W (Below.refl _ _)
      refine takeH 0 (some 132) (v:= ?_) rfl rfl (by kernel_rfl) (by kernel_rfl) (by kernel_rfl) (fun _ _ _ h=>h) (Or.inl ⟨by rfl,fun W hW=> ?_⟩) (by assumption) ?_
      rotate_left
      ·go_simp;try with_reducible rfl
      try simp only[Act.put,List.setIfInBounds_toArray,List.set_cons_zero,List.set_cons_succ]
      refine takeH 1 (some 133) (v:= ?_) rfl rfl (by kernel_rfl) (by kernel_rfl) (by kernel_rfl) (fun _ _ _ h=>h) (Or.inl ⟨by rfl,fun W hW=> ?_⟩) (by assumption) ?_
      rotate_left
      ·go_simp;try with_reducible rfl
      try simp only[Act.put,List.setIfInBounds_toArray,List.set_cons_zero,List.set_cons_succ]
      refine takeH 2 (some 134) (v:= ?_) rfl rfl (by kernel_rfl) (by kernel_rfl) (by kernel_rfl) (fun _ _ _ h=>h) (Or.inl ⟨by rfl,fun W hW=> ?_⟩) (by assumption) ?_
      rotate_left
      ·go_simp;try with_reducible rfl
      try simp only[Act.put,List.setIfInBounds_toArray,List.set_cons_zero,List.set_cons_succ]
      refine takeH 3 (some 135) (v:= ?_) rfl rfl (by kernel_rfl) (by kernel_rfl) (by kernel_rfl) (fun _ _ _ h=>h) (Or.inl ⟨by rfl,fun W hW=> ?_⟩) (by assumption) ?_
      rotate_left
      ·go_simp;try with_reducible rfl
      try simp only[Act.put,List.setIfInBounds_toArray,List.set_cons_zero,List.set_cons_succ]
      refine takeH 4 (some 136) (v:= ?_) rfl rfl (by kernel_rfl) (by kernel_rfl) (by kernel_rfl) (fun _ _ _ h=>h) (Or.inl ⟨by rfl,fun W hW=> ?_⟩) (by assumption) ?_
      rotate_left
      ·go_simp;try with_reducible rfl
      try simp only[Act.put,List.setIfInBounds_toArray,List.set_cons_zero,List.set_cons_succ]
      refine wpAnyH_ready (rs:=[5]) (by kernel_rfl) (by simp) ?_
      refine readyH (some 137) rfl rfl (fun K hK=> ?_) AllReadyH.nil
      go_simp
      refine hapd.mono ?_
      clear hapd
      rintro e w8 ⟨b8,rfl⟩
      have HB8:Hid (Below w3.heap.size w3 w8):=Lib.hid (HBW.out.trans (b8.mono HBW.out.size))
      refine hK _ _ (HS.out _ b8) (fun hHeld=> ?_)
      clear hK K
      try simp only[Act.put,List.setIfInBounds_toArray,List.set_cons_zero,List.set_cons_succ]
      refine takeH 6 (some 131) (v:= ?_) rfl rfl (by kernel_rfl) (by kernel_rfl) (by kernel_rfl) (fun _ _ _ h=>h) (Or.inl ⟨by rfl,fun W hW=> ?_⟩) (by assumption) ?_
      rotate_left
      ·go_simp;try with_reducible rfl
      try simp only[Act.put,List.setIfInBounds_toArray,List.set_cons_zero,List.set_cons_succ]
      refine takeH 7 (some 138) (v:= ?_) rfl rfl (by kernel_rfl) (by kernel_rfl) (by kernel_rfl) (fun _ _ _ h=>h) (Or.inl ⟨by rfl,fun W hW=> ?_⟩) (by assumption) ?_
      rotate_left
      ·go_simp;try with_reducible rfl
      try simp only[Act.put,List.setIfInBounds_toArray,List.set_cons_zero,List.set_cons_succ]
      refine takeH 8 (some 139) (v:= ?_) rfl rfl (by kernel_rfl) (by kernel_rfl) (by kernel_rfl) (fun _ _ _ h=>h) (Or.inl ⟨by rfl,fun W hW=> ?_⟩) (by assumption) ?_
      rotate_left
      ·go_simp;try with_reducible rfl
      try simp only[Act.put,List.setIfInBounds_toArray,List.set_cons_zero,List.set_cons_succ]
      refine takeH 9 (some 15) (v:= ?_) rfl rfl (by kernel_rfl) (by kernel_rfl) (by kernel_rfl) (fun _ _ _ h=>h) (Or.inl ⟨by rfl,fun W hW=> ?_⟩) (by assumption) ?_
      rotate_left
      ·go_simp;try with_reducible rfl
      try simp only[Act.put,List.setIfInBounds_toArray,List.set_cons_zero,List.set_cons_succ]
      refine takeH 10 (some 16) (v:= ?_) rfl rfl (by kernel_rfl) (by kernel_rfl) (by kernel_rfl) (fun _ _ _ h=>h) (Or.inl ⟨by rfl,fun W hW=> ?_⟩) (by assumption) ?_
      rotate_left
      ·go_simp;try with_reducible rfl
      try simp only[Act.put,List.setIfInBounds_toArray,List.set_cons_zero,List.set_cons_succ]
      refine wpAnyH_done (by kernel_rfl) ?_ _
      go_wp2
      go_roundw
      case rel=>exact⟨j+1,a,b+1,by omega,rfl,by go_num,by go_num,HNX,HB8⟩
      case measure=>first|(simp[intOf];done)|(simp[intOf];omega)
   ·have hai: ¬((a:Int)<(M.length:Int)):=by omega
    have hnx: ¬ ∃h:a<M.length,M[a].x=p.x:=fun⟨h,e⟩=>ha h
    have K6:=K4
    go_upto_region 14 with fail
    clear st4 hld K4
    go_wp2
    refine wp_region_quiet_lit (by kernel_rfl) (by kernel_rfl) ?_
    repeat (first|go_big_quiet_step (fail)|quiet_step (fail))
    refine wpQuiet_nil ?_
    rintro wq ⟨nq,rfl⟩
    obtain⟨w6,hw6⟩: ∃w6,w4.drewN nq=w6:=⟨_,rfl⟩
    have HB6:Hid (Below w3.heap.size w3 w6):=Lib.hid (by rw[←hw6];exact below_drewQ HB4.out nq)
    replace K6:Hid (w6.heap[wr.heap.size]?=some (.cells (xcs p.x p.A1 p.A2 p.c1 p.c2) 24 (0,0))):=Lib.hid (by rw[←hw6];exact K6.out)
    rw[hw6]
    clear hw6
    obtain⟨hbl,hFb,hma,hbz,hn1,hn2⟩:b<F.length∧F[b]?=some p.x.id∧(∀h:a<M.length,M[a].x.id≠p.x.id)∧(b=0→p.x.id=id)∧(Rt.stayJ (dls L) id (j+1)).length=a∧(Rt.fallJ (dls L) id (j+1)).length=b+1:=by
     rcases HCS2.out with g|⟨g,_⟩
     ·exact g
     ·exact absurd g hnx
    have HNX:=Lib.hid (And.intro hn1 hn2)
    have HNE:=Lib.hid (And.intro hnx hma)
    obtain⟨bf2,of2,ef2,_,qf⟩:=Ints.at1 (HS3.out.up HB6.out) hbl
    cases ef2
    have hF1:F[b]=p.x.id:=by rw[List.getElem?_eq_getElem hbl]at hFb;exact Option.some.inj hFb
    rw[hF1]at qf
    have qx:w6.cell? ⟨wr.heap.size,0,none⟩=some (.int .i64 p.x.id):=(blk_cells K6.out).1 0
    have hb1:decide (F.length≤b)=false:=by rw[decide_eq_false_iff_not];omega
    have hbe:decide (F=[])=false:=by
     rw[decide_eq_false_iff_not]
     rintro rfl
     simp at hbl
    have hb2:(p.x.id !=p.x.id)=false:=by simp
    have hb3:(b:Int)<(F.length:Int):=by omega
    clear hnx hma hF1 hFb hn1 hn2 hbl
    by_cases hid:p.x.id=id
    ·have hi1:(p.x.id !=id)=false:=by simpa using hid
     clear hbz hid
     by_cases hb0:b=0
     ·subst hb0
      rw[Nat.add_zero]at qf
      rw[Int.natCast_zero]at hb3
      go_wp2
      refine wp_region_quiet_lit (by kernel_rfl) (by kernel_rfl) ?_
      repeat (first|go_big_quiet_step (fail)|quiet_step (fail))
      refine wpQuiet_nil ?_
      rintro wq ⟨nq,rfl⟩
      have HBq:Hid (Below w3.heap.size w3 (w6.drewN nq)):=Lib.hid (below_drewQ HB6.out nq)
      go_wp2
      go_roundw
      case rel=>exact⟨j+1,a,1,by omega,rfl,by go_num,by go_num,HNX,HBq⟩
      case measure=>first|(simp[intOf];done)|(simp[intOf];omega)
     ·have hb4:((b:Int)==0)=false:=by rw[beq_eq_false_iff_ne];omega
      go_wp2
      refine wp_region_quiet_lit (by kernel_rfl) (by kernel_rfl) ?_
      repeat (first|go_big_quiet_step (fail)|quiet_step (fail))
      refine wpQuiet_nil ?_
      rintro wq ⟨nq,rfl⟩
      have HBq:Hid (Below w3.heap.size w3 (w6.drewN nq)):=Lib.hid (below_drewQ HB6.out nq)
      go_wp2
      go_roundw
      case rel=>exact⟨j+1,a,b+1,by omega,rfl,by go_num,by go_num,HNX,HBq⟩
      case measure=>first|(simp[intOf];done)|(simp[intOf];omega)
    ·have hi1:(p.x.id !=id)=true:=by simpa using hid
     have hb4:((b:Int)==0)=false:=by
      rw[beq_eq_false_iff_ne]
      intro e
      exact hid (hbz (by omega))
     have HBL:Hid (b<F.length):=Lib.hid (by omega)
     have HAE:Hid (appE (dls (M.take a)) p.x≠0):=Lib.hid ((HAP.out hid HNE.out.2).resolve_right HNE.out.1)
     clear hbz hid
     go_wp2
     refine wp_region_quiet_lit (by kernel_rfl) (by kernel_rfl) ?_
     repeat (first|go_big_quiet_step (fail)|quiet_step (fail))
     refine wpQuiet_nil ?_
     rintro wq ⟨nq,rfl⟩
     obtain⟨w7,hw7⟩: ∃w7,w6.drewN nq=w7:=⟨_,rfl⟩
     have HB7:Hid (Below w3.heap.size w3 w7):=Lib.hid (by rw[←hw7];exact below_drewQ HB6.out nq)
     have K7:Hid (w7.heap[wr.heap.size]?=some (.cells (xcs p.x p.A1 p.A2 p.c1 p.c2) 24 (0,0))):=Lib.hid (by rw[←hw7];exact K6.out)
     have qx7:w7.cell? ⟨wr.heap.size,0,none⟩=some (.int .i64 p.x.id):=(blk_cells K7.out).1 0
     rw[hw7]
     clear hw7 qx qf hb1 hb2 hb4
     obtain⟨W,hW⟩: ∃W:World,w7.drew=W:=⟨_,rfl⟩
     have HBW:Hid (Below w3.heap.size w3 W):=Lib.hid (by rw[←hW];exact below_drew HB7.out)
     have lx:=ld_row (show W.heap[wr.heap.size]?=some (.cells (xcs p.x p.A1 p.A2 p.c1 p.c2) 24 (0,0)) by rw[←hW];exact K7.out) Tryz.underlying24 rfl info_deal
     have HLX:=Lib.hid lx
     obtain⟨A5,hsl,hD5⟩:=slice_to3 (A:=A2) (n:=M.length) (c:=c2) HAL.out HMC.out
     have dW:=hD5 W W.heap.size M rfl (HDM3.out.up HBW.out)
     have etl:(M.take a).length=a:=by rw[List.length_take];have:=HAL.out;omega
     have dpp:DS W W.heap.size p.A1 p.A2 p.x:=HDP.out.1.up (HB3.out.trans (HBW.out.mono HB3.out.size))
     have hapd:=append_a A5 a (M.take a) p.x p.A1 p.A2 p.c1 p.c2 W dW (by rw[etl];have:=HAL.out;have:=HLM.out;have:=HL20.out;omega) dpp HDP.out.2.1 HDP.out.2.2
     rw[etl]at hapd
     unfold EndA at hapd
     obtain⟨E,hE⟩: ∃E,appE (dls (M.take a)) p.x=E:=⟨_,rfl⟩
     rw[hE]at hapd
     have hE0:E≠0:=by rw[←hE];exact HAE.out
     simp only[hE0,if_false]at hapd
     have hE1:(E==0)=false:=by simpa using hE0
     have HW:=Lib.hid hW
     clear hE hE0 dW etl dpp hD5 lx hW
     go_upto_region 20 with fail
     have HKW:Hid (W.heap[wr.heap.size]?=some (.cells (xcs p.x p.A1 p.A2 p.c1 p.c2) 24 (0,0))):=Lib.hid (by rw[←HW.out];exact K7.out)
     have HS:Hid (∀V:World,Below W.heap.size W V→(loadVar 24 ⟨wr.heap.size,0,none⟩).run Tryz.prog V=.ok (.agg (xcs p.x p.A1 p.A2 p.c1 p.c2)) V):=Lib.hid fun V hV=>ld_row ((hV.block _ (Array.getElem?_eq_some_iff.1 HKW.out).1).trans HKW.out) Tryz.underlying24 rfl info_deal
     clear HLX qx7
     refine wp_region_held_drew (S:=fun V=>(loadVar 24 ⟨wr.heap.size,0,none⟩).run Tryz.prog V=.ok (.agg (xcs p.x p.A1 p.A2 p.c1 p.c2)) V) (by kernel_rfl) (by rw[HW.out];exact HS.out _ (Below.refl _ _)) (fun hHeld=> ?_)
     rw[HW.out]
     replace hHeld:=HS.out W (Below.refl _ _)
     refine takeH 0 (some 132) (v:= ?_) rfl rfl (by kernel_rfl) (by kernel_rfl) (by kernel_rfl) (fun _ _ _ h=>h) (Or.inl ⟨by rfl,fun W hW=> ?_⟩) (by assumption) ?_
     rotate_left
     ·go_simp;try with_reducible rfl
     try simp only[Act.put,List.setIfInBounds_toArray,List.set_cons_zero,List.set_cons_succ]
     refine takeH 1 (some 133) (v:= ?_) rfl rfl (by kernel_rfl) (by kernel_rfl) (by kernel_rfl) (fun _ _ _ h=>h) (Or.inl ⟨by rfl,fun W hW=> ?_⟩) (by assumption) ?_
     rotate_left
     ·go_simp;try with_reducible rfl
     try simp only[Act.put,List.setIfInBounds_toArray,List.set_cons_zero,List.set_cons_succ]
     refine takeH 2 (some 134) (v:= ?_) rfl rfl (by kernel_rfl) (by kernel_rfl) (by kernel_rfl) (fun _ _ _ h=>h) (Or.inl ⟨by rfl,fun W hW=> ?_⟩) (by assumption) ?_
     rotate_left
     ·go_simp;try with_reducible rfl
     try simp only[Act.put,List.setIfInBounds_toArray,List.set_cons_zero,List.set_cons_succ]
     refine takeH 3 (some 135) (v:= ?_) rfl rfl (by kernel_rfl) (by kernel_rfl) (by kernel_rfl) (fun _ _ _ h=>h) (Or.inl ⟨by rfl,fun W hW=> ?_⟩) (by assumption) ?_
     rotate_left
     ·go_simp;try with_reducible rfl
     try simp only[Act.put,List.setIfInBounds_toArray,List.set_cons_zero,List.set_cons_succ]
     refine takeH 4 (some 136) (v:= ?_) rfl rfl (by kernel_rfl) (by kernel_rfl) (by kernel_rfl) (fun _ _ _ h=>h) (Or.inl ⟨by rfl,fun W hW=> ?_⟩) (by assumption) ?_
     rotate_left
     ·go_simp;try with_reducible rfl
     try simp only[Act.put,List.setIfInBounds_toArray,List.set_cons_zero,List.set_cons_succ]
     refine wpAnyH_ready (rs:=[5]) (by kernel_rfl) (by simp) ?_
     refine readyH (some 137) rfl rfl (fun K hK=> ?_) AllReadyH.nil
     go_simp
     refine hapd.mono ?_
     clear hapd
     rintro e w8 ⟨b8,rfl⟩
     have HB8:Hid (Below w3.heap.size w3 w8):=Lib.hid (HBW.out.trans (b8.mono HBW.out.size))
     refine hK _ _ (HS.out _ b8) (fun hHeld=> ?_)
     clear hK K
     try simp only[Act.put,List.setIfInBounds_toArray,List.set_cons_zero,List.set_cons_succ]
     refine takeH 6 (some 131) (v:= ?_) rfl rfl (by kernel_rfl) (by kernel_rfl) (by kernel_rfl) (fun _ _ _ h=>h) (Or.inl ⟨by rfl,fun W hW=> ?_⟩) (by assumption) ?_
     rotate_left
     ·go_simp;try with_reducible rfl
     try simp only[Act.put,List.setIfInBounds_toArray,List.set_cons_zero,List.set_cons_succ]
     refine takeH 7 (some 138) (v:= ?_) rfl rfl (by kernel_rfl) (by kernel_rfl) (by kernel_rfl) (fun _ _ _ h=>h) (Or.inl ⟨by rfl,fun W hW=> ?_⟩) (by assumption) ?_
     rotate_left
     ·go_simp;try with_reducible rfl
     try simp only[Act.put,List.setIfInBounds_toArray,List.set_cons_zero,List.set_cons_succ]
     refine takeH 8 (some 139) (v:= ?_) rfl rfl (by kernel_rfl) (by kernel_rfl) (by kernel_rfl) (fun _ _ _ h=>h) (Or.inl ⟨by rfl,fun W hW=> ?_⟩) (by assumption) ?_
     rotate_left
     ·go_simp;try with_reducible rfl
     try simp only[Act.put,List.setIfInBounds_toArray,List.set_cons_zero,List.set_cons_succ]
     refine takeH 9 (some 15) (v:= ?_) rfl rfl (by kernel_rfl) (by kernel_rfl) (by kernel_rfl) (fun _ _ _ h=>h) (Or.inl ⟨by rfl,fun W hW=> ?_⟩) (by assumption) ?_
     rotate_left
     ·go_simp;try with_reducible rfl
     try simp only[Act.put,List.setIfInBounds_toArray,List.set_cons_zero,List.set_cons_succ]
     refine takeH 10 (some 16) (v:= ?_) rfl rfl (by kernel_rfl) (by kernel_rfl) (by kernel_rfl) (fun _ _ _ h=>h) (Or.inl ⟨by rfl,fun W hW=> ?_⟩) (by assumption) ?_
     rotate_left
     ·go_simp;try with_reducible rfl
     try simp only[Act.put,List.setIfInBounds_toArray,List.set_cons_zero,List.set_cons_succ]
     refine wpAnyH_done (by kernel_rfl) ?_ _
     go_wp2
     go_roundw
     case rel=>exact⟨j+1,a,b+1,by omega,rfl,by go_num,by go_num,HNX,HB8⟩
     case measure=>first|(simp[intOf];done)|(simp[intOf];omega)
  ·obtain rfl:j=L.length:=by omega
   have HZ:=HAB.out
   have ea:a=M.length:=by
    have h1:=congrArg List.length HMS.out
    have h2:=HAB.out.1
    simp only[List.length_map]at h1 h2
    omega
   have eb:b=F.length:=by
    have h1:=congrArg List.length HFF.out
    have h2:=HAB.out.2
    simp only[List.length_map]at h1 h2
    omega
   subst ea eb
   have hal:=alive_a wr (HE.out.up (HB3.out.trans (HBr.out.mono HB3.out.size)))
   have HBw:Hid (Below w'.heap.size w' wr):=Lib.hid (HB3.out.trans (HBr.out.mono HB3.out.size))
   clear HZ
   go_wp2_with fail
   refine hal.mono ?_
   clear hal
   rintro e w5 ⟨rfl,b5⟩
   go_wp2
   go_ret
   exact⟨rfl,HBw.out.trans (b5.mono HBw.out.size)⟩
end Go.Proofs.YtcffonnijhhhiaaGreatDoor
