/- Part U17 of the proof: Ke Sf. -/
import Derived.Test.YtcffonnijhhhiaaGreatDoorProg
import Derived.WalkKit
import Derived.WalkLawsBesides
import Derived.WalkSpells
import Derived.Handy
import Derived.Lib.Hide
import Derived.Great.BuildSlice
import Derived.Deep.QuietTactic
import Derived.BigQuiet
import Derived.Deep.RegionHeld3
import Derived.Deep.DeepCutAuto
import Derived.Test.YtcffonnijhhhiaaGreatDoorU16
import Derived.Test.YtcffonnijhhhiaaGreatDoorU07
import Derived.Test.YtcffonnijhhhiaaGreatDoorU05
import Derived.Test.YtcffonnijhhhiaaGreatDoorU00
set_option linter.all false
set_option linter.unusedSimpArgs false
set_option linter.unusedVariables false
set_option linter.unusedSectionVars false
namespace Go.Proofs.YtcffonnijhhhiaaGreatDoor
open Go Go.RowKit Go.Maps Mp Go.Shelf
attribute [-simp] Prod.forall Prod.exists
attribute [local go_sem] Oper.semAt_some
theorem Rounds.same {α:Type}{B:Nat}{J:List α→Fix→World→Prop}(R:Rounds B J){s:List α}{φ:Fix}{W:World}(h:J s φ W):J s (fun _=>none) W:=
 R.grow s φ W W none h ⟨rfl,rfl,rfl,Nat.le_refl _,fun _ _ _=>rfl⟩ (fun r e=>by cases e)
theorem visit_keys {K V : Type} [DecidableEq K] {g : K → Option V} {D : List (K × V)} (h : Visit g D) (k : K) : k ∈ D.map (·.1) ↔ (g k).isSome = true := by
 constructor
 ·intro hk
  obtain⟨p,hp,rfl⟩:=List.mem_map.1 hk
  rw[(h.iff p.1 p.2).2 hp]
  rfl
 ·intro hk
  obtain⟨v,hv⟩:=Option.isSome_iff_exists.1 hk
  exact List.mem_map.2 ⟨(k,v),(h.iff k v).1 hv,rfl⟩
theorem rg_fix {K:Type}{ek:K→Value}{ok:K→Prop}{w:World}{b r:Nat}{f:K→Option Value}{left:K→Bool}{n:Nat}(h:RG ek ok w b r f left n): ∃o1 o2,w.heap[b]?=some o1∧o1.isWalk=true∧w.heap[r]?=some o2∧o2.isWalk=true:=by
 obtain⟨es,clock,since,seen,c0,hb,_,hr,_⟩:=h
 exact⟨_,_,hb,rfl,hr,rfl⟩
theorem len_okI {l:List Int}(hn:l.Nodup)(h: ∀x∈l,okI x):l.length≤1000001:=by
 have h1:((l.map Int.toNat)).Nodup:=by
  rw[List.nodup_iff_pairwise_ne,List.pairwise_map]
  rw[List.nodup_iff_pairwise_ne]at hn
  exact List.Pairwise.imp_of_mem (fun {a b} ha hb hne=>by have:=h a ha;have:=h b hb;unfold okI at*;omega) hn
 have h2:l.map Int.toNat ⊆ List.range 1000001:=fun x hx=>by
  obtain⟨y,hy,rfl⟩:=List.mem_map.1 hx
  have:=h y hy
  unfold okI at this
  rw[List.mem_range]
  omega
 simpa using h1.length_le_of_subset h2
theorem len_okP {l:List (Int×Int)}(hn:l.Nodup)(h: ∀x∈l,okP x):l.length≤1000002000001:=by
 have h1:((l.map fun p=>p.1.toNat*1000001+p.2.toNat)).Nodup:=by
  rw[List.nodup_iff_pairwise_ne,List.pairwise_map]
  rw[List.nodup_iff_pairwise_ne]at hn
  exact List.Pairwise.imp_of_mem (fun {a b} ha hb hne=>by
   have h3:=h a ha
   have h4:=h b hb
   unfold okP okI at*
   intro e
   refine hne (Prod.ext ?_ ?_)<;>omega) hn
 have h2:(l.map fun p=>p.1.toNat*1000001+p.2.toNat) ⊆ List.range 1000002000001:=fun x hx=>by
  obtain⟨y,hy,rfl⟩:=List.mem_map.1 hx
  have:=h y hy
  unfold okP okI at this
  rw[List.mem_range]
  omega
 have:=h1.length_le_of_subset h2
 rw[List.length_range]at this
 simpa using this
theorem yield_fix {K α:Type}{B n L:Nat}{J:List α→Fix→World→Prop}(R:Rounds B J){encv:α→Value}{Pre:List α→Prop}(hY: ∀s φ x V,J s φ V→Pre (s++[x])→YieldAt Fence.wide n Tryz.prog L #[encv x] V fun e V'=>e=.returned (.bool true)∧J (s++[x]) φ V')
  {ek:K→Value} {ok:K→Prop} {w:World} {b r:Nat} {f:K→Option Value} {left:K→Bool} {m:Nat} (hr:RG ek ok w b r f left m) {s:List α} {φ:Fix} (hJ:J s φ w) {x:α} (hp:Pre (s++[x])):
  YieldAt Fence.wide n Tryz.prog L #[encv x] w fun e V'=>e=.returned (.bool true)∧J (s++[x]) (fun _=>none) V'∧RG ek ok V' b r f left m:=by
 obtain⟨o1,o2,h1,h2,h3,h4⟩:=rg_fix hr
 refine(hY s (fun i=>if i=b then some o1 else if i=r then some o2 else none) x w (R.set _ _ _ _ hJ fun i o e=> ?_) hp).mono ?_
 ·split at e
  ·cases e;subst i;exact⟨h2,h1⟩
  ·split at e
   ·cases e;subst i;exact⟨h4,h3⟩
   ·cases e
 ·rintro e V ⟨he,hj⟩
  refine⟨he,R.same hj,hr.same ?_ ?_⟩
  ·rw[h1];exact R.get _ _ _ b o1 hj (by simp)
  ·rw[h3];exact R.get _ _ _ r o2 hj (by
    by_cases e:r=b
    ·exact absurd e hr.ne
    ·simp[e])
theorem keys_L (b:Nat)(w:World):Calls Tryz.prog 186 #[.map (some b)] w fun e w'=>e=.returned (.func (.func 227) #[] #[.pointer (some ⟨w.heap.size,0,none⟩)])∧w'=w.alloc (.cells #[.map (some b)] 128):=by
 go_enter Tryz.func186,Tryz.ntmps186
 go_wp2
 go_ret
 exact⟨rfl,rfl⟩
set_option maxRecDepth 100000 in
set_option maxHeartbeats 4000000 in
theorem gives_L {w:World}{bm b:Nat}{g:Int→Option (Nat×Nat)}(hbm:w.heap[bm]?=some (.cells #[.map (some b)] 128 (0,0)))(hfm:FM ekI okI w b fun k=>(g k).map (fun p:Nat×Nat=>Value.pointer (some ⟨p.1,0,none⟩))):
  Gives 227 #[.pointer (some ⟨bm,0,none⟩)] ekI (fun s=>s.Nodup∧ ∀x∈s,okI x) (fun s=>s.Nodup∧ ∀k,k∈s↔(g k).isSome=true) w:=by
 intro n L J W hn hb R h0 hY
 have hbm1:=(hb.block _ (Array.getElem?_eq_some_iff.1 hbm).1).trans hbm
 have hfm1:=hfm.same (hb.block _ hfm.lt)
 obtain⟨hc,hf⟩:=blk_cells hbm1
 have q0:=hc 0
 clear hc
 refine callsIn_of_wp Tryz.func227 rfl trivial ?_ rfl
 simp only[Tryz.ntmps227,List.size_toArray,List.length_cons,List.length_nil,Nat.reduceAdd,Nat.reduceSub,Array.replicate_succ,Array.replicate_zero,List.push_toArray,List.append_toArray,List.nil_append,List.cons_append]
 gi_wp2_with (first
  |(gi_at_range;refine wpListIn_range_fm _ rfl _ _ rfl kI Tryz.underlying128 rfl hfm1 ?_;intro w0 n0 hrg0 hg0 hs0)
  |gi_in)
 try go_frame
 have j0:=R.grow _ _ _ _ _ h0 hg0 (fun r e=>by cases e)
 gi_loopw [3] (fun _ wr => ∃ (left : Int → Bool) (m : Nat) (D : List ((Int) × (Nat × Nat))), Hid (Seen g D left) ∧ Hid (∀ p ∈ D, okI p.1) ∧ RG ekI okI wr b W.heap.size (fun k => (g k).map (fun p : Nat × Nat => Value.pointer (some ⟨p.1, 0, none⟩))) left m ∧ Hid (J (D.map (·.1)) (fun _ => none) wr)) (fun _ wr => wr.rangeLeft b W.heap.size)
 case atStart=>exact⟨fun k=>(g k).isSome,n0,[],Lib.hid (Seen.start g),Lib.hid (fun p hp=>by cases hp),by simpa using hrg0,Lib.hid j0⟩
 case round=>
  obtain⟨left,m,D,HS,HO,hrg,HJ⟩:=hrel
  gi_wp2_with (first
   |(gi_at_next;refine wpListIn_next_rg _ rfl _ rfl kI (fun p:Nat×Nat=>Value.pointer (some ⟨p.1,0,none⟩)) g (fun _=>rfl) _ _ rfl hrg ?_ ?_)
   |gi_in)
  ·intro hl0
   have hv:=HS.out.done hl0
   gi_wp2
   go_end0
   exact ⟨⟨_, rfl⟩, D.map (·.1), ⟨hv.nd, visit_keys hv⟩, HJ.out⟩
  ·intro k v w1 n1 hk hlx hv hrg1 hlt hg1 hs1 hen
   have hS1:=HS.out.step hv hlx
   have hO1: ∀p∈D++[(k,v)],okI p.1:=fun p hp=>by
    rcases List.mem_append.1 hp with hp|hp
    ·exact HO.out p hp
    ·rw[List.mem_singleton.1 hp];exact hk
   have hnd : ((D ++ [(k, v)]).map (·.1)) = D.map (·.1) ++ [k] := by simp
   obtain⟨o1,o2,_,_,hr2,hr3⟩:=rg_fix hrg
   have j1:=R.grow _ _ _ _ _ HJ.out hg1 (fun r e=>by cases e;exact⟨Nat.le_refl _,o2,hr2,hr3⟩)
   have hy:=yield_fix R (n:=n-1) (encv:=ekI) (Pre:=fun s=>s.Nodup∧ ∀x∈s,okI x) hY hrg1 j1 (x:=k) ⟨hnd▸hS1.nd,fun x hx=>by
    rw[←hnd]at hx
    obtain⟨p,hp,rfl⟩:=List.mem_map.1 hx
    exact hO1 p hp⟩
   obtain⟨fn,tmps,assign,body,hy1,hR⟩:=hy
   have HS1:=Lib.hid hS1
   have HO1:=Lib.hid hO1
   have HRG:=Lib.hid hrg
   have HV:=Lib.hid hv
   clear hS1 hO1 hrg hv hlx hr2 hr3 j1 hY hnd
   skip
   gi_wp2
   refine hR.mono ?_
   rintro e V ⟨rfl,hJ3,hrg3⟩
   gi_wp2
   go_roundw
   case rel=>exact⟨_,n1,D++[(k,v)],HS1,HO1,hrg3,Lib.hid (by simpa using hJ3)⟩
   case measure=>rw[hrg3.left_eq,HRG.out.left_eq];exact hlt
theorem keys_N (b:Nat)(w:World):Calls Tryz.prog 228 #[.map (some b)] w fun e w'=>e=.returned (.func (.func 270) #[] #[.pointer (some ⟨w.heap.size,0,none⟩)])∧w'=w.alloc (.cells #[.map (some b)] 134):=by
 go_enter Tryz.func228,Tryz.ntmps228
 go_wp2
 go_ret
 exact⟨rfl,rfl⟩
set_option maxRecDepth 100000 in
set_option maxHeartbeats 4000000 in
theorem gives_N {w:World}{bm b:Nat}{g:Int→Option (Int)}(hbm:w.heap[bm]?=some (.cells #[.map (some b)] 134 (0,0)))(hfm:FM ekI okI w b fun k=>(g k).map (Value.int .i64)):
  Gives 270 #[.pointer (some ⟨bm,0,none⟩)] ekI (fun s=>s.Nodup∧ ∀x∈s,okI x) (fun s=>s.Nodup∧ ∀k,k∈s↔(g k).isSome=true) w:=by
 intro n L J W hn hb R h0 hY
 have hbm1:=(hb.block _ (Array.getElem?_eq_some_iff.1 hbm).1).trans hbm
 have hfm1:=hfm.same (hb.block _ hfm.lt)
 obtain⟨hc,hf⟩:=blk_cells hbm1
 have q0:=hc 0
 clear hc
 refine callsIn_of_wp Tryz.func270 rfl trivial ?_ rfl
 simp only[Tryz.ntmps270,List.size_toArray,List.length_cons,List.length_nil,Nat.reduceAdd,Nat.reduceSub,Array.replicate_succ,Array.replicate_zero,List.push_toArray,List.append_toArray,List.nil_append,List.cons_append]
 gi_wp2_with (first
  |(gi_at_range;refine wpListIn_range_fm _ rfl _ _ rfl kI Tryz.underlying134 rfl hfm1 ?_;intro w0 n0 hrg0 hg0 hs0)
  |gi_in)
 try go_frame
 have j0:=R.grow _ _ _ _ _ h0 hg0 (fun r e=>by cases e)
 gi_loopw [3] (fun _ wr => ∃ (left : Int → Bool) (m : Nat) (D : List ((Int) × (Int))), Hid (Seen g D left) ∧ Hid (∀ p ∈ D, okI p.1) ∧ RG ekI okI wr b W.heap.size (fun k => (g k).map (Value.int .i64)) left m ∧ Hid (J (D.map (·.1)) (fun _ => none) wr)) (fun _ wr => wr.rangeLeft b W.heap.size)
 case atStart=>exact⟨fun k=>(g k).isSome,n0,[],Lib.hid (Seen.start g),Lib.hid (fun p hp=>by cases hp),by simpa using hrg0,Lib.hid j0⟩
 case round=>
  obtain⟨left,m,D,HS,HO,hrg,HJ⟩:=hrel
  gi_wp2_with (first
   |(gi_at_next;refine wpListIn_next_rg _ rfl _ rfl kI (Value.int .i64) g (fun _=>rfl) _ _ rfl hrg ?_ ?_)
   |gi_in)
  ·intro hl0
   have hv:=HS.out.done hl0
   gi_wp2
   go_end0
   exact ⟨⟨_, rfl⟩, D.map (·.1), ⟨hv.nd, visit_keys hv⟩, HJ.out⟩
  ·intro k v w1 n1 hk hlx hv hrg1 hlt hg1 hs1 hen
   have hS1:=HS.out.step hv hlx
   have hO1: ∀p∈D++[(k,v)],okI p.1:=fun p hp=>by
    rcases List.mem_append.1 hp with hp|hp
    ·exact HO.out p hp
    ·rw[List.mem_singleton.1 hp];exact hk
   have hnd : ((D ++ [(k, v)]).map (·.1)) = D.map (·.1) ++ [k] := by simp
   obtain⟨o1,o2,_,_,hr2,hr3⟩:=rg_fix hrg
   have j1:=R.grow _ _ _ _ _ HJ.out hg1 (fun r e=>by cases e;exact⟨Nat.le_refl _,o2,hr2,hr3⟩)
   have hy:=yield_fix R (n:=n-1) (encv:=ekI) (Pre:=fun s=>s.Nodup∧ ∀x∈s,okI x) hY hrg1 j1 (x:=k) ⟨hnd▸hS1.nd,fun x hx=>by
    rw[←hnd]at hx
    obtain⟨p,hp,rfl⟩:=List.mem_map.1 hx
    exact hO1 p hp⟩
   obtain⟨fn,tmps,assign,body,hy1,hR⟩:=hy
   have HS1:=Lib.hid hS1
   have HO1:=Lib.hid hO1
   have HRG:=Lib.hid hrg
   have HV:=Lib.hid hv
   clear hS1 hO1 hrg hv hlx hr2 hr3 j1 hY hnd
   skip
   gi_wp2
   refine hR.mono ?_
   rintro e V ⟨rfl,hJ3,hrg3⟩
   gi_wp2
   go_roundw
   case rel=>exact⟨_,n1,D++[(k,v)],HS1,HO1,hrg3,Lib.hid (by simpa using hJ3)⟩
   case measure=>rw[hrg3.left_eq,HRG.out.left_eq];exact hlt
theorem keys_E (b:Nat)(w:World):Calls Tryz.prog 224 #[.map (some b)] w fun e w'=>e=.returned (.func (.func 267) #[] #[.pointer (some ⟨w.heap.size,0,none⟩)])∧w'=w.alloc (.cells #[.map (some b)] 129):=by
 go_enter Tryz.func224,Tryz.ntmps224
 go_wp2
 go_ret
 exact⟨rfl,rfl⟩
set_option maxRecDepth 100000 in
set_option maxHeartbeats 4000000 in
theorem gives_E {w:World}{bm b:Nat}{g:Int×Int→Option (Int)}(hbm:w.heap[bm]?=some (.cells #[.map (some b)] 129 (0,0)))(hfm:FM ekP okP w b fun k=>(g k).map (Value.int .i64)):
  Gives 267 #[.pointer (some ⟨bm,0,none⟩)] ekP (fun s=>s.Nodup∧ ∀x∈s,okP x) (fun s=>s.Nodup∧ ∀k,k∈s↔(g k).isSome=true) w:=by
 intro n L J W hn hb R h0 hY
 have hbm1:=(hb.block _ (Array.getElem?_eq_some_iff.1 hbm).1).trans hbm
 have hfm1:=hfm.same (hb.block _ hfm.lt)
 obtain⟨hc,hf⟩:=blk_cells hbm1
 have q0:=hc 0
 clear hc
 refine callsIn_of_wp Tryz.func267 rfl trivial ?_ rfl
 simp only[Tryz.ntmps267,List.size_toArray,List.length_cons,List.length_nil,Nat.reduceAdd,Nat.reduceSub,Array.replicate_succ,Array.replicate_zero,List.push_toArray,List.append_toArray,List.nil_append,List.cons_append]
 gi_wp2_with (first
  |(gi_at_range;refine wpListIn_range_fm _ rfl _ _ rfl kP Tryz.underlying129 rfl hfm1 ?_;intro w0 n0 hrg0 hg0 hs0)
  |gi_in)
 try go_frame
 have j0:=R.grow _ _ _ _ _ h0 hg0 (fun r e=>by cases e)
 gi_loopw [3] (fun _ wr => ∃ (left : Int × Int → Bool) (m : Nat) (D : List ((Int × Int) × (Int))), Hid (Seen g D left) ∧ Hid (∀ p ∈ D, okP p.1) ∧ RG ekP okP wr b W.heap.size (fun k => (g k).map (Value.int .i64)) left m ∧ Hid (J (D.map (·.1)) (fun _ => none) wr)) (fun _ wr => wr.rangeLeft b W.heap.size)
 case atStart=>exact⟨fun k=>(g k).isSome,n0,[],Lib.hid (Seen.start g),Lib.hid (fun p hp=>by cases hp),by simpa using hrg0,Lib.hid j0⟩
 case round=>
  obtain⟨left,m,D,HS,HO,hrg,HJ⟩:=hrel
  gi_wp2_with (first
   |(gi_at_next;refine wpListIn_next_rg _ rfl _ rfl kP (Value.int .i64) g (fun _=>rfl) _ _ rfl hrg ?_ ?_)
   |gi_in)
  ·intro hl0
   have hv:=HS.out.done hl0
   gi_wp2
   go_end0
   exact ⟨⟨_, rfl⟩, D.map (·.1), ⟨hv.nd, visit_keys hv⟩, HJ.out⟩
  ·intro k v w1 n1 hk hlx hv hrg1 hlt hg1 hs1 hen
   have hS1:=HS.out.step hv hlx
   have hO1: ∀p∈D++[(k,v)],okP p.1:=fun p hp=>by
    rcases List.mem_append.1 hp with hp|hp
    ·exact HO.out p hp
    ·rw[List.mem_singleton.1 hp];exact hk
   have hnd : ((D ++ [(k, v)]).map (·.1)) = D.map (·.1) ++ [k] := by simp
   obtain⟨o1,o2,_,_,hr2,hr3⟩:=rg_fix hrg
   have j1:=R.grow _ _ _ _ _ HJ.out hg1 (fun r e=>by cases e;exact⟨Nat.le_refl _,o2,hr2,hr3⟩)
   obtain⟨W2,hW2⟩: ∃W2:World,W2=w1.alloc (.cells #[.int .i64 k.1,.int .i64 k.2] 163):=⟨_,rfl⟩
   have b2:Below w1.heap.size w1 W2:=by rw[hW2];exact(Below.refl _ _).alloc (Nat.le_refl _) _
   have rg2:=hrg1.same (b2.block _ hrg1.fm.lt) (b2.block _ hrg1.lt)
   have j2:=R.grow _ _ _ _ none j1 (grownBy_of_below b2) (fun r e=>by cases e)
   have HW:=Lib.hid hW2
   clear hW2
   have hy:=yield_fix R (n:=n-1) (encv:=ekP) (Pre:=fun s=>s.Nodup∧ ∀x∈s,okP x) hY rg2 j2 (x:=k) ⟨hnd▸hS1.nd,fun x hx=>by
    rw[←hnd]at hx
    obtain⟨p,hp,rfl⟩:=List.mem_map.1 hx
    exact hO1 p hp⟩
   obtain⟨fn,tmps,assign,body,hy1,hR⟩:=hy
   have HS1:=Lib.hid hS1
   have HO1:=Lib.hid hO1
   have HRG:=Lib.hid hrg
   have HV:=Lib.hid hv
   clear hS1 hO1 hrg hv hlx hr2 hr3 j1 j2 hY hnd
   rw[HW.out]at hy1 hR
   gi_wp2
   refine hR.mono ?_
   rintro e V ⟨rfl,hJ3,hrg3⟩
   gi_wp2
   go_roundw
   case rel=>exact⟨_,n1,D++[(k,v)],HS1,HO1,hrg3,Lib.hid (by simpa using hJ3)⟩
   case measure=>rw[hrg3.left_eq,HRG.out.left_eq];exact hlt
theorem keys_G (b:Nat)(w:World):Calls Tryz.prog 225 #[.map (some b)] w fun e w'=>e=.returned (.func (.func 268) #[] #[.pointer (some ⟨w.heap.size,0,none⟩)])∧w'=w.alloc (.cells #[.map (some b)] 130):=by
 go_enter Tryz.func225,Tryz.ntmps225
 go_wp2
 go_ret
 exact⟨rfl,rfl⟩
set_option maxRecDepth 100000 in
set_option maxHeartbeats 4000000 in
theorem gives_G {w:World}{bm b:Nat}{g:Int×Int→Option (Int×Int)}(hbm:w.heap[bm]?=some (.cells #[.map (some b)] 130 (0,0)))(hfm:FM ekP okP w b fun k=>(g k).map evG):
  Gives 268 #[.pointer (some ⟨bm,0,none⟩)] ekP (fun s=>s.Nodup∧ ∀x∈s,okP x) (fun s=>s.Nodup∧ ∀k,k∈s↔(g k).isSome=true) w:=by
 intro n L J W hn hb R h0 hY
 have hbm1:=(hb.block _ (Array.getElem?_eq_some_iff.1 hbm).1).trans hbm
 have hfm1:=hfm.same (hb.block _ hfm.lt)
 obtain⟨hc,hf⟩:=blk_cells hbm1
 have q0:=hc 0
 clear hc
 refine callsIn_of_wp Tryz.func268 rfl trivial ?_ rfl
 simp only[Tryz.ntmps268,List.size_toArray,List.length_cons,List.length_nil,Nat.reduceAdd,Nat.reduceSub,Array.replicate_succ,Array.replicate_zero,List.push_toArray,List.append_toArray,List.nil_append,List.cons_append]
 gi_wp2_with (first
  |(gi_at_range;refine wpListIn_range_fm _ rfl _ _ rfl kP Tryz.underlying130 rfl hfm1 ?_;intro w0 n0 hrg0 hg0 hs0)
  |gi_in)
 try go_frame
 have j0:=R.grow _ _ _ _ _ h0 hg0 (fun r e=>by cases e)
 gi_loopw [3] (fun _ wr => ∃ (left : Int × Int → Bool) (m : Nat) (D : List ((Int × Int) × (Int × Int))), Hid (Seen g D left) ∧ Hid (∀ p ∈ D, okP p.1) ∧ RG ekP okP wr b W.heap.size (fun k => (g k).map evG) left m ∧ Hid (J (D.map (·.1)) (fun _ => none) wr)) (fun _ wr => wr.rangeLeft b W.heap.size)
 case atStart=>exact⟨fun k=>(g k).isSome,n0,[],Lib.hid (Seen.start g),Lib.hid (fun p hp=>by cases hp),by simpa using hrg0,Lib.hid j0⟩
 case round=>
  obtain⟨left,m,D,HS,HO,hrg,HJ⟩:=hrel
  gi_wp2_with (first
   |(gi_at_next;refine wpListIn_next_rg _ rfl _ rfl kP evG g (fun _=>rfl) _ _ rfl hrg ?_ ?_)
   |gi_in)
  ·intro hl0
   have hv:=HS.out.done hl0
   gi_wp2
   go_end0
   exact ⟨⟨_, rfl⟩, D.map (·.1), ⟨hv.nd, visit_keys hv⟩, HJ.out⟩
  ·intro k v w1 n1 hk hlx hv hrg1 hlt hg1 hs1 hen
   have hS1:=HS.out.step hv hlx
   have hO1: ∀p∈D++[(k,v)],okP p.1:=fun p hp=>by
    rcases List.mem_append.1 hp with hp|hp
    ·exact HO.out p hp
    ·rw[List.mem_singleton.1 hp];exact hk
   have hnd : ((D ++ [(k, v)]).map (·.1)) = D.map (·.1) ++ [k] := by simp
   obtain⟨o1,o2,_,_,hr2,hr3⟩:=rg_fix hrg
   have j1:=R.grow _ _ _ _ _ HJ.out hg1 (fun r e=>by cases e;exact⟨Nat.le_refl _,o2,hr2,hr3⟩)
   obtain⟨W2,hW2⟩: ∃W2:World,W2=w1.alloc (.cells #[.int .i64 k.1,.int .i64 k.2] 163):=⟨_,rfl⟩
   have b2:Below w1.heap.size w1 W2:=by rw[hW2];exact(Below.refl _ _).alloc (Nat.le_refl _) _
   have rg2:=hrg1.same (b2.block _ hrg1.fm.lt) (b2.block _ hrg1.lt)
   have j2:=R.grow _ _ _ _ none j1 (grownBy_of_below b2) (fun r e=>by cases e)
   have HW:=Lib.hid hW2
   clear hW2
   have hy:=yield_fix R (n:=n-1) (encv:=ekP) (Pre:=fun s=>s.Nodup∧ ∀x∈s,okP x) hY rg2 j2 (x:=k) ⟨hnd▸hS1.nd,fun x hx=>by
    rw[←hnd]at hx
    obtain⟨p,hp,rfl⟩:=List.mem_map.1 hx
    exact hO1 p hp⟩
   obtain⟨fn,tmps,assign,body,hy1,hR⟩:=hy
   have HS1:=Lib.hid hS1
   have HO1:=Lib.hid hO1
   have HRG:=Lib.hid hrg
   have HV:=Lib.hid hv
   clear hS1 hO1 hrg hv hlx hr2 hr3 j1 j2 hY hnd
   rw[HW.out]at hy1 hR
   gi_wp2
   refine hR.mono ?_
   rintro e V ⟨rfl,hJ3,hrg3⟩
   gi_wp2
   go_roundw
   case rel=>exact⟨_,n1,D++[(k,v)],HS1,HO1,hrg3,Lib.hid (by simpa using hJ3)⟩
   case measure=>rw[hrg3.left_eq,HRG.out.left_eq];exact hlt
theorem keys_V (b:Nat)(w:World):Calls Tryz.prog 141 #[.map (some b)] w fun e w'=>e=.returned (.func (.func 203) #[] #[.pointer (some ⟨w.heap.size,0,none⟩)])∧w'=w.alloc (.cells #[.map (some b)] 134):=by
 go_enter Tryz.func141,Tryz.ntmps141
 go_wp2
 go_ret
 exact⟨rfl,rfl⟩
set_option maxRecDepth 100000 in
set_option maxHeartbeats 4000000 in
theorem gives_V {w:World}{bm b:Nat}{g:Int→Option (Int)}(hbm:w.heap[bm]?=some (.cells #[.map (some b)] 134 (0,0)))(hfm:FM ekI okI w b fun k=>(g k).map (Value.int .i64)):
  Gives 203 #[.pointer (some ⟨bm, 0, none⟩)] (Value.int .i64) (fun s => s.length ≤ 1000001) (fun s => ∃ D : List (Int × Int), Visit g D ∧ s = D.map (·.2)) w := by
 intro n L J W hn hb R h0 hY
 have hbm1:=(hb.block _ (Array.getElem?_eq_some_iff.1 hbm).1).trans hbm
 have hfm1:=hfm.same (hb.block _ hfm.lt)
 obtain⟨hc,hf⟩:=blk_cells hbm1
 have q0:=hc 0
 clear hc
 refine callsIn_of_wp Tryz.func203 rfl trivial ?_ rfl
 simp only[Tryz.ntmps203,List.size_toArray,List.length_cons,List.length_nil,Nat.reduceAdd,Nat.reduceSub,Array.replicate_succ,Array.replicate_zero,List.push_toArray,List.append_toArray,List.nil_append,List.cons_append]
 gi_wp2_with (first
  |(gi_at_range;refine wpListIn_range_fm _ rfl _ _ rfl kI Tryz.underlying134 rfl hfm1 ?_;intro w0 n0 hrg0 hg0 hs0)
  |gi_in)
 try go_frame
 have j0:=R.grow _ _ _ _ _ h0 hg0 (fun r e=>by cases e)
 gi_loopw [4] (fun _ wr => ∃ (left : Int → Bool) (m : Nat) (D : List ((Int) × (Int))), Hid (Seen g D left) ∧ Hid (∀ p ∈ D, okI p.1) ∧ RG ekI okI wr b W.heap.size (fun k => (g k).map (Value.int .i64)) left m ∧ Hid (J (D.map (·.2)) (fun _ => none) wr)) (fun _ wr => wr.rangeLeft b W.heap.size)
 case atStart=>exact⟨fun k=>(g k).isSome,n0,[],Lib.hid (Seen.start g),Lib.hid (fun p hp=>by cases hp),by simpa using hrg0,Lib.hid j0⟩
 case round=>
  obtain⟨left,m,D,HS,HO,hrg,HJ⟩:=hrel
  gi_wp2_with (first
   |(gi_at_next;refine wpListIn_next_rg _ rfl _ rfl kI (Value.int .i64) g (fun _=>rfl) _ _ rfl hrg ?_ ?_)
   |gi_in)
  ·intro hl0
   have hv:=HS.out.done hl0
   gi_wp2
   go_end0
   exact ⟨⟨_, rfl⟩, D.map (·.2), ⟨D, hv, rfl⟩, HJ.out⟩
  ·intro k v w1 n1 hk hlx hv hrg1 hlt hg1 hs1 hen
   have hS1:=HS.out.step hv hlx
   have hO1: ∀p∈D++[(k,v)],okI p.1:=fun p hp=>by
    rcases List.mem_append.1 hp with hp|hp
    ·exact HO.out p hp
    ·rw[List.mem_singleton.1 hp];exact hk
   have hnd : ((D ++ [(k, v)]).map (·.2)) = D.map (·.2) ++ [v] := by simp
   obtain⟨o1,o2,_,_,hr2,hr3⟩:=rg_fix hrg
   have j1:=R.grow _ _ _ _ _ HJ.out hg1 (fun r e=>by cases e;exact⟨Nat.le_refl _,o2,hr2,hr3⟩)
   have hy := yield_fix R (n := n - 1) (encv := (Value.int .i64)) (Pre := fun s => s.length ≤ 1000001) hY hrg1 j1 (x := v) (show (D.map (·.2) ++ [v]).length ≤ 1000001 by
    have := len_okI (l := (D ++ [(k, v)]).map (·.1)) hS1.nd (fun x hx => by obtain ⟨p, hp, rfl⟩ := List.mem_map.1 hx; exact hO1 p hp)
    simpa using this)
   obtain⟨fn,tmps,assign,body,hy1,hR⟩:=hy
   have HS1:=Lib.hid hS1
   have HO1:=Lib.hid hO1
   have HRG:=Lib.hid hrg
   have HV:=Lib.hid hv
   clear hS1 hO1 hrg hv hlx hr2 hr3 j1 hY hnd
   skip
   gi_wp2
   refine hR.mono ?_
   rintro e V ⟨rfl,hJ3,hrg3⟩
   gi_wp2
   go_roundw
   case rel=>exact⟨_,n1,D++[(k,v)],HS1,HO1,hrg3,Lib.hid (by simpa using hJ3)⟩
   case measure=>rw[hrg3.left_eq,HRG.out.left_eq];exact hlt
end Go.Proofs.YtcffonnijhhhiaaGreatDoor
namespace Go.Proofs.YtcffonnijhhhiaaGreatDoor
open Go Go.RowKit Go.Maps Mp Go.Shelf
attribute [-simp] Prod.forall Prod.exists
theorem orI_a (A:Option Addr)(cp:Nat)(l:List Int)(w:World)(hl:Ints w w.heap.size A l)(hn:l.length≤1000):
  Calls Tryz.prog 155 #[.slice A l.length cp] w fun e w'=>e=.returned (.int .i64 ((l.find? fun x=>x !=0).getD 0))∧w=w':=by
 go_enter Tryz.func155,Tryz.ntmps155
 go_wp2
 go_loop [8] (fun i=> ∃(k:Nat),k≤l.length∧i=.int .i64 k∧Hid (∀j (h:j<l.length),j<k→l[j]=0)) (fun i=>l.length-(intOf i).toNat)
 case atStart=>exact⟨0,by omega,rfl,Lib.hid fun j _ h=>by omega⟩
 case round=>
  obtain⟨k,hk,rfl,hz⟩:=hrel
  by_cases hlt:k<l.length
  ·obtain⟨b,off,rfl,hb,q0⟩:=Ints.at1 hl hlt
   have e1:(0:Int)≤(k:Int):=by omega
   have e2:(k:Int)<(l.length:Int):=by omega
   by_cases h0:l[k]=0
   ·have HN:Hid (∀j (h:j<l.length),j<k+1→l[j]=0):=Lib.hid fun j h hj=>by
     by_cases e:j=k
     ·subst e;exact h0
     ·exact hz.out j h (by omega)
    rw[h0]at q0
    clear hz h0
    go_wp2
    go_round
    case rel=>exact⟨k+1,by omega,by go_num,HN⟩
    case measure=>first|(simp[intOf];done)|(simp[intOf];omega)
   ·have HF:Hid ((l.find? fun x=>x !=0).getD 0=l[k]):=Lib.hid (by
     have h1:l=l.take k++l[k]::l.drop (k+1):=by rw[←List.drop_eq_getElem_cons hlt,List.take_append_drop]
     have h2:(l.take k).find? (fun x=>x !=0)=none:=by
      rw[List.find?_eq_none]
      intro x hx
      obtain⟨j,hj,rfl⟩:=List.mem_take_iff_getElem.1 hx
      rw[hz.out j (by omega) (by omega)]
      decide
     conv=>lhs;rw[h1]
     rw[List.find?_append,h2,Option.none_or,List.find?_cons_of_pos (by simpa using h0)]
     rfl)
    obtain⟨x,hx⟩: ∃x,l[k]=x:=⟨_,rfl⟩
    rw[hx]at q0 h0 HF
    have q1:(x !=0)=true:=by simpa using h0
    clear hz hx h0
    go_wp2
    go_ret
    exact⟨by rw[HF.out];rfl,rfl⟩
  ·have HF:Hid ((l.find? fun x=>x !=0).getD 0=0):=Lib.hid (by
    rw[List.find?_eq_none.2]
    ·rfl
    ·intro x hx
     obtain⟨j,hj,rfl⟩:=List.getElem_of_mem hx
     rw[hz.out j hj (by omega)]
     decide)
   clear hz
   go_wp2
   go_ret
   exact⟨by rw[HF.out];rfl,rfl⟩
theorem nan_a (x:Int)(w:World):Calls Tryz.prog 187 #[.int .i64 x] w fun e w'=>e=.returned (.bool false)∧w'=w:=by
 go_enter Tryz.func187,Tryz.ntmps187
 go_wp2
 go_ret
 exact⟨by simp,rfl⟩
theorem cmpI_a (x y:Int)(w:World):Calls Tryz.prog 131 #[.int .i64 x,.int .i64 y] w fun e w'=>e=.returned (.int .i64 (Lib.compareInt x y))∧w'=w:=by
 go_enter Tryz.func131,Tryz.ntmps131
 go_wp2_with (go_at_call 187;refine(nan_a _ _).mono ?_;rintro e w' ⟨rfl,rfl⟩)
 all_goals (go_ret;refine⟨?_,rfl⟩;unfold Lib.compareInt;simp_all<;>omega)
def cfP (x y:Int×Int):Int:=if Lib.compareInt x.1 y.1=0 then Lib.compareInt x.2 y.2 else Lib.compareInt x.1 y.1
theorem cfP_find (x y:Int×Int):(([Lib.compareInt x.1 y.1,Lib.compareInt x.2 y.2]:List Int).find? fun x=>x !=0).getD 0=cfP x y:=by
 unfold cfP
 by_cases h1:Lib.compareInt x.1 y.1=0
 ·by_cases h2:Lib.compareInt x.2 y.2=0
  ·simp[h1,h2]
  ·simp[h1,h2]
 ·simp[h1]
theorem cfP_lt (x y:Int×Int):cfP x y<0↔Rt.before x y:=by
 unfold cfP Lib.compareInt Rt.before
 repeat' split
 all_goals omega
theorem cfI_lt (x y:Int):Lib.compareInt x y<0↔x<y:=by
 unfold Lib.compareInt
 repeat' split
 all_goals omega
theorem swoI :Sort.SWO (ltOf Lib.compareInt) where
 irrefl x:=by unfold ltOf;rw[decide_eq_false_iff_not,cfI_lt];omega
 trans x y z h1 h2:=by unfold ltOf at*;rw[decide_eq_true_eq,cfI_lt]at*;omega
 ntrans x y z h1 h2:=by unfold ltOf at*;rw[decide_eq_false_iff_not,cfI_lt]at*;omega
theorem swoP :Sort.SWO (ltOf cfP) where
 irrefl x:=by unfold ltOf;rw[decide_eq_false_iff_not,cfP_lt];unfold Rt.before;omega
 trans x y z h1 h2:=by unfold ltOf at*;rw[decide_eq_true_eq,cfP_lt]at*;exact h1.trans h2
 ntrans x y z h1 h2:=by unfold ltOf at*;rw[decide_eq_false_iff_not,cfP_lt]at*;unfold Rt.before at*;omega
set_option maxRecDepth 100000 in
set_option maxHeartbeats 4000000 in
theorem pairs_a (x y:Int×Int)(W:World):Calls Tryz.prog 182 #[.agg #[.int .i64 x.1,.int .i64 x.2],.agg #[.int .i64 y.1,.int .i64 y.2]] W fun e w'=>e=.returned (.int .i64 (cfP x y))∧ ∃q os',w'=Sort.grow (W.drewN q) os':=by
 have HR:=Lib.hid (cfP_find x y)
 have c1:=fun V=>cmpI_a x.1 y.1 V
 have c2:=fun V=>cmpI_a x.2 y.2 V
 obtain⟨r1,hr1⟩: ∃r,Lib.compareInt x.1 y.1=r:=⟨_,rfl⟩
 obtain⟨r2,hr2⟩: ∃r,Lib.compareInt x.2 y.2=r:=⟨_,rfl⟩
 rw[hr1]at c1 HR
 rw[hr2]at c2 HR
 clear hr1 hr2
 obtain⟨V0,hV0⟩: ∃V0,(W.alloc (.cells #[.int .i64 x.1,.int .i64 x.2] 163)).alloc (.cells #[.int .i64 y.1,.int .i64 y.2] 163)=V0:=⟨_,rfl⟩
 have HV:Hid (∃os,V0=Sort.grow W os):=Lib.hid ⟨_,by rw[←hV0,Sort.alloc_eq_grow,Sort.alloc_eq_grow,Sort.grow_grow]⟩
 have k1:V0.heap[W.heap.size]?=some (.cells #[.int .i64 x.1,.int .i64 x.2] 163 (0,0)):=by rw[←hV0];exact(Below.heap_alloc _ _ _ (by simp)).trans (heap_alloc_new W _)
 have k2:V0.heap[W.heap.size+1]?=some (.cells #[.int .i64 y.1,.int .i64 y.2] 163 (0,0)):=by rw[←hV0];exact heap_at (by simp)
 have hV1:W.heap.size+1<V0.heap.size:=(Array.getElem?_eq_some_iff.1 k2).1
 have hor:=orI_a (some ⟨V0.heap.size,0,none⟩) 2 [r1,r2] (V0.alloc (.cells #[.int .i64 r1,.int .i64 r2] 3)).drew (.inr ⟨V0.heap.size,0,rfl,by simp,fun k x hx j v hv=>by
  have h3:=(blk_cells (heap_alloc_new V0 (.cells #[.int .i64 r1,.int .i64 r2] 3))).1 k
  have:j=0:=by have:=(List.getElem?_eq_some_iff.1 hv).1;simp[encInt]at this;exact this
  subst this
  simp[encInt]at hv
  subst hv
  rw[World.cell?_drew]
  rw[show(0+k*1+0)=k by omega]
  rw[h3]
  match k,hx with
  |0,hx=>simpa using hx
  |1,hx=>simpa using hx⟩) (by simp)
 rw[HR.out]at hor
 clear HR
 have hA:=((Below.refl V0.heap.size V0).alloc (Nat.le_refl _) (.cells #[.int .i64 r1,.int .i64 r2] 3)).drew
 obtain⟨hc1,hf1⟩:=blk_cells k1
 obtain⟨hc2,hf2⟩:=blk_cells k2
 have d1:=hc1 0
 have d2:=hc1 1
 have d4:=hc2 0
 have d5:=hc2 1
 clear hc1 hc2 hf1 hf2 k1 k2
 go_enter Tryz.func182,Tryz.ntmps182
 go_wp2
 clear hV0
 go_region_held3 (fun V=>V.cell? ⟨W.heap.size,0,none⟩=some (.int .i64 x.1)∧V.cell? ⟨W.heap.size,1,none⟩=some (.int .i64 x.2)∧V.cell? ⟨W.heap.size+1,0,none⟩=some (.int .i64 y.1)∧V.cell? ⟨W.heap.size+1,1,none⟩=some (.int .i64 y.2)) (first|exact⟨d1,d2,d4,d5⟩|exact⟨(hA.cell (p:=⟨W.heap.size,0,none⟩) (show W.heap.size<V0.heap.size by omega)).trans d1,(hA.cell (p:=⟨W.heap.size,1,none⟩) (show W.heap.size<V0.heap.size by omega)).trans d2,(hA.cell (p:=⟨W.heap.size+1,0,none⟩) (show W.heap.size+1<V0.heap.size by omega)).trans d4,(hA.cell (p:=⟨W.heap.size+1,1,none⟩) (show W.heap.size+1<V0.heap.size by omega)).trans d5⟩) (first
  |(go_at_call 131;refine(c1 _).mono ?_;rintro e w' ⟨rfl,rfl⟩;clear c1)
  |(go_at_call 131;refine(c2 _).mono ?_;rintro e w' ⟨rfl,rfl⟩;clear c2)
  |(go_at_call 155;refine hor.mono ?_;rintro e w' ⟨rfl,rfl⟩))
 all_goals go_wp2
 all_goals go_ret
 all_goals (
  obtain⟨os,hos⟩:=HV.out
  exact⟨rfl,1,_,by rw[hos,Sort.alloc_eq_grow,Sort.grow_grow];rfl⟩)
end Go.Proofs.YtcffonnijhhhiaaGreatDoor
