/- Part U23 of the proof: Ly Lz Wr FdL FdE. -/
import Derived.Test.YtcffonnijhhhiaaGreatDoorProg
import Derived.WalkKit
import Derived.WalkLawsBesides
import Derived.WalkSpells
import Derived.Handy
import Derived.Lib.Hide
import Derived.Great.BuildSlice
import Derived.Deep.QuietTactic
import Derived.BigQuiet
import Derived.Deep.RegionHeld3
import Derived.Deep.DeepCutAuto
import Derived.Laws.EntriesVeiled
import Derived.Test.YtcffonnijhhhiaaGreatDoorU22
import Derived.Test.YtcffonnijhhhiaaGreatDoorU19
import Derived.Test.YtcffonnijhhhiaaGreatDoorU20
import Derived.Test.YtcffonnijhhhiaaGreatDoorU14
import Derived.Test.YtcffonnijhhhiaaGreatDoorU18
set_option linter.all false
set_option linter.unusedSimpArgs false
set_option linter.unusedVariables false
set_option linter.unusedSectionVars false
namespace Go.Proofs.Rt
def rise (l:List Int):List Int:=l.mergeSort fun x y=>decide (x≤y)
def lineQ (l:List Deal)(n:Int):List Nat×List Int:=follow l (l.length+1) n ([],[])
def linePs (l:List Deal)(n:Int):List Int:=rise ((lineQ l n).1.map fun p:Nat=>(p:Int))
def lineRs (l:List Deal)(n:Int):List Int:=rise (lineQ l n).2
end Go.Proofs.Rt
namespace Go.Proofs.YtcffonnijhhhiaaGreatDoor
open Go Go.RowKit Go.Maps Mp
attribute [-simp] Prod.forall Prod.exists
attribute [-go_sem] loadVar storeVar Builtin.append_
attribute [local go_sem] lk_int lk_u8 lk_ints lk_bools lk_deals lk_fun
theorem rise_eq {l l':List Int}(h:SortedOf (fun x y:Int=>x≤y) l l'):l'=Rt.rise l:=by
 have h2:=sorted_le l
 refine List.Perm.eq_of_pairwise (le:=fun x y:Int=>x≤y) ?_ h.2.1 h2.2.1 (h.1.trans h2.1.symm)
 intro a b _ _ h1 h2
 omega
theorem set_same {w:World}{b:Nat}{v:Value}{t:TypeId}(h:w.heap[b]?=some (.cells #[v] t (0,0))):w.setCell ⟨b,0,none⟩ v=w:=by
 obtain⟨hlt,hk⟩:=Array.getElem?_eq_some_iff.1 h
 have e:(w.setCell ⟨b,0,none⟩ v).heap=w.heap:=by
  apply Array.ext_getElem?
  intro i
  by_cases hi:i=b
  ·subst hi
   rw[hsc v h,h]
   rfl
  ·exact Below.heap_setCell _ _ _ i hi
 unfold World.setCell at e ⊢
 cases w
 simp only[World.mk.injEq,and_true]at e ⊢
 exact e
theorem LN.start (w:World)(A:Option Addr)(c:Nat)(L:List Dp):
  LN w w.heap.size ((((((w.alloc (.cells #[.slice A L.length c] 34 (0,0))).alloc (.cells #[.slice none 0 0] 22 (0,0))).alloc (.cells #[.slice none 0 0] 22 (0,0))).alloc (.map #[] 0)).alloc (.cells #[.map (some (w.heap.size+1+1+1))] 127 (0,0))).alloc
   (.cells #[.func (.func 220) #[] (capF w.heap.size)] 237 (0,0))) A c L [] [] (.slice none 0 0) (.slice none 0 0):=by
 refine⟨?_,?_,?_,?_,?_,World.ownsRow_nil _ _ _ _,?_,World.ownsRow_nil _ _ _ _,?_,?_,?_,?_,?_,?_,?_,?_⟩
 ·rw[Below.heap_alloc _ _ _ (by simp;try omega)];rw[Below.heap_alloc _ _ _ (by simp;try omega)];rw[Below.heap_alloc _ _ _ (by simp;try omega)];rw[Below.heap_alloc _ _ _ (by simp;try omega)];rw[Below.heap_alloc _ _ _ (by simp;try omega)];exact heap_at (by simp)
 ·exact heap_at (by simp)
 ·rw[Below.heap_alloc _ _ _ (by simp;try omega)];exact heap_at (by simp)
 ·exact((FM.new _ (by simp)).alloc _).alloc _
 ·rw[Below.heap_alloc _ _ _ (by simp;try omega)];rw[Below.heap_alloc _ _ _ (by simp;try omega)];rw[Below.heap_alloc _ _ _ (by simp;try omega)];rw[Below.heap_alloc _ _ _ (by simp;try omega)];exact heap_at (by simp)
 ·rw[Below.heap_alloc _ _ _ (by simp;try omega)];rw[Below.heap_alloc _ _ _ (by simp;try omega)];rw[Below.heap_alloc _ _ _ (by simp;try omega)];exact heap_at (by simp)
 ·intro g e;cases e
 ·go_grown
 ·exact Nat.le_refl _
 ·simp
 ·intro p hp;cases hp
 ·exact .nil
 ·intro p hp;cases hp
 ·exact .nil
theorem own_map {A : Option Addr} {n c g : Nat} (e : A.map (·.block) = some g) : (Value.slice A n c).ownBlock = some g := by
 cases A with
 |none=>cases e
 |some a=>exact e
theorem own_unmap {A : Option Addr} {n c g : Nat} (e : (Value.slice A n c).ownBlock = some g) : A.map (·.block) = some g := by
 cases A with
 |none=>cases e
 |some a=>exact e
theorem own_less {w:World}{n m t s k:Nat}{v:Value}{xs:List Value}(h:w.ownsRow n t s v k xs)(hb:m≤n):w.ownsRow m t s v k xs:=by
 rcases h with ⟨h1,h2|⟨g,cap,cur,h3,h4,h5⟩⟩
 ·exact⟨h1,.inl h2⟩
 ·exact⟨h1,.inr ⟨g,cap,cur,h3,Nat.le_trans hb h4,h5⟩⟩
theorem st_back {w:World}{b n c:Nat}{A:Option Addr}{t:TypeId}(h:w.heap[b]?=some (.cells #[.slice A n c] t (0,0))):(storeVar 22 ⟨b,0,none⟩ (.slice A n c)).run Tryz.prog w=.ok () w:=by
 have s1:=st_slice (A:=A) (n:=n) (c:=c) (ty:=22) Tryz.sizeOf22 h (j:=0) (by simp)
 rwa[set_same h]at s1
theorem new_store_m {n:Nat}(W:World)(hn:W.heap.size=n)(m:Nat):(storeVar 127 ⟨n,0,none⟩ (.map (some m))).run Tryz.prog (W.alloc (.cells #[.map none] 127 (0,0)))=.ok () (W.alloc (.cells #[.map (some m)] 127 (0,0))):=by
 subst hn
 have h3: ∀w,(Go.sizeOf 127).run Tryz.prog w=.ok 1 w:=Tryz.sizeOf127
 simp[go_sem,storeVar,h3]
theorem new_store_f {n:Nat}(W:World)(hn:W.heap.size=n)(f:Fn)(a b:Array Value):(storeVar 237 ⟨n,0,none⟩ (.func f a b)).run Tryz.prog (W.alloc (.cells #[.nilFunc] 237 (0,0)))=.ok () (W.alloc (.cells #[.func f a b] 237 (0,0))):=by
 subst hn
 have h3: ∀w,(Go.sizeOf 237).run Tryz.prog w=.ok 1 w:=Tryz.sizeOf237
 simp[go_sem,storeVar,h3]
def EndLn (w:World)(L:List Dp)(n:Int)(e:Ending)(W':World):Prop:= ∃v u,e=.returned (.tuple #[v,u])∧
  (W'.ownsRow w.heap.size 3 1 v (Rt.linePs (dls L) n).length ((Rt.linePs (dls L) n).flatMap encInt))∧(W'.ownsRow w.heap.size 3 1 u (Rt.lineRs (dls L) n).length ((Rt.lineRs (dls L) n).flatMap encInt))∧(∀g,v.ownBlock=some g→u.ownBlock≠some g)∧(Rt.linePs (dls L) n).length≤L.length∧(Rt.lineRs (dls L) n).length≤L.length∧Below w.heap.size w W'
set_option maxRecDepth 100000 in
set_option maxHeartbeats 4000000 in
theorem line_a (A:Option Addr)(c:Nat)(L:List Dp)(n:Int)(w:World)(hL:Dls w w.heap.size A L)(hm:L.length≤1000000):Calls Tryz.prog 179 #[.slice A L.length c,.int .i64 n] w (EndLn w L n):=by
 obtain⟨P,hP⟩: ∃P,Rt.linePs (dls L) n=P:=⟨_,rfl⟩
 obtain⟨R,hR⟩: ∃R,Rt.lineRs (dls L) n=R:=⟨_,rfl⟩
 unfold EndLn
 rw[hP,hR]
 obtain⟨Q,hQ⟩: ∃Q,Rt.lineQ (dls L) n=Q:=⟨_,rfl⟩
 unfold Rt.linePs at hP
 unfold Rt.lineRs at hR
 rw[hQ]at hP hR
 have HP:=Lib.hid hP
 have HR:=Lib.hid hR
 have hgo: ∀W,LN w w.heap.size W A c L [] [] (.slice none 0 0) (.slice none 0 0)→Calls Tryz.prog 220 (#[.int .i64 n]++capF w.heap.size) W (EndF w w.heap.size A c L Q):=by
  intro W h
  rw[←hQ]
  unfold Rt.lineQ
  exact line1_a hL hm _ n [] [] _ _ W h (by simp)
 have HG:=Lib.hid hgo
 clear hP hR hQ hgo hL
 have hmm:= @run_makeMap Tryz.prog
 have s6:(storeVar 127 ⟨w.heap.size+1+1+1+1,0,none⟩ (.map (some (w.heap.size+1+1+1)))).run Tryz.prog (((((w.alloc (.cells #[.slice A L.length c] 34 (0,0))).alloc (.cells #[.slice none 0 0] 22 (0,0))).alloc (.cells #[.slice none 0 0] 22 (0,0))).alloc (.map #[] 0)).alloc (.cells #[.map none] 127 (0,0)))=.ok () (((((w.alloc (.cells #[.slice A L.length c] 34 (0,0))).alloc (.cells #[.slice none 0 0] 22 (0,0))).alloc (.cells #[.slice none 0 0] 22 (0,0))).alloc (.map #[] 0)).alloc (.cells #[.map (some (w.heap.size+1+1+1))] 127 (0,0))):=new_store_m _ (by simp) _
 have s7:(storeVar 237 ⟨w.heap.size+1+1+1+1+1,0,none⟩ (.func (.func 220) #[] #[.pointer (some ⟨w.heap.size,0,none⟩),.pointer (some ⟨w.heap.size+1+1,0,none⟩),.pointer (some ⟨w.heap.size+1+1+1+1,0,none⟩),.pointer (some ⟨w.heap.size+1,0,none⟩),.pointer (some ⟨w.heap.size+1+1+1+1+1,0,none⟩)])).run Tryz.prog ((((((w.alloc (.cells #[.slice A L.length c] 34 (0,0))).alloc (.cells #[.slice none 0 0] 22 (0,0))).alloc (.cells #[.slice none 0 0] 22 (0,0))).alloc (.map #[] 0)).alloc (.cells #[.map (some (w.heap.size+1+1+1))] 127 (0,0))).alloc (.cells #[.nilFunc] 237 (0,0)))=.ok () ((((((w.alloc (.cells #[.slice A L.length c] 34 (0,0))).alloc (.cells #[.slice none 0 0] 22 (0,0))).alloc (.cells #[.slice none 0 0] 22 (0,0))).alloc (.map #[] 0)).alloc (.cells #[.map (some (w.heap.size+1+1+1))] 127 (0,0))).alloc (.cells #[.func (.func 220) #[] #[.pointer (some ⟨w.heap.size,0,none⟩),.pointer (some ⟨w.heap.size+1+1,0,none⟩),.pointer (some ⟨w.heap.size+1+1+1+1,0,none⟩),.pointer (some ⟨w.heap.size+1,0,none⟩),.pointer (some ⟨w.heap.size+1+1+1+1+1,0,none⟩)]] 237 (0,0))):=new_store_f _ (by simp) _ _ _
 go_enter Tryz.func179,Tryz.ntmps179
 go_wp2_with fail
 refine(HG.out _ ?_).mono ?_
 ·exact LN.start w A c L
 clear s6 s7
 rintro e W ⟨rfl,v,u,h⟩
 obtain⟨P0,R0⟩:=Q
 have hfw:=h.few
 simp only at hfw
 obtain⟨A1,c1,rfl,_,_,_⟩:=own_seg layI h.ro
 have po:=h.po
 obtain⟨I,hI⟩: ∃I,(P0.map fun p:Nat=>(p:Int))=I:=⟨_,rfl⟩
 have hl:I.length=P0.length:=by rw[←hI];simp
 rw[hI,←hl]at po
 obtain⟨A2,c2,e2,_,_,_⟩:=own_seg layI po
 subst e2
 have hs1:=sortS_a A2 c2 _ W po (by omega)
 have hbl : ∀ g, A2.map (·.block) = some g → w.heap.size + 6 ≤ g ∧ g < W.heap.size := fun g e => po.lt g (own_map e)
 have hne : ∀ g, A2.map (·.block) = some g → A1.map (·.block) ≠ some g := fun g e e2 => h.ne g (own_map e) (own_map e2)
 have kp:=h.pb
 rw[←hl]at hfw
 have e1:W.cell? ⟨w.heap.size+1,0,none⟩=some (.slice A2 I.length c2):=(blk_cells kp).1 0
 have hup:=h.up
 simp only[hI]at HP HR
 have HW:=Lib.hid h
 have HI:=Lib.hid hI
 have HL:=Lib.hid hl
 clear h po hI hl kp
 go_wp2_with fail
 refine hs1.mono ?_
 clear hs1
 rintro e w1 ⟨rfl,P1,hsP,ho1,g1⟩
 have hP1:P1=P:=(rise_eq hsP).trans HP.out
 have hlP:P1.length=I.length:=hsP.2.2
 have kP1:w1.heap[w.heap.size+1]?=some (.cells #[.slice A2 I.length c2] 22 (0,0)):=(g1.block _ (by omega) (fun e=>by have:=hbl _ e.symm;omega)).trans HW.out.pb
 have kR1:w1.heap[w.heap.size+2]?=some (.cells #[.slice A1 R0.length c1] 22 (0,0)):=(g1.block _ (by omega) (fun e=>by have:=hbl _ e.symm;omega)).trans HW.out.rb
 have or1:=own_same HW.out.ro (fun g e=>g1.block g (HW.out.ro.lt g e).2 (fun e2=>HW.out.ne g (own_map e2.symm) e))
 have hs2:=sortS_a A1 c1 R0 w1 or1 (by omega)
 have e2:w1.cell? ⟨w.heap.size+1+1,0,none⟩=some (.slice A1 R0.length c1):=(blk_cells kR1).1 0
 have z1:=g1.size
 have KP:=Lib.hid kP1
 have KR:=Lib.hid kR1
 have HO:=Lib.hid ho1
 have G1:=Lib.hid g1
 have HA1 : Hid (∀ g, A1.map (·.block) = some g → w.heap.size + 6 ≤ g ∧ g < W.heap.size) := Lib.hid fun g e => HW.out.ro.lt g (own_map e)
 clear hsP ho1 g1 kP1 kR1 or1 e1
 go_wp2_with fail
 refine hs2.mono ?_
 clear hs2 e2
 rintro e w2 ⟨rfl,R1,hsR,ho2,g2⟩
 have hR1:R1=R:=(rise_eq hsR).trans HR.out
 have hlR:R1.length=R0.length:=hsR.2.2
 have kP2:w2.heap[w.heap.size+1]?=some (.cells #[.slice A2 P1.length c2] 22 (0,0)):=(g2.block _ (by omega) (fun e=>by have:=HA1.out _ e.symm;omega)).trans (by rw[hlP];exact KP.out)
 have kR2:w2.heap[w.heap.size+2]?=some (.cells #[.slice A1 R1.length c1] 22 (0,0)):=(g2.block _ (by omega) (fun e=>by have:=HA1.out _ e.symm;omega)).trans (by rw[hlR];exact KR.out)
 have hoP:=own_same HO.out (fun g e=>g2.block g (HO.out.lt g e).2 (fun e2=>HW.out.ne g (by cases A2 with|none=>cases e|some a=>exact e) (own_map e2.symm)))
 have HB:Hid (Below w.heap.size w w2):=Lib.hid ((HW.out.bel.grown G1.out HW.out.bel.size (fun k e=>by have:=hbl k e;omega)).grown g2 (by have:=HW.out.bel.size;omega) (fun k e=>by have:=HA1.out k e;omega))
 have hlens:P1.length≤L.length∧R1.length≤L.length:=by omega
 have HF : Hid (w2.ownsRow w.heap.size 3 1 (.slice A2 P1.length c2) P1.length (P1.flatMap encInt) ∧ w2.ownsRow w.heap.size 3 1 (.slice A1 R1.length c1) R1.length (R1.flatMap encInt) ∧ ∀ g, A2.map (·.block) = some g → A1.map (·.block) ≠ some g) := Lib.hid ⟨own_less hoP (by omega), own_less ho2 (by omega), hne⟩
 subst hP1 hR1
 have HS:Hid (∀V:World,V.heap=w2.heap→(V.cell? ⟨w.heap.size+1,0,none⟩=some (.slice A2 P1.length c2)∧V.cell? ⟨w.heap.size+1+1,0,none⟩=some (.slice A1 R1.length c1)∧(storeVar 22 ⟨w.heap.size+1,0,none⟩ (.slice A2 P1.length c2)).run Tryz.prog V=.ok () V∧(storeVar 22 ⟨w.heap.size+1+1,0,none⟩ (.slice A1 R1.length c1)).run Tryz.prog V=.ok () V)):=Lib.hid fun V e=>by
  rw[←e]at kP2 kR2
  exact⟨(blk_cells kP2).1 0,(blk_cells kR2).1 0,st_back kP2,st_back kR2⟩
 clear hsR ho2 g2 kP2 kR2 hoP HW HO G1 KP KR HA1 hbl hne hlP hlR HP HR HG hmm
 go_wp2
 go_region_held3 (fun V=>V.cell? ⟨w.heap.size+1,0,none⟩=some (.slice A2 P1.length c2)∧V.cell? ⟨w.heap.size+1+1,0,none⟩=some (.slice A1 R1.length c1)∧(storeVar 22 ⟨w.heap.size+1,0,none⟩ (.slice A2 P1.length c2)).run Tryz.prog V=.ok () V∧(storeVar 22 ⟨w.heap.size+1+1,0,none⟩ (.slice A1 R1.length c1)).run Tryz.prog V=.ok () V) (exact HS.out _ rfl) (fail)
 all_goals (
  obtain⟨d1,d2,_,_⟩:=HS.out w2.drew rfl
  clear HS
  go_wp2
  refine bodyPost_ret (v:=.tuple #[.slice A2 P1.length c2,.slice A1 R1.length c1]) (by simp[results,Tryz.results179,go_sem,d1,d2]) rfl ?_
  exact⟨_,_,rfl,own_below HF.out.1 (below_drew (Below.refl _ _)),own_below HF.out.2.1 (below_drew (Below.refl _ _)),fun g e e2=>HF.out.2.2 g (own_unmap e) (own_unmap e2),hlens.1,hlens.2,below_drew HB.out⟩)
end Go.Proofs.YtcffonnijhhhiaaGreatDoor
namespace Go.Proofs.Rt
theorem follow_lt (l:List Deal): ∀(f:Nat) (n:Int) (q:List Nat×List Int),(∀p∈q.1,p<l.length)→ ∀p∈(follow l f n q).1,p<l.length:=by
 intro f
 induction f with
 |zero=>intro n q h;exact h
 |succ f ih=>
  intro n q h
  have key: ∀(m:List Int) (q:List Nat×List Int),(∀p∈q.1,p<l.length)→ ∀p∈(m.foldl (fun q m=>follow l f m q) q).1,p<l.length:=by
   intro m
   induction m with
   |nil=>intro q h;exact h
   |cons x m ih2=>intro q h;rw[List.foldl_cons];exact ih2 _ (ih x q h)
  unfold follow
  cases hi:idx (fun x=>makes x n) l with
  |none=>exact h
  |some a=>
   have ha:=idx_lt hi
   have h2: ∀p∈q.1++[a],p<l.length:=fun p hp=>by
    rcases List.mem_append.1 hp with hp|hp
    ·exact h p hp
    ·rw[List.mem_singleton.1 hp];exact ha
   dsimp only
   split
   ·exact h
   split
   ·exact ih _ _ h2
   split
   ·exact key _ _ h2
   ·exact h2
theorem linePs_lt (l:List Deal)(n:Int): ∀p∈linePs l n,∃k,k<l.length∧p=(k:Int):=by
 intro p hp
 obtain⟨k,hk,e⟩:=List.mem_map.1 ((List.mergeSort_perm _ _).mem_iff.1 hp)
 exact⟨k,follow_lt l _ n ([],[]) (fun p hp=>by cases hp) k hk,e.symm⟩
def lineE (l:List Deal)(n:Int):Int:=if (check l).2≠0 then (check l).2 else if (linePs l n).length=0 then 5 else 0
def linedP (l:List Deal)(n:Int):List Int:=if lineE l n=0 then linePs l n else []
def linedR (l:List Deal)(n:Int):List Int:=if lineE l n=0 then lineRs l n else []
def lineI (l:List Deal)(n:Int):List Int:=(linedP l n).map fun p=>(l.getD p.toNat default).id
theorem linedP_lt (l:List Deal)(n:Int): ∀p∈linedP l n,∃k,k<l.length∧p=(k:Int):=by
 unfold linedP
 split
 ·exact linePs_lt l n
 ·intro p hp;cases hp
end Go.Proofs.Rt
namespace Go.Proofs.YtcffonnijhhhiaaGreatDoor
open Go Go.RowKit Go.Maps Mp
attribute [-simp] Prod.forall Prod.exists
attribute [-go_sem] loadVar storeVar Builtin.append_
attribute [local go_sem] lk_int lk_u8 lk_ints
def EndLd (w:World)(L:List Dp)(n:Int)(e:Ending)(W':World):Prop:= ∃v u,e=.returned (.tuple #[v,u,.int .i64 (Rt.lineE (dls L) n)])∧
  (W'.ownsRow w.heap.size 3 1 v (Rt.linedP (dls L) n).length ((Rt.linedP (dls L) n).flatMap encInt))∧(W'.ownsRow w.heap.size 3 1 u (Rt.linedR (dls L) n).length ((Rt.linedR (dls L) n).flatMap encInt))∧(∀g,v.ownBlock=some g→u.ownBlock≠some g)∧(Rt.linedP (dls L) n).length≤L.length∧(Rt.linedR (dls L) n).length≤L.length∧Below w.heap.size w W'
theorem nil_own {w:World}{n:Nat}:w.ownsRow n 3 1 (.slice none 0 0) ([]:List Int).length (([]:List Int).flatMap encInt):=World.ownsRow_nil _ _ _ _
set_option maxRecDepth 100000 in
set_option maxHeartbeats 2000000 in
theorem lined_a (A:Option Addr)(c:Nat)(L:List Dp)(n:Int)(w:World)(hL:Dls w w.heap.size A L)(hm:L.length≤1000000):Calls Tryz.prog 106 #[.slice A L.length c,.int .i64 n] w (EndLd w L n):=by
 have hck:=check_a A c L w hL hm
 have HL:=Lib.hid hL
 clear hL
 obtain⟨E,hE⟩: ∃E,Rt.lineE (dls L) n=E:=⟨_,rfl⟩
 unfold EndLd Rt.linedP Rt.linedR
 rw[hE]
 unfold Rt.lineE at hE
 by_cases h0:(Rt.check (dls L)).2=0
 case neg=>
  rw[if_pos h0]at hE
  rw[if_neg (by rw[←hE];exact h0),if_neg (by rw[←hE];exact h0)]
  have hq2:((Rt.check (dls L)).2 !=0)=true:=by simpa using h0
  generalize (Rt.check (dls L)).1=i at hck
  generalize (Rt.check (dls L)).2=E2 at hck hq2 hE
  subst hE
  clear h0
  go_enter Tryz.func106,Tryz.ntmps106
  go_wp2_with fail
  refine hck.mono ?_
  rintro e w' ⟨rfl,hb⟩
  go_wp2
  refine bodyPost_ret (v:=.tuple #[.slice none 0 0,.slice none 0 0,.int .i64 E2]) (by simp[results,Tryz.results106,go_sem]) rfl ?_
  exact⟨_,_,rfl,nil_own,nil_own,fun g e=>(by cases e),Nat.zero_le _,Nat.zero_le _,hb⟩
 rw[h0]at hck
 simp only[h0,ne_eq,not_true_eq_false,if_false]at hE
 generalize (Rt.check (dls L)).1=i at hck
 have hln: ∀W,Below w.heap.size w W→Calls Tryz.prog 179 #[.slice A L.length c,.int .i64 n] W (EndLn W L n):=fun W hb=>line_a A c L n W (HL.out.up hb) hm
 unfold EndLn at hln
 obtain⟨P,hP⟩: ∃P,Rt.linePs (dls L) n=P:=⟨_,rfl⟩
 obtain⟨R,hR⟩: ∃R,Rt.lineRs (dls L) n=R:=⟨_,rfl⟩
 rw[hP]at hE hln ⊢
 rw[hR]at hln ⊢
 have HE:=Lib.hid hE
 have HN:=Lib.hid hln
 clear h0 hE hP hR hln
 go_enter Tryz.func106,Tryz.ntmps106
 go_wp2_with fail
 refine hck.mono ?_
 clear hck
 rintro e w1 ⟨rfl,b1⟩
 have z1:=b1.size
 have hl:=HN.out w1 b1
 clear HN
 go_wp2_with fail
 refine hl.mono ?_
 clear hl
 rintro e w2 ⟨v,u,rfl,hv,hu,hne,hlv,hlu,b2⟩
 have hb2:Below w.heap.size w w2:=b1.trans (b2.mono z1)
 obtain⟨A1,c1,rfl,_,_,_⟩:=own_seg layI hv
 have HF:Hid (w2.ownsRow w.heap.size 3 1 (.slice A1 P.length c1) P.length (P.flatMap encInt)∧w2.ownsRow w.heap.size 3 1 u R.length (R.flatMap encInt)∧(∀g,(Value.slice A1 P.length c1).ownBlock=some g→u.ownBlock≠some g)∧Below w.heap.size w w2):=Lib.hid ⟨own_less hv z1,own_less hu z1,hne,hb2⟩
 clear hv hu hne b1 b2 hb2
 by_cases hp:P.length=0
 ·obtain rfl:E=5:=by rw[←HE.out,if_pos hp]
  have hq:((P.length:Int)==0)=true:=by rw[hp];rfl
  clear HE hp
  go_wp2
  refine bodyPost_ret (v:=.tuple #[.slice none 0 0,.slice none 0 0,.int .i64 5]) (by simp[results,Tryz.results106,go_sem]) rfl ?_
  exact⟨_,_,rfl,nil_own,nil_own,fun g e=>(by cases e),HF.out.2.2.2⟩
 ·obtain rfl:E=0:=by rw[←HE.out,if_neg hp]
  have hq:((P.length:Int)==0)=false:=beq_eq_false_iff_ne.2 (by omega)
  clear HE hp
  go_wp2
  refine bodyPost_ret (v:=.tuple #[.slice A1 P.length c1,u,.int .i64 0]) (by simp[results,Tryz.results106,go_sem]) rfl ?_
  exact⟨_,_,rfl,HF.out.1,HF.out.2.1,HF.out.2.2.1,HF.out.2.2.2⟩
def EndLe (w:World)(l:List Int)(E:Int)(e:Ending)(w':World):Prop:= ∃A' c',e=.returned (.tuple #[.slice A' l.length c',.int .i64 E])∧w'.ownsRow w.heap.size 3 1 (.slice A' l.length c') l.length (l.flatMap encInt)∧Below w.heap.size w w'
set_option maxRecDepth 100000 in
theorem roots_a (A:Option Addr)(c:Nat)(L:List Dp)(n:Int)(w:World)(hL:Dls w w.heap.size A L)(hm:L.length≤1000000):Calls Tryz.prog 39 #[.slice A L.length c,.int .i64 n] w (EndLe w (Rt.linedR (dls L) n) (Rt.lineE (dls L) n)):=by
 have hl:=lined_a A c L n w hL hm
 clear hL
 unfold EndLd at hl
 unfold EndLe
 generalize Rt.linedR (dls L) n=R at*
 generalize Rt.linedP (dls L) n=P at*
 generalize Rt.lineE (dls L) n=E at*
 go_enter Tryz.func39,Tryz.ntmps39
 go_wp2_with fail
 refine hl.mono ?_
 clear hl
 rintro e w1 ⟨v,u,rfl,hv,hu,hne,hlv,hlu,b1⟩
 obtain⟨A1,c1,rfl,_,_,_⟩:=own_seg layI hu
 have HU:=Lib.hid hu
 clear hv hu hne
 go_wp2
 refine bodyPost_ret (v:=.tuple #[.slice A1 R.length c1,.int .i64 E]) (by simp[results,Tryz.results39,go_sem]) rfl ?_
 exact⟨_,_,rfl,HU.out,b1⟩
set_option maxRecDepth 100000 in
set_option maxHeartbeats 2000000 in
theorem lines_a (A:Option Addr)(c:Nat)(L:List Dp)(n:Int)(w:World)(hL:Dls w w.heap.size A L)(hm:L.length≤1000000)(hcL:L.length≤c):Calls Tryz.prog 37 #[.slice A L.length c,.int .i64 n] w (EndLe w (Rt.lineI (dls L) n) (Rt.lineE (dls L) n)):=by
 have hl:=lined_a A c L n w hL hm
 have HL:=Lib.hid hL
 have hpl:=Rt.linedP_lt (dls L) n
 clear hL
 unfold EndLd at hl
 obtain⟨I,hI⟩: ∃I,Rt.lineI (dls L) n=I:=⟨_,rfl⟩
 unfold EndLe
 rw[hI]
 unfold Rt.lineI at hI
 generalize Rt.linedR (dls L) n=R at*
 generalize Rt.linedP (dls L) n=P at*
 generalize Rt.lineE (dls L) n=E at*
 have hIl:I.length=P.length:=by rw[←hI];simp
 have HI:Hid (∀j (hj:j<P.length),∃k,∃hk:k<L.length,P[j]=(k:Int)∧I.take (j+1)=I.take j++[L[k].x.id]):=Lib.hid fun j hj=>by
  obtain⟨k,hk,e⟩:=hpl P[j] (List.getElem_mem hj)
  have hk':k<L.length:=by simpa using hk
  refine⟨k,hk',e,?_⟩
  rw[List.take_succ_eq_append_getElem (by rw[hIl];exact hj)]
  congr 2
  subst hI
  simp[e,hk']
 clear hpl hI
 go_enter Tryz.func37,Tryz.ntmps37
 go_wp2_with fail
 refine hl.mono ?_
 clear hl
 rintro e w1 ⟨v,u,rfl,hv,hu,hne,hlv,hlu,b1⟩
 obtain⟨A1,c1,rfl,hs,_,_⟩:=own_seg layI hv
 have HS:=Lib.hid hs
 have z1:=b1.size
 have HB:=Lib.hid (Below.refl w1.heap.size w1)
 clear hv hu hne hs
 go_wp2
 go_loopw [9,21] (fun v i wr=> ∃(j:Nat) (A':Option Addr) (c':Nat),j≤P.length∧i=.int .i64 j∧v=.slice A' j c'∧Hid (wr.ownsRow w1.heap.size 3 1 (.slice A' j c') j ((I.take j).flatMap encInt))∧Below w1.heap.size w1 wr) (fun _ i _=>P.length-(intOf i).toNat)
 case atStart=>exact⟨0,none,0,by omega,rfl,rfl,Lib.hid (World.ownsRow_nil _ _ _ _),HB.out⟩
 case round=>
  obtain⟨j,A',c',hj,rfl,rfl,HO,hb⟩:=hrel
  by_cases hlt:j<P.length
  ·obtain⟨k,hk,ek,etk⟩:=HI.out j hlt
   obtain⟨bi,oi,ei,hbi,q1⟩:=Ints.at1 (Seg.below HS.out (hb.mono (by omega))) hlt
   rw[ek]at q1
   obtain⟨b,off,hA,hbb,hc⟩:=(HL.out.below (b1.trans (hb.mono z1))).seg.at_ hk
   have qid:wr.cell? ⟨b,off+k*11,none⟩=some (.int .i64 L[k].x.id):=hc 0 _ rfl
   obtain⟨p,hp⟩: ∃p,L[k]=p:=⟨_,rfl⟩
   rw[hp]at qid etk
   have elk:(I.take j).length=j:=by rw[List.length_take];omega
   have o4:wr.ownsRow w1.heap.size 3 1 (.slice A' j c') (I.take j).length ((I.take j).flatMap encInt):=by rw[elk];exact HO.out
   have zr:=hb.size
   obtain⟨g',c2,w6,hrun,ho6,hb6,_⟩:=own_push layI o4 p.x.id #[.int .i64 p.x.id] rfl (by omega) (by decide) (by omega)
   have el:(I.take j++[p.x.id]).length=j+1:=by rw[List.length_append,elk];rfl
   rw[el]at hrun ho6
   rw[←etk]at ho6
   have HO6:=Lib.hid ho6
   have hbb6:Below w1.heap.size w1 w6:=hb.trans hb6
   have hkL:(k:Int)<(L.length:Int):=by omega
   subst hA ei
   clear o4 ho6 etk elk el hp ek hc
   go_wp2
   go_roundw
   case rel=>exact⟨j+1,some ⟨g',0,none⟩,c2,by omega,by go_num,rfl,HO6,hbb6⟩
   case measure=>first|(simp[intOf];done)|(simp[intOf];omega)
  ·obtain rfl:j=P.length:=by omega
   have ho:=HO.out
   rw[List.take_of_length_le (by omega)]at ho
   have HO2:=Lib.hid ho
   clear ho
   go_wp2
   refine bodyPost_ret (v:=.tuple #[.slice A' P.length c',.int .i64 E]) (by simp[results,Tryz.results37,go_sem]) rfl ?_
   rw[hIl]
   exact⟨_,_,rfl,own_less HO2.out z1,b1.trans (hb.mono z1)⟩
end Go.Proofs.YtcffonnijhhhiaaGreatDoor
namespace Go.Proofs.YtcffonnijhhhiaaGreatDoor
open Go Go.RowKit Go.Maps Mp
attribute [-simp] Prod.forall Prod.exists
attribute [-go_sem] loadVar storeVar Builtin.append_
attribute [local go_sem] lk_int lk_u8 lk_ints
set_option maxRecDepth 100000 in
set_option maxHeartbeats 2000000 in
theorem write_no (x:Dl)(A1 A2:Option Addr)(c1 c2:Nat)(w:World)(hx:DS w w.heap.size A1 A2 x)(hcap:x.into.length≤c1)(hf:Rt.formed x=false):Calls Tryz.prog 23 #[.agg (xcs x A1 A2 c1 c2)] w fun e w'=>e=.returned (.tuple #[.string ⟨#[]⟩,.int .i64 1])∧Below w.heap.size w w':=by
 have b1:Below w.heap.size w (w.alloc (oDl x A1 A2 c1 c2)):=by go_grown
 have k1:=heap_alloc_new w (oDl x A1 A2 c1 c2)
 have l1:=ld_row k1 Tryz.underlying24 rfl info_deal
 have hck:=formed_a x A1 A2 c1 c2 _ (hx.up b1) hcap
 rw[hf]at hck
 clear hx
 go_enter Tryz.func23,Tryz.ntmps23
 go_wp2_with fail
 refine hck.mono ?_
 clear hck
 rintro e w2 ⟨rfl,b2⟩
 simp only[Bool.false_eq_true,if_false]
 go_wp2
 refine bodyPost_ret (v:=.tuple #[.string ⟨#[]⟩,.int .i64 1]) (by simp[results,Tryz.results23,go_sem]) rfl ?_
 exact⟨rfl,b1.trans (b2.mono b1.size)⟩
end Go.Proofs.YtcffonnijhhhiaaGreatDoor
namespace Go.Proofs.YtcffonnijhhhiaaGreatDoor
open Go Go.RowKit Go.Maps Mp
attribute [-go_sem] loadVar storeVar
attribute [local go_sem] lk_int
theorem ld_L {w:World}{B:Nat}{A:Option Addr}{l:List Lp}(h:Seg encL 3 w B A l){k:Nat}(hk:k<l.length): ∃b off,A=some ⟨b,off,none⟩∧b<B∧(loadVar 54 ⟨b,off+k*3,none⟩).run Tryz.prog w=.ok (.agg (rowL l[k])) w:=by
 obtain⟨b,off,hA,hb,hc⟩:=h.at_ hk
 exact⟨b,off,hA,hb,run_loadVar_mid w b (off+k*3) 54 (encL l[k]) _ (fun j v hv=>hc j v hv) Tryz.underlying54 rfl info_lot⟩
set_option maxRecDepth 100000 in
theorem idxF_L (A:Option Addr)(c:Nat)(l:List Lp)(g:FuncId)(cap:Array Value)(p:Lp→Bool)(w:World)(hl:Seg encL 3 w w.heap.size A l)(hm:l.length≤3000000000000)
  (hen: ∀args w,(callFunc g args).run Tryz.prog w=.ok (.enter g args) w)
  (hp: ∀x∈l,∀W,Below w.heap.size w W→Calls Tryz.prog g (#[.agg (rowL x)]++cap) W fun e W'=>e=.returned (.bool (p x))∧Below W.heap.size W W'):
  Calls Tryz.prog 240 #[.slice A l.length c,.func (.func g) #[] cap] w fun e w'=>e=.returned (.int .i64 (Rt.pos (Rt.idx p l)))∧Below w.heap.size w w':=by
 have HL:=Lib.hid hl
 clear hl
 go_enter Tryz.func240,Tryz.ntmps240
 go_wp2
 go_loopw [8] (fun i wr=> ∃(k:Nat),k≤l.length∧i=.int .i64 k∧Hid (∀j (h:j<l.length),j<k→p l[j]=false)∧Below w.heap.size w wr) (fun i _=>l.length-(intOf i).toNat)
 case atStart=>exact⟨0,by omega,rfl,Lib.hid fun j _ h=>by omega,by go_grown⟩
 case round=>
  obtain⟨k,hk,rfl,hg,hb⟩:=hrel
  have hsz:=hb.size
  by_cases hlt:k<l.length
  ·obtain⟨b,off,rfl,hbB,q0⟩:=ld_L (HL.out.below hb) hlt
   have hpk:=Lib.hid (hp l[k] (List.getElem_mem hlt))
   cases hc:p l[k]with
   |true=>
    have hv:=Lib.hid (Rt.idx_hit (p:=p) hlt (fun j hj=>hg.out j (by omega) hj) hc)
    have HC:=Lib.hid hc
    clear hc
    go_wp2
    refine(hpk.out _ (by go_grown)).mono ?_
    rintro e w2 ⟨rfl,hx⟩
    rw[HC.out]
    have hb2:Below w.heap.size w w2:=Below.trans (by go_grown) (hx.mono (by go_size))
    clear hx
    go_wp2
    go_ret
    exact⟨by rw[hv.out];try rfl,hb2⟩
   |false=>
    have HC:=Lib.hid hc
    clear hc
    go_wp2
    refine(hpk.out _ (by go_grown)).mono ?_
    rintro e w2 ⟨rfl,hx⟩
    rw[HC.out]
    have hb2:Below w.heap.size w w2:=Below.trans (by go_grown) (hx.mono (by go_size))
    clear hx
    go_wp2
    go_roundw
    case rel=>exact⟨k+1,by omega,by go_num,Lib.hid fun j h hj=>by
     by_cases e:j=k
     ·subst e;exact HC.out
     ·exact hg.out j h (by omega),hb2⟩
    case measure=>first|(simp[intOf];done)|(simp[intOf];omega)
  ·have hv:=Lib.hid (Rt.idx_none (p:=p) (l:=l) fun j hj=>hg.out j hj (by omega))
   go_wp2
   go_ret
   exact⟨by rw[hv.out];try rfl,hb⟩
set_option maxRecDepth 100000 in
set_option maxHeartbeats 4000000 in
theorem delF_L (A:Option Addr)(c:Nat)(L:List Lp)(g:FuncId)(cap:Array Value)(p:Lp→Bool)(w:World)(hl:Seg encL 3 w w.heap.size A L)(hm:L.length≤3000000000000)(hcp:L.length≤c)(hk: ∀a,A=some a→ ∃cs,w.heap[a.block]?=some (.cells cs 54 (0,0)))
  (hen: ∀args w,(callFunc g args).run Tryz.prog w=.ok (.enter g args) w)
  (hp : ∀ x ∈ L, ∀ W, w.grownBy W (A.map (·.block)) → Calls Tryz.prog g (#[.agg (rowL x)] ++ cap) W fun e W' => e = .returned (.bool (p x)) ∧ Below W.heap.size W W') :
  Calls Tryz.prog 193 #[.slice A L.length c, .func (.func g) #[] cap] w fun e w' => e = .returned (.slice A (L.filter fun x => !p x).length c) ∧ Seg encL 3 w' w'.heap.size A (L.filter fun x => !p x) ∧ w.grownBy w' (A.map (·.block)) ∧ (∀ a, A = some a → ∃ cs, w'.heap[a.block]? = some (.cells cs 54 (0, 0))) := by
 have hix:=idxF_L A c L g cap p w hl hm hen (fun x hx W hW=>hp x hx W ((grownBy_of_below hW).but _))
 have HP:=Lib.hid hp
 have HL:=Lib.hid hl
 have HK:=Lib.hid hk
 clear hp hl hk
 cases hi:Rt.idx p L with
 |none=>
  have hall:L.filter (fun x=> !p x)=L:=List.filter_eq_self.2 (fun x hx=>by
   have:=idx_no hi x hx
   simp[this])
  rw[hall]
  rw[hi]at hix
  have hq:(Rt.pos none== -1)=true:=rfl
  clear hi hall
  go_enter Tryz.func193,Tryz.ntmps193
  go_wp2_with fail
  refine hix.mono ?_
  rintro e w1 ⟨rfl,hb⟩
  go_wp2
  go_ret
  exact⟨rfl,HL.out.up hb,(grownBy_of_below hb).but _,fun a ha=>by
   obtain⟨cs,h⟩:=HK.out a ha
   exact⟨cs,(hb.block _ (Array.getElem?_eq_some_iff.1 h).1).trans h⟩⟩
 |some k0=>
  obtain⟨hk0,hp0,hlow⟩:=idx_some hi
  rw[hi]at hix
  have hq:(Rt.pos (some k0)== -1)=false:=by unfold Rt.pos;simp
  have hpos:Rt.pos (some k0)=(k0:Int):=rfl
  rw[hpos]at hix hq
  obtain⟨gb,off,hA,hgb,_⟩:=HL.out.at_ hk0
  subst hA
  obtain⟨cs0,hcs0⟩:=HK.out _ rfl
  have HS:=Lib.hid (Kept.start hk0 hp0 hlow)
  simp only[Option.map_some]at HP ⊢
  clear hi hp0 hlow hpos
  go_enter Tryz.func193,Tryz.ntmps193
  go_wp2_with fail
  refine hix.mono ?_
  clear hix
  rintro e w1 ⟨rfl,hb⟩
  have g1:w.grownBy w1 (some gb):=grown_below gb hb
  have hb1: ∃cs,w1.heap[gb]?=some (.cells cs 54 (0,0)):=⟨cs0,(hb.block _ hgb).trans hcs0⟩
  have hs1:=HL.out.up hb
  go_wp2
  go_loopw [5,6] (fun s5 s6 wr=> ∃(i j:Nat) (M:List Lp),s5=.int .i64 i∧s6=.int .i64 j∧Hid (Kept p L i j M)∧Hid (Seg encL 3 wr wr.heap.size (some ⟨gb,off,none⟩) M)∧w.grownBy wr (some gb)∧Hid (∃cs,wr.heap[gb]?=some (.cells cs 54 (0,0)))) (fun _ s6 _=>L.length-(intOf s6).toNat)
  case atStart=>exact⟨k0,k0+1,L,rfl,by go_num,HS,Lib.hid hs1,g1,Lib.hid hb1⟩
  case round=>
   obtain⟨i,j,M,rfl,rfl,HKp,HSg,hg,HB⟩:=hrel
   have hij:=HKp.out.lt
   have hjl:=HKp.out.le
   have hml:=HKp.out.len
   by_cases hlt:j<L.length
   ·obtain⟨hjM,hMj⟩:=HKp.out.at_ hlt
    obtain⟨b,off',hA,hbB,q0⟩:=ld_L HSg.out hjM
    cases hA
    rw[hMj]at q0
    have hcall:=HP.out L[j] (List.getElem_mem hlt)
    have hxm:=hMj
    clear hMj
    obtain⟨x,hx⟩: ∃x,L[j]=x:=⟨_,rfl⟩
    rw[hx]at q0 hcall
    obtain⟨w4,st4,k4,g4⟩:=st_row (wr.alloc (.cells zcL 54)) wr.heap.size 54 54 zcL (rowL x) (heap_alloc_new wr _) info_lot rfl (by simp[Value.oneCell'])
    have b4:Below wr.heap.size wr w4:=(Below.alloc (Below.refl _ wr) (Nat.le_refl _) _).grown g4 (by simp) (by intro k e;cases e;omega)
    have l4:=ld_row k4 Tryz.underlying54 rfl info_lot
    have gg4:w.grownBy w4 (some gb):=grown_up hg b4
    have hc4:=hcall w4 gg4
    cases hpx:p x with
    |true=>
     rw[hpx]at hc4
     have HPX:=Lib.hid hpx
     clear hpx hcall
     go_wp2_with fail
     refine hc4.mono ?_
     rintro e w5 ⟨rfl,b5⟩
     have b5':Below wr.heap.size wr w5:=b4.trans (b5.mono b4.size)
     go_wp2
     go_roundw
     case rel=>exact⟨i,j+1,M,rfl,by go_num,Lib.hid (HKp.out.skip hlt (by rw[hx];exact HPX.out)),Lib.hid (HSg.out.up b5'),grown_up hg b5',Lib.hid (by obtain⟨cs,h⟩:=HB.out;exact⟨cs,(b5'.block _ (Array.getElem?_eq_some_iff.1 h).1).trans h⟩)⟩
     case measure=>first|(simp[intOf];done)|(simp[intOf];omega)
    |false=>
     rw[hpx]at hc4
     have HPX:=Lib.hid hpx
     clear hpx hcall
     go_wp2_with fail
     refine hc4.mono ?_
     rintro e w5 ⟨rfl,b5⟩
     have b5':Below wr.heap.size wr w5:=b4.trans (b5.mono b4.size)
     have HS5:=Lib.hid (HSg.out.up b5')
     have HB5:Hid (∃cs,w5.heap[gb]?=some (.cells cs 54 (0,0))):=Lib.hid (by obtain⟨cs,h⟩:=HB.out;exact⟨cs,(b5'.block _ (Array.getElem?_eq_some_iff.1 h).1).trans h⟩)
     have l5:=ld_row ((b5.block _ (Array.getElem?_eq_some_iff.1 k4).1).trans k4) Tryz.underlying54 rfl info_lot
     have hth:=seg_there (i:=i) (n:=3) layL.henc layL.hs HS5.out HB5.out (by omega)
     obtain⟨w6,st6,e6,g6,h6⟩: ∃w6,(storeVar 54 ⟨gb,off+i*3,none⟩ (.agg (rowL x))).run Tryz.prog w5=.ok () w6∧Hid (Seg encL 3 w6 w6.heap.size (some ⟨gb,off,none⟩) (M.set i x))∧w5.grownBy w6 (some gb)∧Hid (∃cs,w6.heap[gb]?=some (.cells cs 54 (0,0))):=
      ⟨_,run_storeVar_mid (P:=Tryz.prog) w5 gb (off+i*3) 54 (rowL x) hth info_lot (by simp[Value.oneCell']),Lib.hid (by rw[(gscs _ _ _ _).2];exact seg_set (i:=i) layL.henc layL.hs HS5.out HB5.out (by omega) x),(gscs _ _ _ _).1,Lib.hid (hscs _ _ _ HB5.out)⟩
     go_wp2
     go_roundw
     case rel=>exact⟨i+1,j+1,M.set i L[j],by go_num,by go_num,Lib.hid (HKp.out.keep hlt (by rw[hx];exact HPX.out)),(by rw[hx];exact e6),(grown_up hg b5').trans g6,h6⟩
     case measure=>first|(simp[intOf];done)|(simp[intOf];omega)
   ·obtain rfl:j=L.length:=by omega
    obtain⟨hd1,hd2⟩:=HKp.out.done
    obtain⟨w7,hcl,g7,h7,s7⟩:=clear_law (i:=i) (n:=L.length-i) (c:=c-i) layL Tryz.zeroValue54 (by simp[Value.cells,Value.oneCell']) HSg.out HB.out (by omega) (by omega)
    have hic: ¬c=i:=by omega
    rw[hd1]at s7
    have HD2:=Lib.hid hd2
    have HS7:=Lib.hid s7
    have HB7:=Lib.hid h7
    clear s7 h7 hd1 hd2
    go_wp2
    go_ret
    exact⟨by rw[HD2.out];rfl,HS7.out.more g7.size,hg.trans g7,fun a ha=>by cases ha;exact HB7.out⟩
end Go.Proofs.YtcffonnijhhhiaaGreatDoor
namespace Go.Proofs.YtcffonnijhhhiaaGreatDoor
open Go Go.RowKit Go.Maps Mp
attribute [-go_sem] loadVar storeVar
attribute [local go_sem] lk_int
theorem ld_E {w:World}{B:Nat}{A:Option Addr}{l:List Rt.Ease}(h:Seg encE 3 w B A l){k:Nat}(hk:k<l.length): ∃b off,A=some ⟨b,off,none⟩∧b<B∧(loadVar 71 ⟨b,off+k*3,none⟩).run Tryz.prog w=.ok (.agg (rowE l[k])) w:=by
 obtain⟨b,off,hA,hb,hc⟩:=h.at_ hk
 exact⟨b,off,hA,hb,run_loadVar_mid w b (off+k*3) 71 (encE l[k]) _ (fun j v hv=>hc j v hv) Tryz.underlying71 rfl info_ease⟩
set_option maxRecDepth 100000 in
theorem idxF_E (A:Option Addr)(c:Nat)(l:List Rt.Ease)(g:FuncId)(cap:Array Value)(p:Rt.Ease→Bool)(w:World)(hl:Seg encE 3 w w.heap.size A l)(hm:l.length≤3000000000000)
  (hen: ∀args w,(callFunc g args).run Tryz.prog w=.ok (.enter g args) w)
  (hp: ∀x∈l,∀W,Below w.heap.size w W→Calls Tryz.prog g (#[.agg (rowE x)]++cap) W fun e W'=>e=.returned (.bool (p x))∧Below W.heap.size W W'):
  Calls Tryz.prog 241 #[.slice A l.length c,.func (.func g) #[] cap] w fun e w'=>e=.returned (.int .i64 (Rt.pos (Rt.idx p l)))∧Below w.heap.size w w':=by
 have HL:=Lib.hid hl
 clear hl
 go_enter Tryz.func241,Tryz.ntmps241
 go_wp2
 go_loopw [8] (fun i wr=> ∃(k:Nat),k≤l.length∧i=.int .i64 k∧Hid (∀j (h:j<l.length),j<k→p l[j]=false)∧Below w.heap.size w wr) (fun i _=>l.length-(intOf i).toNat)
 case atStart=>exact⟨0,by omega,rfl,Lib.hid fun j _ h=>by omega,by go_grown⟩
 case round=>
  obtain⟨k,hk,rfl,hg,hb⟩:=hrel
  have hsz:=hb.size
  by_cases hlt:k<l.length
  ·obtain⟨b,off,rfl,hbB,q0⟩:=ld_E (HL.out.below hb) hlt
   have hpk:=Lib.hid (hp l[k] (List.getElem_mem hlt))
   cases hc:p l[k]with
   |true=>
    have hv:=Lib.hid (Rt.idx_hit (p:=p) hlt (fun j hj=>hg.out j (by omega) hj) hc)
    have HC:=Lib.hid hc
    clear hc
    go_wp2
    refine(hpk.out _ (by go_grown)).mono ?_
    rintro e w2 ⟨rfl,hx⟩
    rw[HC.out]
    have hb2:Below w.heap.size w w2:=Below.trans (by go_grown) (hx.mono (by go_size))
    clear hx
    go_wp2
    go_ret
    exact⟨by rw[hv.out];try rfl,hb2⟩
   |false=>
    have HC:=Lib.hid hc
    clear hc
    go_wp2
    refine(hpk.out _ (by go_grown)).mono ?_
    rintro e w2 ⟨rfl,hx⟩
    rw[HC.out]
    have hb2:Below w.heap.size w w2:=Below.trans (by go_grown) (hx.mono (by go_size))
    clear hx
    go_wp2
    go_roundw
    case rel=>exact⟨k+1,by omega,by go_num,Lib.hid fun j h hj=>by
     by_cases e:j=k
     ·subst e;exact HC.out
     ·exact hg.out j h (by omega),hb2⟩
    case measure=>first|(simp[intOf];done)|(simp[intOf];omega)
  ·have hv:=Lib.hid (Rt.idx_none (p:=p) (l:=l) fun j hj=>hg.out j hj (by omega))
   go_wp2
   go_ret
   exact⟨by rw[hv.out];try rfl,hb⟩
set_option maxRecDepth 100000 in
set_option maxHeartbeats 4000000 in
theorem delF_E (A:Option Addr)(c:Nat)(L:List Rt.Ease)(g:FuncId)(cap:Array Value)(p:Rt.Ease→Bool)(w:World)(hl:Seg encE 3 w w.heap.size A L)(hm:L.length≤3000000000000)(hcp:L.length≤c)(hk: ∀a,A=some a→ ∃cs,w.heap[a.block]?=some (.cells cs 71 (0,0)))
  (hen: ∀args w,(callFunc g args).run Tryz.prog w=.ok (.enter g args) w)
  (hp : ∀ x ∈ L, ∀ W, w.grownBy W (A.map (·.block)) → Calls Tryz.prog g (#[.agg (rowE x)] ++ cap) W fun e W' => e = .returned (.bool (p x)) ∧ Below W.heap.size W W') :
  Calls Tryz.prog 196 #[.slice A L.length c, .func (.func g) #[] cap] w fun e w' => e = .returned (.slice A (L.filter fun x => !p x).length c) ∧ Seg encE 3 w' w'.heap.size A (L.filter fun x => !p x) ∧ w.grownBy w' (A.map (·.block)) ∧ (∀ a, A = some a → ∃ cs, w'.heap[a.block]? = some (.cells cs 71 (0, 0))) := by
 have hix:=idxF_E A c L g cap p w hl hm hen (fun x hx W hW=>hp x hx W ((grownBy_of_below hW).but _))
 have HP:=Lib.hid hp
 have HL:=Lib.hid hl
 have HK:=Lib.hid hk
 clear hp hl hk
 cases hi:Rt.idx p L with
 |none=>
  have hall:L.filter (fun x=> !p x)=L:=List.filter_eq_self.2 (fun x hx=>by
   have:=idx_no hi x hx
   simp[this])
  rw[hall]
  rw[hi]at hix
  have hq:(Rt.pos none== -1)=true:=rfl
  clear hi hall
  go_enter Tryz.func196,Tryz.ntmps196
  go_wp2_with fail
  refine hix.mono ?_
  rintro e w1 ⟨rfl,hb⟩
  go_wp2
  go_ret
  exact⟨rfl,HL.out.up hb,(grownBy_of_below hb).but _,fun a ha=>by
   obtain⟨cs,h⟩:=HK.out a ha
   exact⟨cs,(hb.block _ (Array.getElem?_eq_some_iff.1 h).1).trans h⟩⟩
 |some k0=>
  obtain⟨hk0,hp0,hlow⟩:=idx_some hi
  rw[hi]at hix
  have hq:(Rt.pos (some k0)== -1)=false:=by unfold Rt.pos;simp
  have hpos:Rt.pos (some k0)=(k0:Int):=rfl
  rw[hpos]at hix hq
  obtain⟨gb,off,hA,hgb,_⟩:=HL.out.at_ hk0
  subst hA
  obtain⟨cs0,hcs0⟩:=HK.out _ rfl
  have HS:=Lib.hid (Kept.start hk0 hp0 hlow)
  simp only[Option.map_some]at HP ⊢
  clear hi hp0 hlow hpos
  go_enter Tryz.func196,Tryz.ntmps196
  go_wp2_with fail
  refine hix.mono ?_
  clear hix
  rintro e w1 ⟨rfl,hb⟩
  have g1:w.grownBy w1 (some gb):=grown_below gb hb
  have hb1: ∃cs,w1.heap[gb]?=some (.cells cs 71 (0,0)):=⟨cs0,(hb.block _ hgb).trans hcs0⟩
  have hs1:=HL.out.up hb
  go_wp2
  go_loopw [5,6] (fun s5 s6 wr=> ∃(i j:Nat) (M:List Rt.Ease),s5=.int .i64 i∧s6=.int .i64 j∧Hid (Kept p L i j M)∧Hid (Seg encE 3 wr wr.heap.size (some ⟨gb,off,none⟩) M)∧w.grownBy wr (some gb)∧Hid (∃cs,wr.heap[gb]?=some (.cells cs 71 (0,0)))) (fun _ s6 _=>L.length-(intOf s6).toNat)
  case atStart=>exact⟨k0,k0+1,L,rfl,by go_num,HS,Lib.hid hs1,g1,Lib.hid hb1⟩
  case round=>
   obtain⟨i,j,M,rfl,rfl,HKp,HSg,hg,HB⟩:=hrel
   have hij:=HKp.out.lt
   have hjl:=HKp.out.le
   have hml:=HKp.out.len
   by_cases hlt:j<L.length
   ·obtain⟨hjM,hMj⟩:=HKp.out.at_ hlt
    obtain⟨b,off',hA,hbB,q0⟩:=ld_E HSg.out hjM
    cases hA
    rw[hMj]at q0
    have hcall:=HP.out L[j] (List.getElem_mem hlt)
    have hxm:=hMj
    clear hMj
    obtain⟨x,hx⟩: ∃x,L[j]=x:=⟨_,rfl⟩
    rw[hx]at q0 hcall
    obtain⟨w4,st4,k4,g4⟩:=st_row (wr.alloc (.cells zcE 71)) wr.heap.size 71 71 zcE (rowE x) (heap_alloc_new wr _) info_ease rfl (by simp[Value.oneCell'])
    have b4:Below wr.heap.size wr w4:=(Below.alloc (Below.refl _ wr) (Nat.le_refl _) _).grown g4 (by simp) (by intro k e;cases e;omega)
    have l4:=ld_row k4 Tryz.underlying71 rfl info_ease
    have gg4:w.grownBy w4 (some gb):=grown_up hg b4
    have hc4:=hcall w4 gg4
    cases hpx:p x with
    |true=>
     rw[hpx]at hc4
     have HPX:=Lib.hid hpx
     clear hpx hcall
     go_wp2_with fail
     refine hc4.mono ?_
     rintro e w5 ⟨rfl,b5⟩
     have b5':Below wr.heap.size wr w5:=b4.trans (b5.mono b4.size)
     go_wp2
     go_roundw
     case rel=>exact⟨i,j+1,M,rfl,by go_num,Lib.hid (HKp.out.skip hlt (by rw[hx];exact HPX.out)),Lib.hid (HSg.out.up b5'),grown_up hg b5',Lib.hid (by obtain⟨cs,h⟩:=HB.out;exact⟨cs,(b5'.block _ (Array.getElem?_eq_some_iff.1 h).1).trans h⟩)⟩
     case measure=>first|(simp[intOf];done)|(simp[intOf];omega)
    |false=>
     rw[hpx]at hc4
     have HPX:=Lib.hid hpx
     clear hpx hcall
     go_wp2_with fail
     refine hc4.mono ?_
     rintro e w5 ⟨rfl,b5⟩
     have b5':Below wr.heap.size wr w5:=b4.trans (b5.mono b4.size)
     have HS5:=Lib.hid (HSg.out.up b5')
     have HB5:Hid (∃cs,w5.heap[gb]?=some (.cells cs 71 (0,0))):=Lib.hid (by obtain⟨cs,h⟩:=HB.out;exact⟨cs,(b5'.block _ (Array.getElem?_eq_some_iff.1 h).1).trans h⟩)
     have l5:=ld_row ((b5.block _ (Array.getElem?_eq_some_iff.1 k4).1).trans k4) Tryz.underlying71 rfl info_ease
     have hth:=seg_there (i:=i) (n:=3) layE.henc layE.hs HS5.out HB5.out (by omega)
     obtain⟨w6,st6,e6,g6,h6⟩: ∃w6,(storeVar 71 ⟨gb,off+i*3,none⟩ (.agg (rowE x))).run Tryz.prog w5=.ok () w6∧Hid (Seg encE 3 w6 w6.heap.size (some ⟨gb,off,none⟩) (M.set i x))∧w5.grownBy w6 (some gb)∧Hid (∃cs,w6.heap[gb]?=some (.cells cs 71 (0,0))):=
      ⟨_,run_storeVar_mid (P:=Tryz.prog) w5 gb (off+i*3) 71 (rowE x) hth info_ease (by simp[Value.oneCell']),Lib.hid (by rw[(gscs _ _ _ _).2];exact seg_set (i:=i) layE.henc layE.hs HS5.out HB5.out (by omega) x),(gscs _ _ _ _).1,Lib.hid (hscs _ _ _ HB5.out)⟩
     go_wp2
     go_roundw
     case rel=>exact⟨i+1,j+1,M.set i L[j],by go_num,by go_num,Lib.hid (HKp.out.keep hlt (by rw[hx];exact HPX.out)),(by rw[hx];exact e6),(grown_up hg b5').trans g6,h6⟩
     case measure=>first|(simp[intOf];done)|(simp[intOf];omega)
   ·obtain rfl:j=L.length:=by omega
    obtain⟨hd1,hd2⟩:=HKp.out.done
    obtain⟨w7,hcl,g7,h7,s7⟩:=clear_law (i:=i) (n:=L.length-i) (c:=c-i) layE Tryz.zeroValue71 (by simp[Value.cells,Value.oneCell']) HSg.out HB.out (by omega) (by omega)
    have hic: ¬c=i:=by omega
    rw[hd1]at s7
    have HD2:=Lib.hid hd2
    have HS7:=Lib.hid s7
    have HB7:=Lib.hid h7
    clear s7 h7 hd1 hd2
    go_wp2
    go_ret
    exact⟨by rw[HD2.out];rfl,HS7.out.more g7.size,hg.trans g7,fun a ha=>by cases ha;exact HB7.out⟩
end Go.Proofs.YtcffonnijhhhiaaGreatDoor
