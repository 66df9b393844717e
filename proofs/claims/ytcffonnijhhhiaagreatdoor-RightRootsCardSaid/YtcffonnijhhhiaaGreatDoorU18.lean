/- Part U18 of the proof: Sr Ro. -/
import Derived.Test.YtcffonnijhhhiaaGreatDoorProg
import Derived.WalkKit
import Derived.WalkLawsBesides
import Derived.WalkSpells
import Derived.Handy
import Derived.Lib.Hide
import Derived.Great.BuildSlice
import Derived.Deep.QuietTactic
import Derived.BigQuiet
import Derived.Deep.RegionHeld3
import Derived.Deep.DeepCutAuto
import Derived.Sort.OwnSortedInts
import Derived.Test.YtcffonnijhhhiaaGreatDoorU17
import Derived.Test.YtcffonnijhhhiaaGreatDoorU16
set_option linter.all false
set_option linter.unusedSimpArgs false
set_option linter.unusedVariables false
set_option linter.unusedSectionVars false
namespace Go.Proofs.YtcffonnijhhhiaaGreatDoor
open Go Go.RowKit Go.Maps Mp Go.Shelf
attribute [-simp] Prod.forall Prod.exists
theorem heap_sortedV {w:World}{g n:Nat}{os:Array Obj}{cur:Array Value}{e:TypeId}{fr:Nat×Nat}(d:Array Value)(hb:w.heap[g]?=some (.cells cur e fr)):
  ∃cs,(Sort.grow (Sort.putRow id (Sort.ahead w n) g 0 d) os).heap[g]?=some (.cells cs e fr):=by
 have hg:g<w.heap.size:=(Array.getElem?_eq_some_iff.1 hb).1
 refine⟨Sort.putCells id 0 d cur,?_⟩
 rw[Sort.heap_grow_old _ _ (by simpa using hg)]
 simp[Sort.putRow,Sort.mapBlock,Sort.ahead,Array.getElem?_modify,hb,Sort.onCells]
theorem grownBy_sortedV {w:World}{g n:Nat}{os:Array Obj}(d:Array Value):w.grownBy (Sort.grow (Sort.putRow id (Sort.ahead w n) g 0 d) os) (some g):=by
 refine⟨rfl,rfl,rfl,by simp,fun k hk hne=> ?_⟩
 rw[Sort.heap_grow_old _ _ (by simpa using hk)]
 have:g≠k:=fun e=>hne (by rw[e])
 simp[Sort.putRow,Sort.mapBlock,Sort.ahead,Array.getElem?_modify,this]
theorem flat_int (l:List Int):l.flatMap encInt=l.map (Value.int .i64):=by
 induction l with
 |nil=>rfl
 |cons x l ih=>simp only[List.flatMap_cons,List.map_cons,encInt,List.singleton_append,ih]
theorem before_of {x y:Int×Int}(h:x≠y)(k: ¬Rt.before y x):Rt.before x y:=Rt.before.tri k (fun e=>h e.symm)
def SortedOf {α:Type}(le:α→α→Prop)(l l':List α):Prop:=l'.Perm l∧l'.Pairwise le∧l'.length=l.length
theorem merge_sorted {α:Type}{cf:α→α→Int}{le:α→α→Prop}(hO:Sort.SWO (ltOf cf))(hle: ∀x y,ltOf cf y x=false→le x y)(l:List α):SortedOf le l (l.mergeSort fun x y=> !(ltOf cf) y x):=by
 refine⟨List.mergeSort_perm _ _,?_,by simp⟩
 refine(List.pairwise_mergeSort (fun x y z h1 h2=> ?_) (fun x y=> ?_) l).imp fun {x y} h=>hle x y (by simpa using h)
 ·simp only[Bool.not_eq_true']at*
  exact hO.ntrans _ _ _ h2 h1
 ·cases h1:ltOf cf y x with
  |false=>simp
  |true=>
   cases h2:ltOf cf x y with
   |false=>simp
   |true=>have:=hO.trans _ _ _ h1 h2;rw[hO.irrefl]at this;cases this
theorem le_I (x y:Int)(h:ltOf Lib.compareInt y x=false):(fun x y:Int=>x≤y) x y:=by
 unfold ltOf at h
 rw[decide_eq_false_iff_not,cfI_lt]at h
 show x≤y
 omega
set_option maxRecDepth 100000 in
set_option maxHeartbeats 1000000 in
theorem sortF_I {n₀:Nat}(A:Option Addr)(c:Nat)(l:List (Int))(w:World)(ho:w.ownsRow n₀ 3 1 (.slice A l.length c) l.length (l.flatMap encInt))(hm:l.length≤3000000000000):
  Calls Tryz.prog 226 #[.slice A l.length c, .func (.func 131) #[] #[]] w fun e w' => e = .returned (.tuple #[]) ∧ ∃ l', SortedOf (fun x y : Int => x ≤ y) l l' ∧ Ints w' w'.heap.size A l' ∧ w.grownBy w' (A.map (·.block)) ∧ ∀ a, A = some a → ∃ cs, w'.heap[a.block]? = some (.cells cs 3 (0, 0)) := by
 rcases ho.2 with ⟨h2,h3⟩|⟨g,cap,cur,h2,hb,hg,hle,_,hcs,htk⟩
 ·have h4:=own_count layI ho
  cases l with
  |cons x l=>simp at h3
  |nil=>
   cases h2
   refine(AnyF.slices_SortFunc_none {Tryz.sortI with} none 0 _ w).mono ?_
   rintro e w' ⟨rfl,rfl⟩
   exact⟨rfl,[],⟨List.Perm.refl _,.nil,rfl⟩,.inl rfl,⟨rfl,rfl,rfl,Nat.le_refl _,fun _ _ _=>rfl⟩,fun a ha=>by cases ha⟩
 ·cases h2
  have hblk:g<w.heap.size:=(Array.getElem?_eq_some_iff.1 hg).1
  have eg: ∀args w,(callFunc 131 args).run Tryz.prog w=.ok (.enter 131 args) w:=enters_of Tryz.func131 (by kernel_rfl) rfl
  have hH:Sort.Holds (Value.int .i64) w g 0 l.toArray:=Go.holds_of_blockI hg (by
   rw[Nat.mul_one]at htk
   rw[htk,flat_int])
  have hcmp:CmpLays1 Tryz.prog 131 #[] (Value.int .i64) Lib.compareInt g 0 l.toArray.size w:=fun m os dk _ x y=>(cmpI_a x y _).mono fun _ _ ⟨he,hw⟩=>⟨he,0,#[],by rw[hw,Sort.grow_empty];rfl⟩
  have hcon:=Any.slices_SortFunc_total Tryz.sortI (Value.int .i64) (fun _=>rfl) Lib.compareInt swoI 131 #[] g 0 c l.toArray w eg hcmp hH hblk (by simp;omega) (fun x y h1 h2=>by have:=le_I x y h2;have:=le_I y x h1;dsimp only at*;omega)
  simp only[List.size_toArray]at hcon
  refine hcon.mono ?_
  rintro e w' ⟨rfl,m,os,rfl⟩
  have hs:=merge_sorted swoI le_I l
  generalize (l.mergeSort fun x y=> !(ltOf Lib.compareInt) y x)=l' at hs ⊢
  have hlen:=hs.2.2
  have hk2:=Go.heap_sortedI (n:=m) (os:=os) l'.toArray hg
  refine⟨rfl,l',hs,.inr ⟨g,0,rfl,(Array.getElem?_eq_some_iff.1 hk2).1,fun i x hx j v hv=> ?_⟩,Go.grownBy_sortedI _,fun a ha=>by cases ha;exact⟨_,hk2⟩⟩
  have:j=0:=by have:=(List.getElem?_eq_some_iff.1 hv).1;simp[encInt]at this;exact this
  subst this
  simp[encInt]at hv
  subst hv
  have hi:i<l'.length:=(List.getElem?_eq_some_iff.1 hx).1
  have h5:=Go.take_putCellsI cur l' (by omega)
  have h6:((Sort.putCells (Value.int .i64) 0 l'.toArray cur).toList.take l'.length)[i]?=(l'.map (Value.int .i64))[i]?:=by rw[h5]
  rw[List.getElem?_take,if_pos hi,List.getElem?_map,hx]at h6
  rw[show 0+i*1+0=i by omega]
  refine((blk_cells hk2).1 i).trans ?_
  rw[←Array.getElem?_toList]
  exact h6
set_option maxRecDepth 100000 in
theorem sortedFunc_I (gf:FuncId)(lb:Array Value)(Pre Dn:List (Int)→Prop)(w:World)(hen: ∀args w,(callFunc gf args).run Tryz.prog w=.ok (.enter gf args) w)(hg:Gives gf lb ekI Pre Dn w)(hpre: ∀s,Pre s→s.length≤3000000000000)(hdn: ∀s,Dn s→s.length≤3000000000000):
  Calls Tryz.prog 185 #[.func (.func gf) #[] lb,.func (.func 131) #[] #[]] w fun e w'=> ∃s,Dn s∧ ∃l A c,SortedOf (fun x y:Int=>x≤y) s l∧e=.returned (.slice A l.length c)∧Ints w' w'.heap.size A l∧Below w.heap.size w w'∧From w.heap.size A∧l.length≤c∧ ∀a,A=some a→ ∃cs,w'.heap[a.block]?=some (.cells cs 3 (0,0)):=by
 have hco:=collect_I gf lb Pre Dn w hen hg hpre
 clear hg hpre
 go_enter Tryz.func185,Tryz.ntmps185
 go_wp2_with fail
 refine hco.mono ?_
 clear hco
 rintro e w1 ⟨s,hd,A,c,rfl,ho,hb⟩
 have hsf:=sortF_I A c s w1 ho (hdn s hd)
 obtain⟨A',c',hA,_,hc',hfr⟩:=own_seg layI ho
 cases hA
 go_wp2_with fail
 refine hsf.mono ?_
 clear hsf
 rintro e w2 ⟨rfl,l',hs,hseg,hgr,hk⟩
 have hlen:=hs.2.2
 have HD:=Lib.hid (And.intro hd hs)
 have HL:=Lib.hid hlen
 clear hd hs hlen ho
 go_wp2
 go_ret
 refine⟨s,HD.out.1,l',A,c,HD.out.2,by rw[HL.out];rfl,hseg,?_,fun a ha=>by have:=hfr a ha;omega,by rw[HL.out];exact hc',hk⟩
 exact hb.grown hgr hb.size (fun j ej=>by
  cases A with
  |none=>cases ej
  |some a=>have h1:=hfr a rfl;have h2:a.block=j:=Option.some.inj ej;omega)
theorem le_P (x y:Int×Int)(h:ltOf cfP y x=false):(fun x y:Int×Int=> ¬Rt.before y x) x y:=by
 unfold ltOf at h
 rw[decide_eq_false_iff_not,cfP_lt]at h
 exact h
set_option maxRecDepth 100000 in
set_option maxHeartbeats 1000000 in
theorem sortF_P {n₀:Nat}(A:Option Addr)(c:Nat)(l:List (Int×Int))(w:World)(ho:w.ownsRow n₀ 163 2 (.slice A l.length c) l.length (l.flatMap encP))(hm:l.length≤3000000000000):
  Calls Tryz.prog 266 #[.slice A l.length c, .func (.func 182) #[] #[]] w fun e w' => e = .returned (.tuple #[]) ∧ ∃ l', SortedOf (fun x y : Int × Int => ¬ Rt.before y x) l l' ∧ @Seg (Int × Int) encP 2 w' w'.heap.size A l' ∧ w.grownBy w' (A.map (·.block)) ∧ ∀ a, A = some a → ∃ cs, w'.heap[a.block]? = some (.cells cs 163 (0, 0)) := by
 rcases ho.2 with ⟨h2,h3⟩|⟨g,cap,cur,h2,hb,hg,hle,_,hcs,htk⟩
 ·have h4:=own_count layP ho
  cases l with
  |cons x l=>simp at h3
  |nil=>
   cases h2
   refine(AnyF.slices_SortFunc_none {Tryz.sortP with} none 0 _ w).mono ?_
   rintro e w' ⟨rfl,rfl⟩
   exact⟨rfl,[],⟨List.Perm.refl _,.nil,rfl⟩,.inl rfl,⟨rfl,rfl,rfl,Nat.le_refl _,fun _ _ _=>rfl⟩,fun a ha=>by cases ha⟩
 ·cases h2
  have hblk:g<w.heap.size:=(Array.getElem?_eq_some_iff.1 hg).1
  have eg: ∀args w,(callFunc 182 args).run Tryz.prog w=.ok (.enter 182 args) w:=enters_of Tryz.func182 (by kernel_rfl) rfl
  have hH:Sort.HoldsK encP 2 w g 0 l.toArray:=fun t ht=>by
   obtain⟨hc,hf⟩:=blk_cells hg
   have ht':t<l.length*2:=by simpa using ht
   refine⟨?_,hf _⟩
   rw[Nat.zero_add,hc,←Array.getElem?_toList,Sort.get_flatK _ _ _ _ (by simpa using ht')]
   have h1:(cur.toList.take (l.length*2))[t]?=cur.toList[t]?:=by rw[List.getElem?_take,if_pos (by omega)]
   rw[←h1,htk]
   have hd:t/2<l.length:=by omega
   have hm:t%2<(encP l[t/2]).length:=by simp[encP];omega
   have h2:=flat_at encP 2 (fun _=>rfl) (l:=l) (k:=t/2) (x:=l[t/2]) (List.getElem?_eq_getElem hd) (j:=t%2) (v:=(encP l[t/2])[t%2]) (List.getElem?_eq_getElem hm)
   rw[show t/2*2+t%2=t by omega]at h2
   rw[h2,getElem!_pos l.toArray (t/2) (by simpa using hd)]
   simp only[List.getElem_toArray,id]
   rw[getElem!_pos (encP l[t/2]) (t%2) hm]
  have hcmp:CmpLays Tryz.prog 182 #[] encP 2 cfP g 0 l.toArray.size w:=fun _ _ _ _ x y=>pairs_a x y _
  have hcon:=AnyQ.slices_SortFunc_total Tryz.sortP 2 Tryz.isAgg163 Tryz.sizeOf163 encP (fun _=>rfl) (layP.hone) cfP swoP 182 #[] g 0 c l.toArray w eg hcmp hH hblk (by simp;omega) (fun x y h1 h2=>by
   have h3:=le_P x y h2
   have h4:=le_P y x h1
   refine Prod.ext ?_ ?_<;>(unfold Rt.before at h3 h4;omega))
  simp only[List.size_toArray]at hcon
  refine hcon.mono ?_
  rintro e w' ⟨rfl,m,os,rfl⟩
  have hs:=merge_sorted swoP le_P l
  generalize (l.mergeSort fun x y=> !(ltOf cfP) y x)=l' at hs ⊢
  have hlen:=hs.2.2
  have hk2:=heap_sortedV (n:=m) (os:=os) (Sort.flatK encP 2 l'.toArray) hg
  have hh:=holdsK_sortWorldK_c encP 2 w g 0 l.toArray l'.toArray m os hH hblk (by simp[hlen])
  refine⟨rfl,l',hs,.inr ⟨g,0,rfl,(Array.getElem?_eq_some_iff.1 hk2.choose_spec).1,fun i x hx j v hv=> ?_⟩,grownBy_sortedV _,fun a ha=>by cases ha;exact hk2⟩
  have hi:i<l'.length:=(List.getElem?_eq_some_iff.1 hx).1
  have hj:j<2:=by have:=(List.getElem?_eq_some_iff.1 hv).1;simpa [encP]using this
  have:=(hh.cell (i:=i) (c:=j) (by simpa using hi) hj).1
  rw[this]
  have e1:(l'.toArray[i]!)=x:=by
   rw[getElem!_pos l'.toArray i (by simpa using hi)]
   simp only[List.getElem_toArray]
   exact(List.getElem?_eq_some_iff.1 hx).2
  rw[e1]
  have e2:=List.getElem?_eq_some_iff.1 hv
  rw[getElem!_pos (encP x) j e2.1,e2.2]
set_option maxRecDepth 100000 in
theorem sortedFunc_P (gf:FuncId)(lb:Array Value)(Pre Dn:List (Int×Int)→Prop)(w:World)(hen: ∀args w,(callFunc gf args).run Tryz.prog w=.ok (.enter gf args) w)(hg:Gives gf lb ekP Pre Dn w)(hpre: ∀s,Pre s→s.length≤3000000000000)(hdn: ∀s,Dn s→s.length≤3000000000000):
  Calls Tryz.prog 223 #[.func (.func gf) #[] lb,.func (.func 182) #[] #[]] w fun e w'=> ∃s,Dn s∧ ∃l A c,SortedOf (fun x y:Int×Int=> ¬Rt.before y x) s l∧e=.returned (.slice A l.length c)∧ @Seg (Int×Int) encP 2 w' w'.heap.size A l∧Below w.heap.size w w'∧From w.heap.size A∧l.length≤c∧ ∀a,A=some a→ ∃cs,w'.heap[a.block]?=some (.cells cs 163 (0,0)):=by
 have hco:=collect_P gf lb Pre Dn w hen hg hpre
 clear hg hpre
 go_enter Tryz.func223,Tryz.ntmps223
 go_wp2_with fail
 refine hco.mono ?_
 clear hco
 rintro e w1 ⟨s,hd,A,c,rfl,ho,hb⟩
 have hsf:=sortF_P A c s w1 ho (hdn s hd)
 obtain⟨A',c',hA,_,hc',hfr⟩:=own_seg layP ho
 cases hA
 go_wp2_with fail
 refine hsf.mono ?_
 clear hsf
 rintro e w2 ⟨rfl,l',hs,hseg,hgr,hk⟩
 have hlen:=hs.2.2
 have HD:=Lib.hid (And.intro hd hs)
 have HL:=Lib.hid hlen
 clear hd hs hlen ho
 go_wp2
 go_ret
 refine⟨s,HD.out.1,l',A,c,HD.out.2,by rw[HL.out];rfl,hseg,?_,fun a ha=>by have:=hfr a ha;omega,by rw[HL.out];exact hc',hk⟩
 exact hb.grown hgr hb.size (fun j ej=>by
  cases A with
  |none=>cases ej
  |some a=>have h1:=hfr a rfl;have h2:a.block=j:=Option.some.inj ej;omega)
set_option maxRecDepth 100000 in
theorem sorted_L {w:World}{b:Nat}{g:Int→Option (Nat×Nat)}(hfm:FM ekI okI w b fun k=>(g k).map (fun p:Nat×Nat=>Value.pointer (some ⟨p.1,0,none⟩))):
  Calls Tryz.prog 130 #[.map (some b), .func (.func 131) #[] #[]] w fun e w' => ∃ l A c, Hid (l.Pairwise (· < ·)) ∧ Hid (∀ k, k ∈ l ↔ (g k).isSome = true) ∧ e = .returned (.slice A l.length c) ∧ Ints w' w'.heap.size A l ∧ Below w.heap.size w w' ∧ From w.heap.size A ∧ l.length ≤ c ∧ l.length ≤ 1000001 ∧ ∀ a, A = some a → ∃ cs, w'.heap[a.block]? = some (.cells cs 3 (0, 0)) := by
 have hok: ∀k,(g k).isSome=true→okI k:=fun k hk=>by
  obtain⟨v,hv⟩:=Option.isSome_iff_exists.1 hk
  obtain⟨es,clock,hb,E⟩:=hfm
  obtain⟨x,hx,h1,_⟩:=E.get k ((fun p:Nat×Nat=>Value.pointer (some ⟨p.1,0,none⟩)) v) (by simp only[hv,Option.map_some])
  obtain⟨j,hj,h2,_⟩:=E.mem x hx
  rw[kI.inj (h1.symm.trans h2)]
  exact hj
 have b1:Below w.heap.size w (w.alloc (.cells #[.map (some b)] 128)):=by go_grown
 have hgv:=gives_L (heap_alloc_new w (.cells #[.map (some b)] 128)) (hfm.alloc _)
 have hdn: ∀s:List (Int),(s.Nodup∧ ∀k,k∈s↔(g k).isSome=true)→s.length≤1000001:=fun s hs=>len_okI hs.1 fun x hx=>hok x ((hs.2 x).1 hx)
 have hsf:=sortedFunc_I _ _ _ _ _ (enters_of Tryz.func227 (by kernel_rfl) rfl) hgv (fun s hs=>Nat.le_trans (len_okI hs.1 hs.2) (by decide)) (fun s hs=>Nat.le_trans (hdn s hs) (by decide))
 have HDN:=Lib.hid hdn
 clear hgv hdn hok hfm
 go_enter Tryz.func130,Tryz.ntmps130
 go_wp2_with fail
 refine(keys_L b w).mono ?_
 rintro e w1 ⟨rfl,rfl⟩
 go_wp2_with fail
 refine hsf.mono ?_
 clear hsf
 rintro e w2 ⟨s,⟨hnd,hmem⟩,l,A,c,hs,rfl,hseg,hb,hfr,hc,hk⟩
 have hb2:Below w.heap.size w w2:=b1.trans (hb.mono (by simp))
 have hlt : l.Pairwise (· < ·) := by
  have h2:=List.pairwise_iff_getElem.1 (hs.1.nodup_iff.2 hnd)
  rw[List.pairwise_iff_getElem]
  intro i j hi hj hij
  have h3:=List.pairwise_iff_getElem.1 hs.2.1 i j hi hj hij
  have h4:=h2 i j hi hj hij
  have h5:l[i]≤l[j]:=h3
  omega
 have HR:=Lib.hid hlt
 have HM:=Lib.hid (show ∀k,k∈l↔(g k).isSome=true from fun k=>(hs.1.mem_iff).trans (hmem k))
 have hl2:l.length≤1000001:=by rw[hs.2.2];exact HDN.out s ⟨hnd,hmem⟩
 clear hs hmem hnd hlt
 go_wp2
 go_ret
 exact⟨l,A,c,HR,HM,rfl,hseg,hb2,fun a ha=>by have:=hfr a ha;simp at this;omega,hc,hl2,hk⟩
set_option maxRecDepth 100000 in
theorem sorted_N {w:World}{b:Nat}{g:Int→Option (Int)}(hfm:FM ekI okI w b fun k=>(g k).map (Value.int .i64)):
  Calls Tryz.prog 188 #[.map (some b), .func (.func 131) #[] #[]] w fun e w' => ∃ l A c, Hid (l.Pairwise (· < ·)) ∧ Hid (∀ k, k ∈ l ↔ (g k).isSome = true) ∧ e = .returned (.slice A l.length c) ∧ Ints w' w'.heap.size A l ∧ Below w.heap.size w w' ∧ From w.heap.size A ∧ l.length ≤ c ∧ l.length ≤ 1000001 ∧ ∀ a, A = some a → ∃ cs, w'.heap[a.block]? = some (.cells cs 3 (0, 0)) := by
 have hok: ∀k,(g k).isSome=true→okI k:=fun k hk=>by
  obtain⟨v,hv⟩:=Option.isSome_iff_exists.1 hk
  obtain⟨es,clock,hb,E⟩:=hfm
  obtain⟨x,hx,h1,_⟩:=E.get k ((Value.int .i64) v) (by simp only[hv,Option.map_some])
  obtain⟨j,hj,h2,_⟩:=E.mem x hx
  rw[kI.inj (h1.symm.trans h2)]
  exact hj
 have b1:Below w.heap.size w (w.alloc (.cells #[.map (some b)] 134)):=by go_grown
 have hgv:=gives_N (heap_alloc_new w (.cells #[.map (some b)] 134)) (hfm.alloc _)
 have hdn: ∀s:List (Int),(s.Nodup∧ ∀k,k∈s↔(g k).isSome=true)→s.length≤1000001:=fun s hs=>len_okI hs.1 fun x hx=>hok x ((hs.2 x).1 hx)
 have hsf:=sortedFunc_I _ _ _ _ _ (enters_of Tryz.func270 (by kernel_rfl) rfl) hgv (fun s hs=>Nat.le_trans (len_okI hs.1 hs.2) (by decide)) (fun s hs=>Nat.le_trans (hdn s hs) (by decide))
 have HDN:=Lib.hid hdn
 clear hgv hdn hok hfm
 go_enter Tryz.func188,Tryz.ntmps188
 go_wp2_with fail
 refine(keys_N b w).mono ?_
 rintro e w1 ⟨rfl,rfl⟩
 go_wp2_with fail
 refine hsf.mono ?_
 clear hsf
 rintro e w2 ⟨s,⟨hnd,hmem⟩,l,A,c,hs,rfl,hseg,hb,hfr,hc,hk⟩
 have hb2:Below w.heap.size w w2:=b1.trans (hb.mono (by simp))
 have hlt : l.Pairwise (· < ·) := by
  have h2:=List.pairwise_iff_getElem.1 (hs.1.nodup_iff.2 hnd)
  rw[List.pairwise_iff_getElem]
  intro i j hi hj hij
  have h3:=List.pairwise_iff_getElem.1 hs.2.1 i j hi hj hij
  have h4:=h2 i j hi hj hij
  have h5:l[i]≤l[j]:=h3
  omega
 have HR:=Lib.hid hlt
 have HM:=Lib.hid (show ∀k,k∈l↔(g k).isSome=true from fun k=>(hs.1.mem_iff).trans (hmem k))
 have hl2:l.length≤1000001:=by rw[hs.2.2];exact HDN.out s ⟨hnd,hmem⟩
 clear hs hmem hnd hlt
 go_wp2
 go_ret
 exact⟨l,A,c,HR,HM,rfl,hseg,hb2,fun a ha=>by have:=hfr a ha;simp at this;omega,hc,hl2,hk⟩
set_option maxRecDepth 100000 in
theorem sorted_E {w:World}{b:Nat}{g:Int×Int→Option (Int)}(hfm:FM ekP okP w b fun k=>(g k).map (Value.int .i64)):
  Calls Tryz.prog 181 #[.map (some b),.func (.func 182) #[] #[]] w fun e w'=> ∃l A c,Hid (l.Pairwise Rt.before)∧Hid (∀k,k∈l↔(g k).isSome=true)∧e=.returned (.slice A l.length c)∧ @Seg (Int×Int) encP 2 w' w'.heap.size A l∧Below w.heap.size w w'∧From w.heap.size A∧l.length≤c∧l.length≤1000002000001∧ ∀a,A=some a→ ∃cs,w'.heap[a.block]?=some (.cells cs 163 (0,0)):=by
 have hok: ∀k,(g k).isSome=true→okP k:=fun k hk=>by
  obtain⟨v,hv⟩:=Option.isSome_iff_exists.1 hk
  obtain⟨es,clock,hb,E⟩:=hfm
  obtain⟨x,hx,h1,_⟩:=E.get k ((Value.int .i64) v) (by simp only[hv,Option.map_some])
  obtain⟨j,hj,h2,_⟩:=E.mem x hx
  rw[kP.inj (h1.symm.trans h2)]
  exact hj
 have b1:Below w.heap.size w (w.alloc (.cells #[.map (some b)] 129)):=by go_grown
 have hgv:=gives_E (heap_alloc_new w (.cells #[.map (some b)] 129)) (hfm.alloc _)
 have hdn: ∀s:List (Int×Int),(s.Nodup∧ ∀k,k∈s↔(g k).isSome=true)→s.length≤1000002000001:=fun s hs=>len_okP hs.1 fun x hx=>hok x ((hs.2 x).1 hx)
 have hsf:=sortedFunc_P _ _ _ _ _ (enters_of Tryz.func267 (by kernel_rfl) rfl) hgv (fun s hs=>Nat.le_trans (len_okP hs.1 hs.2) (by decide)) (fun s hs=>Nat.le_trans (hdn s hs) (by decide))
 have HDN:=Lib.hid hdn
 clear hgv hdn hok hfm
 go_enter Tryz.func181,Tryz.ntmps181
 go_wp2_with fail
 refine(keys_E b w).mono ?_
 rintro e w1 ⟨rfl,rfl⟩
 go_wp2_with fail
 refine hsf.mono ?_
 clear hsf
 rintro e w2 ⟨s,⟨hnd,hmem⟩,l,A,c,hs,rfl,hseg,hb,hfr,hc,hk⟩
 have hb2:Below w.heap.size w w2:=b1.trans (hb.mono (by simp))
 have hlt:l.Pairwise Rt.before:=by
  have h2:=List.pairwise_iff_getElem.1 (hs.1.nodup_iff.2 hnd)
  rw[List.pairwise_iff_getElem]
  intro i j hi hj hij
  have h3:=List.pairwise_iff_getElem.1 hs.2.1 i j hi hj hij
  have h4:=h2 i j hi hj hij
  exact before_of h4 h3
 have HR:=Lib.hid hlt
 have HM:=Lib.hid (show ∀k,k∈l↔(g k).isSome=true from fun k=>(hs.1.mem_iff).trans (hmem k))
 have hl2:l.length≤1000002000001:=by rw[hs.2.2];exact HDN.out s ⟨hnd,hmem⟩
 clear hs hmem hnd hlt
 go_wp2
 go_ret
 exact⟨l,A,c,HR,HM,rfl,hseg,hb2,fun a ha=>by have:=hfr a ha;simp at this;omega,hc,hl2,hk⟩
set_option maxRecDepth 100000 in
theorem sorted_G {w:World}{b:Nat}{g:Int×Int→Option (Int×Int)}(hfm:FM ekP okP w b fun k=>(g k).map evG):
  Calls Tryz.prog 183 #[.map (some b),.func (.func 182) #[] #[]] w fun e w'=> ∃l A c,Hid (l.Pairwise Rt.before)∧Hid (∀k,k∈l↔(g k).isSome=true)∧e=.returned (.slice A l.length c)∧ @Seg (Int×Int) encP 2 w' w'.heap.size A l∧Below w.heap.size w w'∧From w.heap.size A∧l.length≤c∧l.length≤1000002000001∧ ∀a,A=some a→ ∃cs,w'.heap[a.block]?=some (.cells cs 163 (0,0)):=by
 have hok: ∀k,(g k).isSome=true→okP k:=fun k hk=>by
  obtain⟨v,hv⟩:=Option.isSome_iff_exists.1 hk
  obtain⟨es,clock,hb,E⟩:=hfm
  obtain⟨x,hx,h1,_⟩:=E.get k (evG v) (by simp only[hv,Option.map_some])
  obtain⟨j,hj,h2,_⟩:=E.mem x hx
  rw[kP.inj (h1.symm.trans h2)]
  exact hj
 have b1:Below w.heap.size w (w.alloc (.cells #[.map (some b)] 130)):=by go_grown
 have hgv:=gives_G (heap_alloc_new w (.cells #[.map (some b)] 130)) (hfm.alloc _)
 have hdn: ∀s:List (Int×Int),(s.Nodup∧ ∀k,k∈s↔(g k).isSome=true)→s.length≤1000002000001:=fun s hs=>len_okP hs.1 fun x hx=>hok x ((hs.2 x).1 hx)
 have hsf:=sortedFunc_P _ _ _ _ _ (enters_of Tryz.func268 (by kernel_rfl) rfl) hgv (fun s hs=>Nat.le_trans (len_okP hs.1 hs.2) (by decide)) (fun s hs=>Nat.le_trans (hdn s hs) (by decide))
 have HDN:=Lib.hid hdn
 clear hgv hdn hok hfm
 go_enter Tryz.func183,Tryz.ntmps183
 go_wp2_with fail
 refine(keys_G b w).mono ?_
 rintro e w1 ⟨rfl,rfl⟩
 go_wp2_with fail
 refine hsf.mono ?_
 clear hsf
 rintro e w2 ⟨s,⟨hnd,hmem⟩,l,A,c,hs,rfl,hseg,hb,hfr,hc,hk⟩
 have hb2:Below w.heap.size w w2:=b1.trans (hb.mono (by simp))
 have hlt:l.Pairwise Rt.before:=by
  have h2:=List.pairwise_iff_getElem.1 (hs.1.nodup_iff.2 hnd)
  rw[List.pairwise_iff_getElem]
  intro i j hi hj hij
  have h3:=List.pairwise_iff_getElem.1 hs.2.1 i j hi hj hij
  have h4:=h2 i j hi hj hij
  exact before_of h4 h3
 have HR:=Lib.hid hlt
 have HM:=Lib.hid (show ∀k,k∈l↔(g k).isSome=true from fun k=>(hs.1.mem_iff).trans (hmem k))
 have hl2:l.length≤1000002000001:=by rw[hs.2.2];exact HDN.out s ⟨hnd,hmem⟩
 clear hs hmem hnd hlt
 go_wp2
 go_ret
 exact⟨l,A,c,HR,HM,rfl,hseg,hb2,fun a ha=>by have:=hfr a ha;simp at this;omega,hc,hl2,hk⟩
end Go.Proofs.YtcffonnijhhhiaaGreatDoor
namespace Go.Proofs.YtcffonnijhhhiaaGreatDoor
open Go Go.RowKit Go.Maps Mp
structure Lp where
 x:Rt.Lot
 A:Option Addr
 c:Nat
 deriving Inhabited
abbrev rowL (p:Lp):Array Value:= #[.int .i64 p.x.number,.int .i64 p.x.size,.slice p.A p.x.held.length p.c]
def encL (p:Lp):List Value:=(rowL p).toList
abbrev rowH (p:Int×Int):Array Value:= #[.int .i64 p.1,.int .i64 p.2]
def encH (p:Int×Int):List Value:=(rowH p).toList
abbrev rowE (e:Rt.Ease):Array Value:= #[.int .i64 e.over,.int .i64 e.of,.int .i64 e.deal]
def encE (e:Rt.Ease):List Value:=(rowE e).toList
abbrev rowS (e:Rt.Stint):Array Value:= #[.int .i64 e.lot,.int .i64 e.owner,.int .i64 e.beasts,.int .i64 e.deal]
def encS (e:Rt.Stint):List Value:=(rowS e).toList
abbrev zcL :Array Value:= #[.int .i64 0,.int .i64 0,.slice none 0 0]
abbrev zcE :Array Value:= #[.int .i64 0,.int .i64 0,.int .i64 0]
abbrev zcS :Array Value:= #[.int .i64 0,.int .i64 0,.int .i64 0,.int .i64 0]
theorem info_lot : (Tryz.prog.info? 54).map (·.size) = some 3 := by kernel_rfl
theorem info_ease : (Tryz.prog.info? 71).map (·.size) = some 3 := by kernel_rfl
theorem info_stint : (Tryz.prog.info? 119).map (·.size) = some 4 := by kernel_rfl
theorem info_hold : (Tryz.prog.info? 59).map (·.size) = some 2 := by kernel_rfl
theorem info_roll : (Tryz.prog.info? 50).map (·.size) = some 3 := by kernel_rfl
theorem layL :Lay encL 46 54 (.agg zcL) 3 40:=
 ⟨Tryz.underlying46,by kernel_rfl,rfl,by decide,fun _=>rfl,fun x v hv=>by simp[encL]at hv;rcases hv with rfl|rfl|rfl<;>rfl⟩
theorem layH :Lay encH 52 59 (.agg #[.int .i64 0,.int .i64 0]) 2 16:=
 ⟨Tryz.underlying52,by kernel_rfl,rfl,by decide,fun _=>rfl,fun x v hv=>by simp[encH]at hv;rcases hv with rfl|rfl<;>rfl⟩
theorem layE :Lay encE 47 71 (.agg zcE) 3 24:=
 ⟨Tryz.underlying47,by kernel_rfl,rfl,by decide,fun _=>rfl,fun x v hv=>by simp[encE]at hv;rcases hv with rfl|rfl|rfl<;>rfl⟩
theorem layS :Lay encS 48 119 (.agg zcS) 4 32:=
 ⟨Tryz.underlying48,by kernel_rfl,rfl,by decide,fun _=>rfl,fun x v hv=>by simp[encS]at hv;rcases hv with rfl|rfl|rfl|rfl<;>rfl⟩
structure Lts (w:World)(B:Nat)(A:Option Addr)(L:List Lp):Prop where
 seg:Seg encL 3 w B A L
 each: ∀p∈L,Seg encH 2 w B p.A p.x.held∧p.x.held.length≤p.c
abbrev lts (L : List Lp) : List Rt.Lot := L.map (·.x)
section
variable {w w' : World} {B B' : Nat} {A : Option Addr} {L : List Lp}
theorem Lts.below (h:Lts w B A L)(hb:Below B w w'):Lts w' B A L:=⟨h.seg.below hb,fun p hp=>⟨(h.each p hp).1.below hb,(h.each p hp).2⟩⟩
theorem Lts.more (h:Lts w B A L)(hB:B≤B'):Lts w B' A L:=⟨h.seg.more hB,fun p hp=>⟨(h.each p hp).1.more hB,(h.each p hp).2⟩⟩
theorem Lts.up (h:Lts w w.heap.size A L)(hb:Below w.heap.size w w'):Lts w' w'.heap.size A L:=(h.below hb).more hb.size
end
structure Rol (w:World)(B:Nat)(A1 A2 A3:Option Addr)(L:List Lp)(r:Rt.Roll):Prop where
 lots:Lts w B A1 L
 is:lts L=r.lots
 eases:Seg encE 3 w B A2 r.eases
 stints:Seg encS 4 w B A3 r.stints
end Go.Proofs.YtcffonnijhhhiaaGreatDoor
