/- Walks of the law DeedCalls in one text, part 4: LayA to JB. -/
import Derived.Test.YtgbpekeoegfjpaaGreatDoorP3c
set_option maxRecDepth 100000
namespace Go.Proofs.YtgbpekeoegfjpaaGreatDoor
open Go.RowKit
namespace Pl
end Pl
open Go.RowKit
open Go.RowKit
open Go.RowKit
attribute [-go_sem] Builtin.append_
set_option maxHeartbeats 4000000 in
theorem sameInts_a (A A':Option Addr)(c c' n:Nat)(l:List Int)(w:World)(hn:l.length=n)(hl:Ints w w.heap.size A l)(hm:l.length<=100000)(hl':Ints w w.heap.size A' l):
  Calls Tryz.prog 56 #[.slice A n c,.slice A' n c'] w fun e w'=>e=.returned (.bool true)∧Below w.heap.size w w':=by
 subst hn
 go_enter Tryz.func56,Tryz.ntmps56
 go_wp2
 go_loopw [5] (fun i wr=> ∃(k:Nat),k<=l.length∧i=.int .i64 k∧Below w.heap.size w wr) (fun i _=>l.length-(intOf i).toNat)
 case atStart=>exact⟨0,by omega,rfl,by go_grown⟩
 case round=>
  obtain⟨k,hk,rfl,hall⟩:=hrel
  by_cases hlt:k<l.length
  ·obtain⟨b,off,hA,hbB,q0⟩:=Ints.at1 (hl.below hall) hlt
   obtain⟨b',off',hA',hbB',r0⟩:=Ints.at1 (hl'.below hall) hlt
   obtain⟨f,hbd⟩: ∃x,l[k]=x:=⟨_,rfl⟩
   rw[hbd]at q0 r0
   clear hbd
   subst hA hA'
   have e1:(0:Int)<=(k:Int):=by omega
   have e2:(k:Int)<(l.length:Int):=by omega
   go_wp2
   go_region_held3 (fun W=>W.cell? ⟨b,off+k,none⟩=some (.int .i64 f)∧W.cell? ⟨b',off'+k,none⟩=some (.int .i64 f)) (exact⟨q0,r0⟩) (fail)
   all_goals go_wp2
   all_goals (
    go_roundw
    case rel=>exact⟨k+1,by omega,by go_num,by first|(go_grown;done)|exact below_drewN hall _⟩
    case measure=>simp[intOf];try omega)
  ·go_wp2
   go_ret
   exact⟨rfl,hall⟩
def EndIs (l:List Int)(E:Int)(w:World)(e:Ending)(w':World):Prop:= ∃A c,e=.returned (.tuple #[.slice A l.length c,.int .i64 E])∧Ints w' w'.heap.size A l∧l.length<=c∧Below w.heap.size w w'
end Go.Proofs.YtgbpekeoegfjpaaGreatDoor
namespace Go.Proofs.YtgbpekeoegfjpaaGreatDoor
open Go.RowKit
attribute [-go_sem] Builtin.append_
theorem app_int {n₀ k:Nat}{w1:World}{v:Value}{l:List Int}(x:Int)(hr:w1.ownsRow n₀ 3 1 v k (l.flatMap encInt))(hk:k<=100000)(hn:n₀<=w1.heap.size):
  ∃g' cap' w2,(Builtin.append_ #[62,62] 62 #[v,.slice (some ⟨w1.heap.size,0,none⟩) 1 1]).run Tryz.prog (w1.alloc (.cells #[.int .i64 x] 3))=.ok (.slice (some ⟨g',0,none⟩) (k+1) cap') w2∧
   w2.ownsRow n₀ 3 1 (.slice (some ⟨g',0,none⟩) (k+1) cap') (k+1) ((l++[x]).flatMap encInt)∧Below n₀ w1 w2:=
 own_app lay_int hr [x] 0 rfl _ (by simp[encInt]) (by unfold maxLen;omega) (by omega) hn
end Go.Proofs.YtgbpekeoegfjpaaGreatDoor
namespace Go.Proofs
open Go.Shelf
def Tryz.lays189_ren :Go.Shelf.Ren:=⟨fun|189=>134|125=>193|257=>192|128=>257|129=>258|294=>248|295=>249|296=>250|297=>251|298=>252|299=>253|216=>254|300=>255|301=>256|328=>298|329=>299|330=>300|331=>301|332=>302|215=>262|343=>341|n=>n,fun|28=>62|3=>3|46=>238|0=>0|51=>269|53=>271|4=>4|183=>263|182=>262|131=>189|5=>5|9=>9|218=>294|222=>298|228=>328|229=>326|n=>n,fun|n=>n⟩
theorem Tryz.lays189 :Go.Proofs.Lays.n189 Tryz.prog Tryz.lays189_ren:= {
 mixed:=by kernel_rfl
 f125:=Tryz.func193.trans (congrArg some (by kernel_rfl))
 f128:=Tryz.func257.trans (congrArg some (by kernel_rfl))
 f129:=Tryz.func258.trans (congrArg some (by kernel_rfl))
 f189:=Tryz.func134.trans (congrArg some (by kernel_rfl))
 f215:=Tryz.func262.trans (congrArg some (by kernel_rfl))
 f216:=Tryz.func254.trans (congrArg some (by kernel_rfl))
 f257:=Tryz.func192.trans (congrArg some (by kernel_rfl))
 f294:=Tryz.func248.trans (congrArg some (by kernel_rfl))
 f295:=Tryz.func249.trans (congrArg some (by kernel_rfl))
 f296:=Tryz.func250.trans (congrArg some (by kernel_rfl))
 f297:=Tryz.func251.trans (congrArg some (by kernel_rfl))
 f298:=Tryz.func252.trans (congrArg some (by kernel_rfl))
 f299:=Tryz.func253.trans (congrArg some (by kernel_rfl))
 f300:=Tryz.func255.trans (congrArg some (by kernel_rfl))
 f301:=Tryz.func256.trans (congrArg some (by kernel_rfl))
 f328:=Tryz.func298.trans (congrArg some (by kernel_rfl))
 f329:=Tryz.func299.trans (congrArg some (by kernel_rfl))
 f330:=Tryz.func300.trans (congrArg some (by kernel_rfl))
 f331:=Tryz.func301.trans (congrArg some (by kernel_rfl))
 f332:=Tryz.func302.trans (congrArg some (by kernel_rfl))
 f343:=Tryz.func341.trans (congrArg some (by kernel_rfl))
 t0:=Tryz.underlying0
 a0:=Tryz.isAgg0
 z0:=Tryz.sizeOf0
 v0:=Tryz.zeroValue0
 t3:=Tryz.underlying3
 a3:=Tryz.isAgg3
 z3:=Tryz.sizeOf3
 v3:=Tryz.zeroValue3
 t4:=Tryz.underlying4
 a4:=Tryz.isAgg4
 z4:=Tryz.sizeOf4
 v4:=Tryz.zeroValue4
 t5:=Tryz.underlying5
 a5:=Tryz.isAgg5
 z5:=Tryz.sizeOf5
 v5:=Tryz.zeroValue5
 t9:=Tryz.underlying9
 a9:=Tryz.isAgg9
 z9:=Tryz.sizeOf9
 v9:=Tryz.zeroValue9
 t28:=Tryz.underlying62
 a28:=Tryz.isAgg62
 z28:=Tryz.sizeOf62
 v28:=Tryz.zeroValue62
 t46:=Tryz.underlying238
 a46:=Tryz.isAgg238
 z46:=Tryz.sizeOf238
 v46:=Tryz.zeroValue238
 t51:=Tryz.underlying269
 a51:=Tryz.isAgg269
 z51:=Tryz.sizeOf269
 v51:=Tryz.zeroValue269
 t53:=Tryz.underlying271
 a53:=Tryz.isAgg271
 z53:=Tryz.sizeOf271
 v53:=Tryz.zeroValue271
 t131:=Tryz.underlying189
 a131:=Tryz.isAgg189
 z131:=Tryz.sizeOf189
 v131:=Tryz.zeroValue189
 t182:=Tryz.underlying262
 a182:=Tryz.isAgg262
 z182:=Tryz.sizeOf262
 v182:=Tryz.zeroValue262
 t183:=Tryz.underlying263
 a183:=Tryz.isAgg263
 z183:=Tryz.sizeOf263
 v183:=Tryz.zeroValue263
 t218:=Tryz.underlying294
 a218:=Tryz.isAgg294
 z218:=Tryz.sizeOf294
 v218:=Tryz.zeroValue294
 t222:=Tryz.underlying298
 a222:=Tryz.isAgg298
 z222:=Tryz.sizeOf298
 v222:=Tryz.zeroValue298
 t228:=Tryz.underlying328
 a228:=Tryz.isAgg328
 z228:=Tryz.sizeOf328
 v228:=Tryz.zeroValue328
 t229:=Tryz.underlying326
 a229:=Tryz.isAgg326
 z229:=Tryz.sizeOf326
 v229:=Tryz.zeroValue326}
end Go.Proofs
namespace Go.Proofs
open Go.Shelf Go.RowKit Go.Lib Go.Sort
def YtgbpekeoegfjpaaGreatDoor.dlI_ren :Go.Shelf.Ren:=⟨fun|10=>132|6=>191|n=>n,fun|22=>62|23=>3|25=>172|3=>3|4=>4|0=>0|n=>n,fun|n=>n⟩
theorem YtgbpekeoegfjpaaGreatDoor.dlI :Go.Proofs.SlLaysH.n10 Tryz.prog YtgbpekeoegfjpaaGreatDoor.dlI_ren:= {
 mixed:=by kernel_rfl
 f6:=⟨Tryz.f191.name,by decide,Tryz.func191.trans (congrArg some (by kernel_rfl))⟩
 f10:=⟨Tryz.f132.name,by decide,Tryz.func132.trans (congrArg some (by kernel_rfl))⟩
 t0:=Tryz.underlying0
 a0:=Tryz.isAgg0
 z0:=Tryz.sizeOf0
 v0:=Tryz.zeroValue0
 t3:=Tryz.underlying3
 a3:=Tryz.isAgg3
 z3:=Tryz.sizeOf3
 v3:=Tryz.zeroValue3
 t4:=Tryz.underlying4
 a4:=Tryz.isAgg4
 z4:=Tryz.sizeOf4
 v4:=Tryz.zeroValue4
 t22:=Tryz.underlying62
 a22:=Tryz.isAgg62
 z22:=Tryz.sizeOf62
 v22:=Tryz.zeroValue62
 a23:=Tryz.isAgg3
 z23:=Tryz.sizeOf3
 t25:=Tryz.underlying172
 a25:=Tryz.isAgg172
 z25:=Tryz.sizeOf172
 v25:=Tryz.zeroValue172}
end Go.Proofs
namespace Go.Proofs.YtgbpekeoegfjpaaGreatDoor
open Go.RowKit Go.Shelf
structure RowI (W:World)(g:Nat)(l:List Int)(c:Nat):Prop where
 hold:Sort.Holds (Value.int .i64) W g 0 l.toArray
 lt:g<W.heap.size
 cap:l.length<=c
theorem putRow_grown {α:Type}[Inhabited α](enc:α->Value)(W:World)(q g:Nat)(d:Array α):W.grownBy (Sort.putRow enc (Sort.ahead W q) g 0 d) (some g):=by
 refine⟨rfl,rfl,rfl,by simp[Sort.ahead],fun k hk hne=> ?_⟩
 show((W.heap).modify g _)[k]?=W.heap[k]?
 rw[Array.getElem?_modify,if_neg (fun e=>hne (by rw[e]))]
theorem grow_grown {W W':World}{r:Option Nat}(h:W.grownBy W' r)(os:Array Obj):W.grownBy (Sort.grow W' os) r:=
 ⟨h.os,h.tape,h.output,by rw[Sort.size_grow];exact Nat.le_trans h.size (Nat.le_add_right _ _),fun k hk hne=>by
  show(W'.heap++os)[k]?=W.heap[k]?
  rw[Array.getElem?_append_left (Nat.lt_of_lt_of_le hk h.size)]
  exact h.block k hk hne⟩
theorem RowI.ints {W:World}{g:Nat}{l:List Int}{c:Nat}(h:RowI W g l c):Ints W W.heap.size (some ⟨g,0,none⟩) l:=by
 refine .inr ⟨g,0,rfl,h.lt,fun k x hx j v hv=> ?_⟩
 cases j with
 |succ j=>simp[encInt]at hv
 |zero=>
  simp[encInt]at hv
  subst hv
  have hk:k<l.length:=(List.getElem?_eq_some_iff.1 hx).1
  have:=(h.hold k (by simpa using hk)).1
  simp only[Nat.zero_add,Nat.mul_one,Nat.add_zero]at this ⊢
  rw[this]
  simp[hk]
  exact(List.getElem?_eq_some_iff.1 hx).2
theorem RowI.kept {W W':World}{g:Nat}{l:List Int}{c:Nat}{r:Option Nat}(h:RowI W g l c)(hg:W.grownBy W' r)(hne:some g≠r):RowI W' g l c:=
 ⟨fun j hj=>⟨(World.cell?_of_block (a:=⟨g,0+j,none⟩) (hg.block g h.lt hne)).trans (h.hold j hj).1,(World.frozen?_of_block (a:=⟨g,0+j,none⟩) (hg.block g h.lt hne)).trans (h.hold j hj).2⟩,Nat.lt_of_lt_of_le h.lt hg.size,h.cap⟩
theorem compactI_a (W:World)(g c:Nat)(l:List Int)(h:RowI W g l c)(hn:l.length<=1000000):
  Calls Tryz.prog 135 #[.slice (some ⟨g,0,none⟩) l.length c] W fun e w'=>e=.returned (.slice (some ⟨g,0,none⟩) (Lib.compact l).length c)∧RowI w' g (Lib.compact l) c∧W.grownBy w' (some g):=by
 refine(Tryz.slices_Compact_int g 0 c l W h.hold (by omega) h.cap).mono ?_
 rintro e w' ⟨rfl,q,rfl⟩
 have hle:=Lib.compact_length_le l
 have hc:=h.cap
 have hH:=Sort.holds_putRow (Value.int .i64) (Sort.ahead W q) g 0 l.toArray (Lib.compact l++List.replicate (l.length-(Lib.compact l).length) 0).toArray (Sort.holds_ahead _ _ _ _ _ _ h.hold) (by simp;omega)
 refine⟨rfl,⟨fun j hj=> ?_,by simp[Sort.ahead];exact h.lt,by omega⟩,putRow_grown _ _ _ _ _⟩
 have hj':j<(Lib.compact l).length:=by simpa using hj
 have:=hH j (by simp;omega)
 refine⟨?_,this.2⟩
 rw[this.1]
 simp[getElem!_pos,hj',List.getElem?_append_left hj']
theorem sortI_a (W:World)(g c:Nat)(l:List Int)(h:RowI W g l c)(hn:l.length<=1000000):
  Calls Tryz.prog 134 #[.slice (some ⟨g,0,none⟩) l.length c] W fun e w'=>e=.returned (.tuple #[])∧RowI w' g (l.mergeSort fun x y=>decide (x<=y)) c∧W.grownBy w' (some g):=by
 refine(Any.slices_Sort_int Tryz.lays189 g 0 c l W h.hold h.lt (by omega)).mono ?_
 rintro e w' ⟨rfl,q,os,rfl⟩
 have hH:=Sort.holds_putRow (Value.int .i64) (Sort.ahead W q) g 0 l.toArray (l.mergeSort fun x y=>decide (x<=y)).toArray (Sort.holds_ahead _ _ _ _ _ _ h.hold) (by simp)
 refine⟨rfl,⟨Sort.holds_grow _ _ _ _ _ _ (by simp[Sort.ahead];exact h.lt) hH,?_,by have:=h.cap;simpa using this⟩,grow_grown (putRow_grown _ _ _ _ _) _⟩
 rw[Sort.size_grow,Sort.size_putRow]
 exact Nat.lt_of_lt_of_le h.lt (Nat.le_add_right _ _)
theorem zeroP_a (x:Int)(w:World):Calls Tryz.prog 133 #[.int .i64 x] w fun e w'=>e=.returned (.bool (x==0))∧w=w':=by
 go_enter Tryz.func133,Tryz.ntmps133
 go_wp2
 go_ret
 exact⟨rfl,rfl⟩
theorem delI_a (W:World)(g c:Nat)(l:List Int)(h:RowI W g l c)(hn:l.length<=1000000):
  Calls Tryz.prog 132 #[.slice (some ⟨g,0,none⟩) l.length c,.func (.func 133) #[] #[]] W fun e w'=>e=.returned (.slice (some ⟨g,0,none⟩) (l.filter fun p=> !(p==0)).length c)∧RowI w' g (l.filter fun p=> !(p==0)) c∧W.grownBy w' (some g):=by
 have hg: ∀W x,FnGives Tryz.prog 133 #[] #[Value.int .i64 x] (.bool (x==0)) W:=fun W x=>(zeroP_a x W).mono fun _ _ ⟨he,hw⟩=>⟨he,0,by rw[<-hw];rfl⟩
 have hc:=h.cap
 refine(AnyE.slices_DeleteFunc (dlI) (Value.int .i64) (fun _=>rfl) (fun x:Int=>x==0) 133 #[] (fun _ _=>by simp[go_sem]) 0 Tryz.zeroValue3 g 0 c l.toArray _ (fun W x _=>hg W x) (fun _ _ _ x _=>hg _ x) h.hold (by simp;omega) (by simpa using hc)).mono ?_
 rintro e w' ⟨rfl,q,rfl⟩
 have hle:=List.length_filter_le (fun x:Int=> !(x==0)) l
 simp only[List.size_toArray]
 generalize (l.filter fun x=> !(x==0))=L at hle ⊢
 have hH:=Sort.holds_putRow (Value.int .i64) (Sort.ahead W q) g 0 l.toArray (L++List.replicate (l.length-L.length) (0:Int)).toArray (Sort.holds_ahead _ _ _ _ _ _ h.hold) (by simp;omega)
 refine⟨trivial,⟨fun j hj=> ?_,by simp[Sort.ahead];exact h.lt,by omega⟩,putRow_grown _ _ _ _ _⟩
 have hj':j<L.length:=by simpa using hj
 have:=hH j (by simp;omega)
 refine⟨?_,this.2⟩
 rw[this.1]
 simp[getElem!_pos,hj',List.getElem?_append_left hj']
end Go.Proofs.YtgbpekeoegfjpaaGreatDoor
namespace Go.Proofs.YtgbpekeoegfjpaaGreatDoor
open Go.RowKit Go.Shelf
attribute [local go_sem] Oper.semAt_some
attribute [-go_sem] Builtin.append_
theorem Pl.spPts_len (l:List Pl.Sp):(Pl.spPts l).length=2*l.length:=by
 unfold Pl.spPts
 induction l with
 |nil=>rfl
 |cons x l ih=>rw[List.flatMap_cons,List.length_append,ih];simp;omega
structure CI (A1 A2 A3 A4:Option Addr)(c1 c2 c3 c4:Nat)(f:Pl.Fld)(c:Pl.Cal)(N:Nat)(w:World)(k:Nat)(W:World):Prop where
 below:Below w.heap.size w W
 lo:w.heap.size<=N
 sz:N+4<=W.heap.size
 own: ∃v,Boxed W N 62 v∧W.ownsRow (N+4) 3 1 v (2*k) ((Pl.spPts ((Pl.spans f c).take k)).flatMap encInt)
 box:W.heap[N+1]?=some (.cells (fcq A1 A2 A3 A4 c1 c2 c3 c4 f c) 128 (0,0))
section
variable {A1 A2 A3 A4 : Option Addr} {c1 c2 c3 c4 : Nat} {f : Pl.Fld} {c : Pl.Cal} {N : Nat} {w : World} {k : Nat} {W W' : World}
theorem CI.kept (h:CI A1 A2 A3 A4 c1 c2 c3 c4 f c N w k W)(hb:Below W.heap.size W W'):CI A1 A2 A3 A4 c1 c2 c3 c4 f c N w k W':=by
 obtain⟨h1,h0,h2,⟨v,hv,hr⟩,h4⟩:=h
 have hg:=grownBy_of_belowF hb
 exact⟨h1.trans (hb.mono h1.size),h0,Nat.le_trans h2 hb.size,⟨v,hv.kept hg (by simp),hr.kept hg (by cases v.ownBlock<;>simp)⟩,(hb.block _ (by omega)).trans h4⟩
theorem CI.putObj {l:Nat}{o:Obj}(o':Obj)(h:CI A1 A2 A3 A4 c1 c2 c3 c4 f c N w k W)(hl:W.heap[l]?=some o)(ho:o.isCells=false)(hle:N+1<l):CI A1 A2 A3 A4 c1 c2 c3 c4 f c N w k (W.putObj l o'):=by
 obtain⟨h1,h0,h2,⟨v,hv,hr⟩,h4⟩:=h
 have hg:=grownBy_putObj' W l o'
 exact⟨h1.grown hg h1.size (fun k e=>by cases e;omega),h0,by have:=hg.size;omega,⟨v,hv.kept hg (by simp;omega),ownsRow_putObj hr _ hl ho⟩,(World.putObj_heap_other (by omega)).trans h4⟩
end
theorem app_pt {n₀ k:Nat}{B:Nat}{w1:World}{v:Value}{l:List Int}(x:Pl.Sp)(hv:Boxed w1 B 62 v)(hr:w1.ownsRow n₀ 3 1 v k (l.flatMap encInt))(hk:k<=1000000)(hn:n₀<=w1.heap.size):
  ∃g' cap' w2,(Builtin.append_ #[62,62] 62 #[v,.slice (some ⟨w1.heap.size,0,none⟩) 2 2]).run Tryz.prog (w1.alloc (.cells (i2 (x.fr:Int) (x.till:Int)) 3))=.ok (.slice (some ⟨g',0,none⟩) (k+2) cap') w2∧
   w2.ownsRow n₀ 3 1 (.slice (some ⟨g',0,none⟩) (k+2) cap') (k+2) ((l++[(x.fr:Int),(x.till:Int)]).flatMap encInt)∧Boxed w2 B 62 v∧Below n₀ w1 w2:=by
 obtain⟨g',cap',w2,hrun,hown,hg,hat⟩:=own_app2 lay_int hr [(x.fr:Int),(x.till:Int)] 1 rfl (i2 (x.fr:Int) (x.till:Int)) (by simp[encInt]) (by unfold maxLen;omega) (by omega) hn
 exact⟨g',cap',w2,hrun,hown,hv.kept hg (hv.not_row (by decide) hr),(Below.refl n₀ w1).grown hg hn (fun j ej=>(hr.lt j ej).1)⟩
def AxC (A1 A2 A3 A4:Option Addr)(c1 c2 c3 c4:Nat)(f:Pl.Fld)(c:Pl.Cal)(N:Nat)(w:World)(x:Pl.Sp)(a':Act)(W:World):Prop:=
 ∃Bx,N+4<=Bx∧W.heap[Bx]?=some (.cells (i4 (x.fr:Int) (x.till:Int) x.lo x.hi) 170 (0,0))∧a'= {tmps:= #[.agg (fq A1 A2 A3 A4 c1 c2 c3 c4 f),.agg (kq c),.pointer (some ⟨w.heap.size,0,none⟩),.pointer (some ⟨w.heap.size+1,0,none⟩),.slice none 0 0,.int .i64 0,.int .i64 0,.pointer (some ⟨N,0,none⟩),.pointer (some ⟨Bx,0,none⟩),.agg (fq A1 A2 A3 A4 c1 c2 c3 c4 f),.agg (kq c),.int .i64 0,.int .i64 0,.bool false,undef,.agg (fq A1 A2 A3 A4 c1 c2 c3 c4 f),.agg (kq c),.agg (fcq A1 A2 A3 A4 c1 c2 c3 c4 f c),.func (.func 189) #[] #[.pointer (some ⟨N+1,0,none⟩)],.agg (i4 (x.fr:Int) (x.till:Int) x.lo x.hi),undef,undef,undef,undef,undef,undef,undef,undef,undef,undef,undef,undef,undef],defers:=[]}
theorem row_of_own {W:World}{n₀ n:Nat}{v:Value}{l:List Int}(h:W.ownsRow n₀ 3 1 v n (l.flatMap encInt))(h0:0<n): ∃g c,v=.slice (some ⟨g,0,none⟩) l.length c∧n₀<=g∧RowI W g l c:=by
 have hn:=own_count lay_int h
 rcases h.2 with ⟨_,h⟩|⟨g,cap,cur,rfl,hb,hg,hle,_,hcs,htk⟩
 ·omega
 ·refine⟨g,cap,by rw[<-hn],hb,fun j hj=> ?_,(lO hg),by omega⟩
  obtain⟨hc,hf⟩:=blk_cells hg
  have hj':j<l.length:=by simpa using hj
  refine⟨?_,hf _⟩
  rw[Nat.zero_add,hc,<-Array.getElem?_toList]
  have h1:(cur.toList.take (n*1))[j]?=cur.toList[j]?:=by rw[List.getElem?_take,if_pos (by omega)]
  rw[<-h1,htk]
  have h2:=flat_at encInt 1 (fun _=>rfl) (l:=l) (k:=j) (x:=l[j]) (List.getElem?_eq_getElem hj') (j:=0) (v:=.int .i64 l[j]) rfl
  simpa [hj',getElem!_pos]using h2
attribute [-go_sem] storeVar loadVar
attribute [local go_sem] lv_int lv_ints lv_bool lv_u8
theorem info_ints :(Tryz.prog.info? 62).map (·.size)=some 1:=by kernel_rfl
theorem info_span :(Tryz.prog.info? 170).map (·.size)=some 4:=by kernel_rfl
theorem sv_ints (g i:Nat)(A:Option Addr)(n c:Nat)(w:World):(storeVar 62 ⟨g,i,none⟩ (.slice A n c)).run Tryz.prog w=(store ⟨g,i,none⟩ (.slice A n c)).run Tryz.prog w:=by
 simp[storeVar,Sem.run_bind,size_of info_ints,Value.cells,storeCells,Addr.add]
theorem sv_span (g i:Nat)(a b l h:Int)(w:World):(storeVar 170 ⟨g,i,none⟩ (.agg (i4 a b l h))).run Tryz.prog w=
  (do store ⟨g,i,none⟩ (.int .i64 a);store ⟨g,i+1,none⟩ (.int .i64 b);store ⟨g,i+2,none⟩ (.int .i64 l);store ⟨g,i+3,none⟩ (.int .i64 h):Sem Unit).run Tryz.prog w:=by
 simp[storeVar,Sem.run_bind,size_of info_span,Value.cells,storeCells,Addr.add]
attribute [local go_sem] sv_ints sv_span
theorem spans_few {f:Pl.Fld}{c:Pl.Cal}{S L:Nat}(ht:c.tab S L)(hS:S<=12):1<=(Pl.spans f c).length∧(Pl.spans f c).length<=13:=by
 obtain⟨_,⟨f0,f1⟩,h⟩:=ht
 unfold Pl.spans
 split<;>rename_i hk2
 ·simp
 ·simp
 ·simp
 ·simp only[List.length_map,List.length_range];rcases h with h|h|h|h|h<;>omega
 ·simp
 ·exfalso;rcases h with h|h|h|h|h<;>(have:=h.1;simp_all)
set_option maxHeartbeats 4000000 in
theorem Concerns_ok (A1 A2 A3 A4:Option Addr)(c1 c2 c3 c4:Nat)(f:Pl.Fld)(c:Pl.Cal)(w:World)(hf:FldS w w.heap.size A1 A2 A3 A4 f)(hm:Small f)(hc:Caps c1 c2 c3 c4 f)(hk:c.kind<=255)(h0:Pl.checkCallE f c=0):
  Calls Tryz.prog 64 #[.agg (fq A1 A2 A3 A4 c1 c2 c3 c4 f),.agg (kq c)] w (EndIs (Pl.concP (Pl.spPts (Pl.spans f c))) 0 w):=by
 obtain⟨hok,ht⟩:=tab_of h0
 have HC:=Lib.hid h0
 have hlen:=spans_few (f:=f) ht hok.st12
 clear h0
 refine(callsIn_wide (n:=3)).1 ?_
 refine callsIn_of_wp_marks Tryz.func64 rfl trivial ?_ rfl
 simp only[Tryz.ntmps64,List.size_toArray,List.length_cons,List.length_nil,Nat.reduceAdd,Nat.reduceSub,Array.replicate_succ,Array.replicate_zero,List.push_toArray,List.append_toArray,List.nil_append,List.cons_append]
 have kf:=(heap_alloc_new w (.cells (fq A1 A2 A3 A4 c1 c2 c3 c4 f) 28))
 have kc:=(heap_alloc_new (w.alloc (.cells (fq A1 A2 A3 A4 c1 c2 c3 c4 f) 28)) (.cells (kq c) 48))
 rw[World.size_alloc]at kc
 have kf:=(Below.heap_alloc _ (.cells (kq c) 48) _ (lO kf)).trans kf
 have l01:=ld_row kf Tryz.underlying28 rfl info_fld
 have l02:=ld_row kc Tryz.underlying48 rfl info_cal
 have hall:Below w.heap.size w ((w.alloc (.cells (fq A1 A2 A3 A4 c1 c2 c3 c4 f) 28)).alloc (.cells (kq c) 48)):=((Below.refl _ w).alloc (Nat.le_refl _) _).alloc (by simp) _
 gi_wp2_with fail
 refine⟨trivial,?_⟩
 refine(callsIn_wide.2 (checkCall_h A1 A2 A3 A4 c1 c2 c3 c4 f c 0 _ HC (hf.up hall) hm hc hk)).mono ?_
 rintro e w1 ⟨rfl,hx⟩
 replace kf:=kE hx kf;replace kc:=kE hx kc;replace hall:Below w.heap.size w _:=hall.trans (hx.mono hall.size);(try clear l01 l02);have l01:=ld_row kf Tryz.underlying28 rfl info_fld;have l02:=ld_row kc Tryz.underlying48 rfl info_cal;(try clear hcf hff hcc hfc);obtain⟨hcf,hff⟩:=blk_cells kf;obtain⟨hcc,hfc⟩:=blk_cells kc;clear hx
 obtain⟨N,hN⟩: ∃N,w1.heap.size=N:=⟨_,rfl⟩
 have hwN:w.heap.size+2<=N:=by have:=(lO kc);omega
 have kf1:=(Below.heap_alloc w1 (.cells #[.slice none 0 0] 62) _ (lO kf)).trans kf
 have kc1:=(Below.heap_alloc w1 (.cells #[.slice none 0 0] 62) _ (lO kc)).trans kc
 have l03:=ld_row kf1 Tryz.underlying28 rfl info_fld
 have l04:=ld_row kc1 Tryz.underlying48 rfl info_cal
 gi_wp2_with fail
 refine⟨trivial,?_⟩
 refine(callsIn_wide.2 (spansF_a A1 A2 A3 A4 c1 c2 c3 c4 f c _)).mono ?_
 rintro e w' ⟨rfl,rfl⟩
 gi_wp2_with fail
 obtain⟨W0,hW0⟩: ∃W0,(w1.alloc (.cells #[.slice none 0 0] 62)).alloc (.cells (fcq A1 A2 A3 A4 c1 c2 c3 c4 f c) 128)=W0:=⟨_,rfl⟩
 have hs0:W0.heap.size=N+2:=by rw[<-hW0,<-hN];simp
 have hN0: ∀W,Below W0.heap.size W0 W->N+4<=W.heap.size->CI A1 A2 A3 A4 c1 c2 c3 c4 f c N w 0 W:=by
  intro W hb hs
  have e2:=hb.block N (by omega)
  have e3:=hb.block (N+1) (by omega)
  have hbw:Below w.heap.size w W:=by
   refine(show Below w.heap.size w W0 from ?_).trans (hb.mono (show w.heap.size<=W0.heap.size by omega))
   rw[<-hW0]
   exact(hall.alloc hall.size _).alloc (by simp;omega) _
  refine⟨hbw,by omega,hs,⟨_,e2.trans ?_,World.ownsRow_nil _ _ _ _⟩,e3.trans ?_⟩
  ·rw[<-hW0,<-hN];exact(Boxed.new w1 62 (.slice none 0 0)).alloc (.cells (fcq A1 A2 A3 A4 c1 c2 c3 c4 f c) 128)
  ·rw[<-hW0,<-hN];have:=World.alloc_heap_new (w1.alloc (.cells #[.slice none 0 0] 62)) (.cells (fcq A1 A2 A3 A4 c1 c2 c3 c4 f c) 128);simp only[World.size_alloc]at this;exact this
 rw[hW0]
 try simp only[World.size_alloc,hN]
 clear hW0 l01 l02 l03 l04 kf1 kc1 hcf hff hcc hfc
 refine wpIn_rangeFunc_st (F:=Fence.wide) (encs:=encSp) rfl (by omega) (gf:=189) (lb:= #[.pointer (some ⟨N+1,0,none⟩)]) (by simp[go_sem]) trivial (enters_of Tryz.func189 (by kernel_rfl) rfl) (fun _=>rfl)
  (fun k (_:Pl.Sp)=>k+1) 0 (Pl.spans f c).length (fun k x=>(Pl.spans f c)[k]?=some x) (CI A1 A2 A3 A4 c1 c2 c3 c4 f c N w) (AxC A1 A2 A3 A4 c1 c2 c3 c4 f c N w) ?put ?aput ?start ?seq ?assign ?body ?done
 case put=>
  intro s W r r' hl h
  exact h.putObj _ hl rfl (by omega)
 case aput=>
  rintro x a' W r r' hl ⟨Bx,hB,hb,rfl⟩
  exact⟨Bx,hB,(World.putObj_heap_other (by omega)).trans hb,rfl⟩
 case start=>
  intro r
  refine hN0 _ (((Below.refl _ W0).alloc (Nat.le_refl _) _).alloc (by simp) _) (by simp;omega)
 case seq=>
  rintro rec W1 hY hI hl hk'
  rw[hs0]at hY hl hk' ⊢
  have hJ:SpJ A1 A2 A3 A4 c1 c2 c3 c4 f c (N+1) (N+2+1) (3-1) w (fun k W=>CI A1 A2 A3 A4 c1 c2 c3 c4 f c N w k W∧W.heap[N+2+1]?=some (.loop rec)∧W.heap[N+2]?=some (.deferred (some []))):=
   ⟨fun k W h=>h.1.box,fun k W h=>h.1.below,fun k W W' h hb=>⟨h.1.kept hb,(hb.block _ (by have:=h.1.sz;omega)).trans h.2.1,(hb.block _ (by have:=h.1.sz;omega)).trans h.2.2⟩,fun k x W hx h=>hY k x W hx h.1 h.2.1 h.2.2⟩
  exact spans_a A1 A2 A3 A4 c1 c2 c3 c4 f c (N+1) (N+2+1) (3-1) w W1 _ hJ ⟨hI,hl,hk'⟩ ht (by have:=hok.li10;omega) (by have:=hok.st12;omega) hf hm.va hok.x
 case assign=>
  rintro s x W K rr hp hi hl hk' hK
  rw[hs0]at hl hk' hK ⊢
  unfold encSp
  gi_wp2
  exact hK _ _ (hi.kept ((Below.refl _ W).alloc (Nat.le_refl _) _)) ⟨W.heap.size,hi.sz,World.alloc_heap_new W _,rfl⟩ ((Below.heap_alloc _ _ _ (lO hl)).trans hl) ((Below.heap_alloc _ _ _ (lO hk')).trans hk')
 case body=>
  rintro k x a' W rr hp hi ⟨Bx,hB,hb,rfl⟩ hl hk'
  rw[hs0]at hl hk' ⊢
  have hkl:k<(Pl.spans f c).length:=(List.getElem?_eq_some_iff.1 hp).1
  obtain⟨v,hv,hr⟩:=hi.own
  have hc:=hv.cell
  have hf1:=hv.frozen
  have b0:W.cell? ⟨Bx,0,none⟩=some (.int .i64 (x.fr:Int)):=by simp[World.cell?,hb]
  have b1:W.cell? ⟨Bx,1,none⟩=some (.int .i64 (x.till:Int)):=by simp[World.cell?,hb]
  obtain⟨g',cap',w2,hrun,hown2,hv2,hb2⟩:=app_pt x hv hr (by omega) hi.sz
  have hc2:=hv2.cell
  have hf2:=hv2.frozen
  gi_wp2
  have hsz:=hi.sz
  have key: ∀j,j<N+4->j≠N->(w2.setCell ⟨N,0,none⟩ (.slice (some ⟨g',0,none⟩) (2*k+2) cap')).heap[j]?=W.heap[j]?:=fun j hj hne=>
   (Below.heap_setCell _ _ _ _ hne).trans (hb2.block j hj)
  have hgs:=grownBy_setCell' w2 N (.slice (some ⟨g',0,none⟩) (2*k+2) cap')
  refine⟨⟨hi.below.trans ((hb2.mono (show w.heap.size<=N+4 by omega)).setCell (p:=⟨N,0,none⟩) (by show w.heap.size<=N;omega) _),hi.lo,by have:=hb2.size;have:=hgs.size;omega,⟨_,hv2.set _,?_⟩,(key _ (by omega) (by omega)).trans hi.box⟩,(key _ (by omega) (by omega)).trans hl,(key _ (by omega) (by omega)).trans hk'⟩
  rw[take_succ' hp,show 2*(k+1)=2*k+2 by omega]
  have:=hown2.kept hgs (.inr (hv2.not_row (by decide) hown2).symm)
  simpa [Pl.spPts]using this
 case done=>
  rintro W hi hk'
  rw[hs0]at hk'
  obtain⟨v,hv,hr⟩:=hi.own
  rw[List.take_length]at hr
  obtain⟨g,cp,rfl,hgN,hrow⟩:=row_of_own hr (by omega)
  have hpl:(Pl.spPts (Pl.spans f c)).length<=1000:=by rw[Pl.spPts_len];omega
  have hc:=hv.cell
  have hf1:=hv.frozen
  have hbel:=hi.below
  clear hr hi hf hm hc hok ht HC
  have hc:=hv.cell
  generalize Pl.spPts (Pl.spans f c)=l at*
  gi_wp2_with fail
  refine⟨trivial,?_⟩
  refine(callsIn_wide.2 (delI_a W g cp l hrow (by omega))).mono ?_
  rintro e W1 ⟨rfl,hr1,hg1⟩
  have hl1:=List.length_filter_le (fun p:Int=> !(p==0)) l
  have HP:Hid (Pl.concP l=Lib.compact ((l.filter fun p=> !(p==0)).mergeSort fun x y=>decide (x<=y))):=Lib.hid rfl
  generalize (l.filter fun p=> !(p==0))=l1 at*
  have hv1:=hv.kept hg1 (by simp;omega)
  have hc1:=hv1.cell
  have hf1':=hv1.frozen
  have hk1:=(hg1.block (N+2) (lO hk') (by simp;omega)).trans hk'
  have hb1:=hbel.grown hg1 hbel.size (fun j e=>by cases e;omega)
  have hgs:=grownBy_setCell' W1 N (.slice (some ⟨g,0,none⟩) l1.length cp)
  have hr2:=hr1.kept hgs (by simp;omega)
  have hv2:=hv1.set (.slice (some ⟨g,0,none⟩) l1.length cp)
  have hk2:=(hgs.block (N+2) (lO hk1) (by simp)).trans hk1
  have hb2:=hb1.grown hgs hb1.size (fun j e=>by cases e;omega)
  have hc2:=hv2.cell
  gi_wp2_with fail
  refine⟨trivial,?_⟩
  refine(callsIn_wide.2 (sortI_a _ g cp l1 hr2 (by omega))).mono ?_
  rintro e W3 ⟨rfl,hr3,hg3⟩
  have hl3:(l1.mergeSort fun x y=>decide (x<=y)).length=l1.length:=List.length_mergeSort _
  generalize (l1.mergeSort fun x y=>decide (x<=y))=l3 at*
  have hv3:=hv2.kept hg3 (by simp;omega)
  have hc3:=hv3.cell
  have hk3:=(hg3.block (N+2) (lO hk2) (by simp;omega)).trans hk2
  have hb3:=hb2.grown hg3 hb2.size (fun j e=>by cases e;omega)
  rw[<-hl3]at hc3
  have h3n:l3.length<=1000000:=by omega
  replace hl3:=Lib.hid hl3
  gi_wp2_with fail
  refine⟨trivial,?_⟩
  refine(callsIn_wide.2 (compactI_a _ g cp l3 hr3 h3n)).mono ?_
  rintro e W4 ⟨rfl,hr4,hg4⟩
  have hk4:=(hg4.block (N+2) (lO hk3) (by simp;omega)).trans hk3
  have hb4:=hb3.grown hg4 hb3.size (fun j e=>by cases e;omega)
  gi_wp2
  refine⟨by simp,.inl ⟨_,_,rfl,run_takeDeferred hk4,?_⟩⟩
  have hr5:=hr4.kept (grownBy_putObj' W4 (N+2) (.deferred none)) (by simp;omega)
  refine⟨_,results_tmp2 rfl _ _ _,?_⟩
  rw[HP.out]
  exact⟨some ⟨g,0,none⟩,cp,rfl,hr5.ints,hr5.cap,hb4.grown (grownBy_putObj' W4 (N+2) (.deferred none)) hb4.size (fun j e=>by cases e;omega)⟩
set_option maxHeartbeats 2000000 in
theorem Concerns_no (A1 A2 A3 A4:Option Addr)(c1 c2 c3 c4:Nat)(f:Pl.Fld)(c:Pl.Cal)(E:Int)(w:World)(hf:FldS w w.heap.size A1 A2 A3 A4 f)(hm:Small f)(hc:Caps c1 c2 c3 c4 f)(hk:c.kind<=255)(HE:Hid (Pl.checkCallE f c=E))(h0:E≠0):
  Calls Tryz.prog 64 #[.agg (fq A1 A2 A3 A4 c1 c2 c3 c4 f),.agg (kq c)] w (EndIs [] E w):=by
 have q0:(E !=0)=true:=by simpa using h0
 have kf:=(heap_alloc_new w (.cells (fq A1 A2 A3 A4 c1 c2 c3 c4 f) 28))
 have kc:=(heap_alloc_new (w.alloc (.cells (fq A1 A2 A3 A4 c1 c2 c3 c4 f) 28)) (.cells (kq c) 48))
 rw[World.size_alloc]at kc
 have kf:=(Below.heap_alloc _ (.cells (kq c) 48) _ (lO kf)).trans kf
 have l01:=ld_row kf Tryz.underlying28 rfl info_fld
 have l02:=ld_row kc Tryz.underlying48 rfl info_cal
 have hall:Below w.heap.size w ((w.alloc (.cells (fq A1 A2 A3 A4 c1 c2 c3 c4 f) 28)).alloc (.cells (kq c) 48)):=((Below.refl _ w).alloc (Nat.le_refl _) _).alloc (by simp) _
 go_enter Tryz.func64,Tryz.ntmps64
 go_wp2_with fail
 refine(checkCall_h A1 A2 A3 A4 c1 c2 c3 c4 f c E _ HE (hf.up hall) hm hc hk).mono ?_
 rintro e w1 ⟨rfl,hx⟩
 replace kf:=kE hx kf;replace kc:=kE hx kc;replace hall:Below w.heap.size w _:=hall.trans (hx.mono hall.size);(try clear l01 l02);have l01:=ld_row kf Tryz.underlying28 rfl info_fld;have l02:=ld_row kc Tryz.underlying48 rfl info_cal;(try clear hcf hff hcc hfc);obtain⟨hcf,hff⟩:=blk_cells kf;obtain⟨hcc,hfc⟩:=blk_cells kc;clear hx
 go_wp2_with fail
 go_ret2
 exact⟨none,0,rfl,.inl rfl,Nat.le_refl _,hall⟩
end Go.Proofs.YtgbpekeoegfjpaaGreatDoor
