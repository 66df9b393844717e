/- Part U16 of the proof: Fl It As. -/
import Derived.Test.YtcffonnijhhhiaaGreatDoorProg
import Derived.WalkKit
import Derived.WalkLawsBesides
import Derived.WalkSpells
import Derived.Handy
import Derived.Lib.Hide
import Derived.Great.BuildSlice
import Derived.Deep.QuietTactic
import Derived.BigQuiet
import Derived.Deep.RegionHeld3
import Derived.Deep.DeepCutAuto
import Derived.RangeFuncSeq
import Derived.Sort.MapsRangeIn
import Derived.Shelf.Abstract
import Derived.Shelf.RegionOpen
import Derived.OwnWalkIn
import Derived.TacticsInMore
import Derived.LoopNIn
import Derived.LoopIn
import Derived.Test.YtcffonnijhhhiaaGreatDoorU15
import Derived.Test.YtcffonnijhhhiaaGreatDoorU00
set_option linter.all false
set_option linter.unusedSimpArgs false
set_option linter.unusedVariables false
set_option linter.unusedSectionVars false
namespace Go.Proofs.YtcffonnijhhhiaaGreatDoor
open Go Go.RowKit Go.Maps Mp
section
variable {α : Type} {enc : α → List Value} {ST ET : TypeId} {z : Value} {size bytes : Nat}
theorem seg_flat (hsz: ∀x,(enc x).length=size)(h0:0<size){w:World}{B b off:Nat}{l:List α}(h:Seg enc size w B (some ⟨b,off,none⟩) l){j:Nat}{u:Value}(hj:(l.flatMap enc)[j]?=some u):w.cell? ⟨b,off+j,none⟩=some u:=by
 rcases h with h|⟨b',off',hA,hbb,hc⟩
 ·subst h;simp at hj
 ·cases hA
  have hjl:j<l.length*size:=by rw[←flat_len enc size hsz l];exact(List.getElem?_eq_some_iff.1 hj).1
  have hk:j/size<l.length:=Nat.div_lt_of_lt_mul (by rw[Nat.mul_comm];exact hjl)
  have hlt:j%size<size:=Nat.mod_lt _ h0
  have hx:(enc l[j/size])[j%size]?=some ((enc l[j/size])[j%size]'(by rw[hsz];exact hlt)):=List.getElem?_eq_getElem _
  have hv:=flat_at enc size hsz (List.getElem?_eq_getElem hk) hx
  rw[show j/size*size+j%size=j by rw[Nat.mul_comm];exact Nat.div_add_mod j size,hj]at hv
  have:=hc (j/size) l[j/size] (List.getElem?_eq_getElem hk) (j%size) u (hx.trans hv.symm)
  rwa[show off+j/size*size+j%size=off+j by have:=Nat.div_add_mod j size;rw[Nat.mul_comm]at this;omega]at this
theorem gscs (b:Nat): ∀(vs:List Value) (o:Nat) (w:World),w.grownBy (w.setCells b o vs) (some b)∧(w.setCells b o vs).heap.size=w.heap.size
 | [],_,w=>⟨⟨rfl,rfl,rfl,Nat.le_refl _,fun _ _ _=>rfl⟩,rfl⟩
 |v::r,o,w=>by
  rw[World.setCells]
  obtain⟨h1,h2⟩:=gscs b r (o+1) (w.setCell ⟨b,o,none⟩ v)
  exact⟨(gsc w ⟨b,o,none⟩ v).trans h1,by rw[h2];simp⟩
theorem hscs {b:Nat}{t:TypeId}: ∀(vs:List Value) (o:Nat) (w:World),(∃cs,w.heap[b]?=some (.cells cs t (0,0)))→ ∃cs,(w.setCells b o vs).heap[b]?=some (.cells cs t (0,0))
 | [],_,_,h=>h
 |v::r,o,w,⟨cs,h⟩=>by
  rw[World.setCells]
  exact hscs r (o+1) _ ⟨_,hsc v h⟩
theorem seg_there (hsz: ∀x,(enc x).length=size)(h0:0<size){w:World}{B g off i n:Nat}{t:TypeId}{l:List α}(h:Seg enc size w B (some ⟨g,off,none⟩) l)(hb: ∃cs,w.heap[g]?=some (.cells cs t (0,0)))(hn:i*size+n≤l.length*size):
  w.there g (off+i*size) n:=by
 intro j hj
 obtain⟨cs,hb⟩:=hb
 have hlt:i*size+j<(l.flatMap enc).length:=by rw[flat_len enc size hsz];omega
 rw[Nat.add_assoc,seg_flat hsz h0 h (List.getElem?_eq_getElem hlt)]
 exact⟨rfl,(blk_cells hb).2 _⟩
theorem seg_set (hsz: ∀x,(enc x).length=size)(h0:0<size){w:World}{B g off i:Nat}{t:TypeId}{l:List α}(h:Seg enc size w B (some ⟨g,off,none⟩) l)(hb: ∃cs,w.heap[g]?=some (.cells cs t (0,0)))(hi:i<l.length)(x:α):
  Seg enc size (w.setCells g (off+i*size) (enc x)) B (some ⟨g,off,none⟩) (l.set i x):=by
 have hth:w.there g (off+i*size) (enc x).length:=by
  rw[hsz]
  refine seg_there hsz h0 h hb ?_
  have:=Nat.mul_le_mul_right size (show i+1≤l.length from hi)
  rw[Nat.add_mul,Nat.one_mul]at this
  exact this
 rcases h with h|⟨b,o,hA,hbb,hc⟩
 ·subst h;simp at hi
 cases hA
 refine .inr ⟨g,off,rfl,hbb,fun k y hk j v hv=> ?_⟩
 have hj:j<size:=by rw[←hsz y];exact(List.getElem?_eq_some_iff.1 hv).1
 by_cases e:k=i
 ·subst e
  rw[List.getElem?_set_self hi]at hk
  cases hk
  exact World.rangeAt_setCells_same _ _ _ _ hth j v hv
 ·rw[List.getElem?_set_ne (fun e'=>e e'.symm)]at hk
  rw[World.cell?_setCells_out g (enc x) _ w _ (fun _ _=> ?_)]
  ·exact hc k y hk j v hv
  ·rw[hsz]
   rcases Nat.lt_or_gt_of_ne e with e|e
   ·have:=Nat.mul_le_mul_right size (show k+1≤i from e)
    rw[Nat.add_mul,Nat.one_mul]at this
    left
    show off+k*size+j<off+i*size
    omega
   ·have:=Nat.mul_le_mul_right size (show i+1≤k from e)
    rw[Nat.add_mul,Nat.one_mul]at this
    right
    show off+i*size+size≤off+k*size+j
    omega
theorem clear_law (L:Lay enc ST ET z size bytes)(hv: ∀w,(zeroValue ET).run Tryz.prog w=.ok z w)(hz1: ∀v∈z.cells.toList,v.oneCell'=true){w:World}{B g off i n c:Nat}{t:TypeId}{l:List α}(h:Seg enc size w B (some ⟨g,off,none⟩) l)(hb: ∃cs,w.heap[g]?=some (.cells cs t (0,0)))
  (hn:0<n) (hi:i+n=l.length):
  ∃w',(∀ty,(Builtin.clear_ #[ST] ty #[.slice (some ⟨g,off+i*size,none⟩) n c]).run Tryz.prog w=.ok (.tuple #[]) w')∧w.grownBy w' (some g)∧(∃cs,w'.heap[g]?=some (.cells cs t (0,0)))∧Seg enc size w' B (some ⟨g,off,none⟩) (l.take i):=by
 have hlen:(Builtin.zeroCells z.cells n).toList.length=n*size:=by simp[Builtin.zeroCells,L.hz]
 have hs:=L.hs
 have hle:i*size+n*size≤l.length*size:=by rw[←Nat.add_mul,hi];exact Nat.le_refl _
 have hth:=seg_there (i:=i) (n:=n*size) L.henc L.hs h hb hle
 have hone: ∀v∈(Builtin.zeroCells z.cells n).toList,v.oneCell'=true:=by
  intro v hv
  simp only[Builtin.zeroCells,Array.toList_map,List.mem_map]at hv
  obtain⟨j,_,rfl⟩:=hv
  have hj:j%z.cells.size<z.cells.size:=Nat.mod_lt _ (by rw[L.hz];exact hs)
  rw[getElem!_pos z.cells _ hj]
  exact hz1 _ (by simp)
 have hst:=run_storeCells_cells (P:=Tryz.prog) g (off+i*size) (Builtin.zeroCells z.cells n).toList 0 w (fun j hj=>by rw[hlen]at hj;exact(hth j hj).1) (fun j hj=>by rw[hlen]at hj;exact(hth j hj).2) hone
 rw[Nat.add_zero]at hst
 obtain⟨m,rfl⟩: ∃m,n=m+1:=⟨n-1,by omega⟩
 refine⟨w.setCells g (off+i*size) (Builtin.zeroCells z.cells (m+1)).toList,fun ty=>by simp[Builtin.clear_,run_underlying L.ht,hv,hst],(gscs _ _ _ _).1,hscs _ _ _ hb,?_⟩
 rcases h with h|⟨b,o,hA,hbb,hc⟩
 ·subst h;simp at hi
 cases hA
 refine .inr ⟨g,off,rfl,hbb,fun k y hk j v hv=> ?_⟩
 rw[List.getElem?_take]at hk
 split at hk
 ·rename_i hki
  have hj:j<size:=by rw[←L.henc y];exact(List.getElem?_eq_some_iff.1 hv).1
  rw[World.cell?_setCells_out g _ _ w _ (fun _ _=> ?_)]
  ·exact hc k y hk j v hv
  ·have:=Nat.mul_le_mul_right size (show k+1≤i from hki)
   rw[Nat.add_mul,Nat.one_mul]at this
   left
   show off+k*size+j<off+i*size
   omega
 ·cases hk
end
theorem idx_no {α:Type}{p:α→Bool}{l:List α}(h:Rt.idx p l=none): ∀x∈l,p x=false:=by
 intro x hx
 have h1:=Rt.idx_any p l
 rw[h]at h1
 cases hp:p x with
 |false=>rfl
 |true=>rw[List.any_eq_true.2 ⟨x,hx,hp⟩]at h1;cases h1
theorem idx_some {α:Type}{p:α→Bool}{l:List α}{k:Nat}(h:Rt.idx p l=some k): ∃hk:k<l.length,p l[k]=true∧ ∀j (_:j<l.length),j<k→p l[j]=false:=by
 induction l generalizing k with
 |nil=>cases h
 |cons a l ih=>
  unfold Rt.idx at h
  split at h
  ·cases h
   exact⟨by simp,by assumption,fun j _ hj=>by omega⟩
  ·obtain⟨m,hm,rfl⟩:=Option.map_eq_some_iff.1 h
   obtain⟨h1,h2,h3⟩:=ih hm
   refine⟨by simp;omega,by simpa using h2,fun j hj hjm=> ?_⟩
   cases j with
   |zero=>simp_all
   |succ j=>simpa using h3 j (by simp at hj;omega) (by omega)
structure Kept {α:Type}(p:α→Bool)(L:List α)(i j:Nat)(M:List α):Prop where
 len:M.length=L.length
 lt:i<j
 le:j≤L.length
 low:M.take i=(L.take j).filter fun x=> !p x
 high:M.drop j=L.drop j
theorem Kept.start {α:Type}{p:α→Bool}{L:List α}{k:Nat}(hk:k<L.length)(h1:p L[k]=true)(h2: ∀j (h:j<L.length),j<k→p L[j]=false):Kept p L k (k+1) L:=by
 refine⟨rfl,by omega,by omega,?_,rfl⟩
 rw[List.take_succ_eq_append_getElem hk,List.filter_append,List.filter_eq_self.2 (fun x hx=> ?_)]
 ·simp[h1]
 ·obtain⟨j,hj,rfl⟩:=List.mem_iff_getElem.1 hx
  rw[List.length_take]at hj
  rw[List.getElem_take,h2 j (by omega) (by omega)]
  rfl
theorem Kept.at_ {α:Type}{p:α→Bool}{L M:List α}{i j:Nat}(h:Kept p L i j M)(hj:j<L.length): ∃hm,M[j]'hm=L[j]:=by
 have hj':j<M.length:=by rw[h.len];exact hj
 refine⟨hj',?_⟩
 have h1:(M.drop j)[0]?=(L.drop j)[0]?:=by rw[h.high]
 simpa [hj,hj']using h1
theorem Kept.skip {α:Type}{p:α→Bool}{L M:List α}{i j:Nat}(h:Kept p L i j M)(hj:j<L.length)(hp:p L[j]=true):Kept p L i (j+1) M:=by
 refine⟨h.len,by have:=h.lt;omega,hj,?_,?_⟩
 ·rw[List.take_succ_eq_append_getElem hj,List.filter_append,h.low]
  simp[hp]
 ·rw[←List.drop_drop,h.high,List.drop_drop]
theorem Kept.keep {α:Type}{p:α→Bool}{L M:List α}{i j:Nat}(h:Kept p L i j M)(hj:j<L.length)(hp:p L[j]=false):Kept p L (i+1) (j+1) (M.set i L[j]):=by
 have hl:=h.lt
 have hn:=h.len
 refine⟨by rw[List.length_set,hn],by omega,hj,?_,?_⟩
 ·rw[List.take_succ_eq_append_getElem (by rw[List.length_set];omega),List.getElem_set_self,List.take_set_of_le (Nat.le_refl _),h.low,List.take_succ_eq_append_getElem hj,List.filter_append]
  simp[hp]
 ·rw[List.drop_set_of_lt (by omega),←List.drop_drop,h.high,List.drop_drop]
theorem Kept.done {α:Type}{p:α→Bool}{L M:List α}{i:Nat}(h:Kept p L i L.length M):M.take i=L.filter (fun x=> !p x)∧(L.filter fun x=> !p x).length=i:=by
 have h1:=h.low
 rw[List.take_length]at h1
 refine⟨h1,?_⟩
 rw[←h1,List.length_take,h.len]
 have:=h.lt
 omega
end Go.Proofs.YtcffonnijhhhiaaGreatDoor
namespace Go.Proofs.Mp
open Go Go.Maps
section
variable {P : Program} {F : Fence} {n : Nat} {K : Type} [DecidableEq K] {kt e : TypeId} {ek : K → Value} {ok : K → Prop} {b r : Nat} {f : K → Option Value} {ops : Array Oper} {rest : List Oper} {o : Oper} {a : Act} {Q : Exit → Act → World → Prop}
theorem wpListIn_range_fm (w:World)(hg:o.guard=none)(m:Operand)(t:TypeId)(hop:o.op=Op.range t m)(T:Kt P kt ek ok)(ht:P.underlying t=some (.map kt e))(hm:a.eval m=.map (some b))(h:FM ek ok w b f)
  (hK: ∀w' n',RG ek ok w' b w.heap.size f (fun k=>(f k).isSome) n'→w.grownBy w' none→w'.heap.size=w.heap.size+1→wpListIn F n P ops Q rest (a.put o.dst (.pointer (some ⟨w.heap.size,0,none⟩))) w'):wpListIn F n P ops Q (o::rest) a w:=by
 refine wpListIn_plain hg fun K' hK'=> ?_
 obtain⟨w',n',hrun,r1,r2,r3⟩:=h.range T.inj ht
 unfold Oper.wpIn
 refine⟨by simp[Oper.about,hop],?_⟩
 rw[Oper.semAt_plain F _ _ (by rw[hop];intro c hc';cases hc')]
 simp[execOp,hop,hm,hrun,Result.andThen]
 exact hK' _ _ (hK w' n' r1 r2 r3)
theorem wpListIn_next_rg {V:Type}(w:World)(hg:o.guard=none)(it:Operand)(hop:o.op=Op.next it false)(T:Kt P kt ek ok)(ev:V→Value)(g:K→Option V)(hfg: ∀k,f k=(g k).map ev)(left:K→Bool)(m:Nat)
  (hit:a.eval it=.pointer (some ⟨r,0,none⟩)) (h:RG ek ok w b r f left m)
  (hDone:(∀k,left k=false)→wpListIn F n P ops Q rest (a.put o.dst (.tuple #[.bool false])) w)
  (hMore: ∀k v w' n',ok k→left k=true→g k=some v→RG ek ok w' b r f (fun j=>left j&& !decide (j=k)) n'→n'<m→w.grownBy w' (some r)→w'.heap.size=w.heap.size→
   (Instr.entry (.pointer (some ⟨r,0,none⟩))).run P w'=.ok (.tuple #[ek k,ev v]) w'→wpListIn F n P ops Q rest (a.put o.dst (.tuple #[.bool true,ek k,ev v])) w'):wpListIn F n P ops Q (o::rest) a w:=by
 refine wpListIn_plain hg fun K' hK'=> ?_
 unfold Oper.wpIn
 refine⟨by simp[Oper.about,hop],?_⟩
 rw[Oper.semAt_plain F _ _ (by rw[hop];intro c hc';cases hc')]
 rcases h.next (P:=P) T.inj o.type with ⟨hl,hrun⟩|⟨k,v,w',n',h1,h2,h3,hrun,h4,h5,h6,h7,h8⟩
 ·simp[execOp,hop,hit,hrun,Result.andThen]
  exact hK' _ _ (hDone hl)
 ·rw[hfg]at h3
  obtain⟨u,hu,rfl⟩:=Option.map_eq_some_iff.1 h3
  simp[execOp,hop,hit,hrun,Result.andThen]
  exact hK' _ _ (hMore k u w' n' h1 h2 hu h4 h5 h6 h7 h8)
end
end Go.Proofs.Mp
namespace Go.Proofs.YtcffonnijhhhiaaGreatDoor
open Go Go.RowKit Go.Maps Mp
abbrev Fix :=Nat→Option Obj
structure Rounds {α:Type}(B:Nat)(J:List α→Fix→World→Prop):Prop where
 grow: ∀s φ W W' row,J s φ W→W.grownBy W' row→(∀r,row=some r→B≤r∧ ∃o:Obj,W.heap[r]?=some o∧o.isWalk=true)→J s (fun _=>none) W'
 set: ∀s φ W φ',J s φ W→(∀i o,φ' i=some o→o.isWalk=true∧W.heap[i]?=some o)→J s φ' W
 get: ∀s φ W i o,J s φ W→φ i=some o→W.heap[i]?=some o
def Gives {α:Type}(gf:FuncId)(lb:Array Value)(enc:α→Value)(Pre Dn:List α→Prop)(w:World):Prop:=
 ∀(n L:Nat) (J:List α→Fix→World→Prop) (W:World),1≤n→Below w.heap.size w W→Rounds W.heap.size J→J [] (fun _=>none) W→
  (∀s φ x V,J s φ V→Pre (s++[x])→YieldAt Fence.wide (n-1) Tryz.prog L #[enc x] V fun e V'=>e=.returned (.bool true)∧J (s++[x]) φ V')→
  CallsIn Fence.wide n Tryz.prog gf (#[.func (.yield L) #[] #[]]++lb) W fun e W'=>(∃v,e=.returned v)∧ ∃s,Dn s∧J s (fun _=>none) W'
section
variable {α : Type} {enc : α → List Value} {ST ET : TypeId} {z : Value} {size bytes : Nat}
theorem own_push (L:Lay enc ST ET z size bytes){n₀:Nat}{w1:World}{v:Value}{l:List α}(hr:w1.ownsRow n₀ ET size v l.length (l.flatMap enc))(x:α)(cs:Array Value)(hcs:cs.toList=enc x)
  (hm:l.length+1≤3000000000000) (hb:bytes≤40) (hn:n₀≤w1.heap.size):
  ∃g' cap' w2,(Builtin.append_ #[ST,ST] ST #[v,.slice (some ⟨w1.heap.size,0,none⟩) 1 1]).run Tryz.prog (w1.alloc (.cells cs ET))=.ok (.slice (some ⟨g',0,none⟩) (l++[x]).length cap') w2∧
   w2.ownsRow n₀ ET size (.slice (some ⟨g',0,none⟩) (l++[x]).length cap') (l++[x]).length ((l++[x]).flatMap enc)∧Below n₀ w1 w2∧ ∀(i:Nat) (o:Obj),w1.heap[i]?=some o→o.isWalk=true→w2.heap[i]?=some o:=by
 obtain⟨i0,hi0,hz0,hz1,hz2⟩:=info_parts L.hi
 have hcell: ∀j u,(enc x)[j]?=some u→(w1.alloc (.cells cs ET)).cell? ((⟨w1.heap.size,0,none⟩:Addr).add j)=some u:=by
  intro j u hj
  rw[Go.WideShapes.add_plain,Nat.zero_add,(blk_cells (World.alloc_heap_new w1 (.cells cs ET))).1,←Array.getElem?_toList,hcs]
  exact hj
 obtain⟨v',w2,hrun,hown,hgrow,hn2⟩:=run_append_own (P:=Tryz.prog) (w:=w1.alloc (.cells cs ET)) n₀ ST ST ET i0 _ size bytes L.ht hi0 hz0 hz1 hz2 L.hz L.hs v l.length (l.flatMap enc) (hr.alloc _) ⟨w1.heap.size,0,none⟩ 1 1 (enc x)
  (by rw[L.henc,Nat.one_mul]) hcell (L.hone x) (by unfold maxLen;omega) (Nat.le_trans (Nat.mul_le_mul hm hb) (by decide)) (by simp only[World.size_alloc];omega)
 rw[show(l.flatMap enc)++enc x=(l++[x]).flatMap enc by simp,show l.length+1=(l++[x]).length by simp]at hown
 obtain⟨g',cap',rfl⟩:=ownsRow_succ (k:=l.length) (by rw[List.length_append]at hown;exact hown)
 have e1:(l++[x]).length=l.length+1:=by simp
 rw[←e1]at hrun hown
 refine⟨g',cap',w2,hrun,hown,?_,fun i o ho hw=> ?_⟩
 ·refine(((Below.refl n₀ w1).alloc hn _).grown hgrow (by simp only[World.size_alloc];omega) fun j ej=> ?_)
  exact((hr.alloc (.cells cs ET)).lt j ej).1
 ·have hlt:=(Array.getElem?_eq_some_iff.1 ho).1
  refine(hgrow.block i (by simp only[World.size_alloc];omega) ?_).trans ((Below.heap_alloc _ _ i hlt).trans ho)
  rcases hr.2 with ⟨h2,_⟩|⟨g,cap,cur,h2,_,hg,_⟩
  ·rw[h2];simp[Value.ownBlock]
  ·rw[h2]
   intro e
   simp[Value.ownBlock]at e
   rw[e,hg]at ho
   cases ho
   cases hw
def AJ (enc:α→List Value)(ST ET:TypeId)(size:Nat)(w:World)(s:List α×Fix)(W:World):Prop:=
 (∃v,W.heap[w.heap.size]?=some (.cells #[v] ST (0,0))∧W.ownsRow (w.heap.size+3) ET size v s.1.length (s.1.flatMap enc))∧Below w.heap.size w W∧ ∀(i:Nat) (o:Obj),s.2 i=some o→o.isWalk=true∧W.heap[i]?=some o
theorem AJ.grow {w W W':World}{s:List α}{φ:Fix}{row:Option Nat}(h:AJ enc ST ET size w (s,φ) W)(hg:W.grownBy W' row)(hr: ∀r,row=some r→w.heap.size≤r∧ ∃o:Obj,W.heap[r]?=some o∧o.isWalk=true):AJ enc ST ET size w (s,fun _=>none) W':=by
 obtain⟨⟨v,h1,h2⟩,h3,_⟩:=h
 have key: ∀k o,W.heap[k]?=some o→o.isWalk=false→some k≠row:=fun k o ho hf e=>by
  obtain⟨_,o',h5,h6⟩:=hr k e.symm
  rw[ho]at h5
  cases h5
  rw[hf]at h6
  cases h6
 refine⟨⟨v,(hg.block _ (Array.getElem?_eq_some_iff.1 h1).1 (key _ _ h1 rfl)).trans h1,h2.kept hg ?_⟩,h3.grown hg h3.size (fun k e=>(hr k e).1),fun i o e=>by cases e⟩
 rcases h2.2 with ⟨h4,_⟩|⟨g,cap,cur,h4,_,hgb,_⟩
 ·rw[h4];exact .inl rfl
 ·rw[h4]
  right
  exact fun e=>key g _ hgb rfl (show some g=row from e)
theorem AJ.alloc {w W:World}{s:List α×Fix}(h:AJ enc ST ET size w s W)(o:Obj):AJ enc ST ET size w s (W.alloc o):=by
 obtain⟨⟨v,h1,h2⟩,h3,h4⟩:=h
 exact⟨⟨v,(Below.heap_alloc _ _ _ (Array.getElem?_eq_some_iff.1 h1).1).trans h1,h2.alloc _⟩,h3.alloc h3.size _,fun i o e=>⟨(h4 i o e).1,(Below.heap_alloc _ _ _ (Array.getElem?_eq_some_iff.1 (h4 i o e).2).1).trans (h4 i o e).2⟩⟩
theorem AJ.put {w W:World}{s:List α×Fix}{r:Loop}(h:AJ enc ST ET size w s W)(hl:W.heap[w.heap.size+2]?=some (.loop r))(r':Loop):AJ enc ST ET size w s (W.putObj (w.heap.size+2) (.loop r')):=by
 obtain⟨⟨v,h1,h2⟩,h3,h4⟩:=h
 have hg:=grownBy_putObj' W (w.heap.size+2) (.loop r')
 refine⟨⟨v,(World.putObj_heap_other (by omega)).trans h1,h2.kept hg ?_⟩,h3.grown hg h3.size (fun k e=>by cases e;omega),fun i o e=>⟨(h4 i o e).1,(World.putObj_heap_other ?_).trans (h4 i o e).2⟩⟩
 ·cases hv:v.ownBlock with
  |none=>exact .inl rfl
  |some g=>
   right
   have:=(h2.lt g hv).1
   simp
   omega
 ·rintro rfl
  have:=h4 _ o e
  rw[hl]at this
  have h5:=this.1
  cases this.2
  cases h5
end
def EndN (w:World)(l:List Int)(e:Ending)(w':World):Prop:= ∃A' c',e=.returned (.slice A' l.length c')∧w'.ownsRow w.heap.size 3 1 (.slice A' l.length c') l.length (l.flatMap encInt)∧Below w.heap.size w w'
end Go.Proofs.YtcffonnijhhhiaaGreatDoor
namespace Go.Proofs.YtcffonnijhhhiaaGreatDoor
open Go Go.RowKit Go.Maps Mp Go.Shelf
attribute [-simp] Prod.forall Prod.exists
attribute [local go_sem] Oper.semAt_some
attribute [-go_sem] Builtin.append_
def encP (p:Int×Int):List Value:=[.int .i64 p.1,.int .i64 p.2]
theorem layP :Lay encP 196 163 (.agg #[.int .i64 0,.int .i64 0]) 2 16:=
 ⟨Tryz.underlying196,by kernel_rfl,rfl,by decide,fun _=>rfl,fun x v hv=>by simp[encP]at hv;rcases hv with rfl|rfl<;>rfl⟩
set_option maxRecDepth 100000 in
set_option maxHeartbeats 4000000 in
theorem appendSeq_I (gf:FuncId)(lb:Array Value)(Pre Dn:List (Int)→Prop)(w:World)(hen: ∀args w,(callFunc gf args).run Tryz.prog w=.ok (.enter gf args) w)(hg:Gives gf lb ekI Pre Dn w)(hpre: ∀s,Pre s→s.length≤3000000000000):
  Calls Tryz.prog 202 #[.slice none 0 0,.func (.func gf) #[] lb] w fun e w'=> ∃s,Dn s∧ ∃A c,e=.returned (.slice A s.length c)∧w'.ownsRow (w.heap.size+3) 3 1 (.slice A s.length c) s.length (s.flatMap encInt)∧Below w.heap.size w w':=by
 refine(callsIn_wide (n:=3)).1 ?_
 refine callsIn_of_wp_marks Tryz.func202 rfl trivial ?_ rfl
 simp only[Tryz.ntmps202,List.size_toArray,List.length_cons,List.length_nil,Nat.reduceAdd,Nat.reduceSub,Array.replicate_succ,Array.replicate_zero,List.push_toArray,List.append_toArray,List.nil_append,List.cons_append]
 gi_wp2
 obtain⟨W0,hW0⟩: ∃W0,w.alloc (.cells #[.slice none 0 0] 22)=W0:=⟨_,rfl⟩
 have hs0:W0.heap.size=w.heap.size+1:=by rw[←hW0];simp
 have b0:Below w.heap.size w W0:=by rw[←hW0];exact(Below.refl _ w).alloc (Nat.le_refl _) _
 have k0:W0.heap[w.heap.size]?=some (.cells #[.slice none 0 0] 22 (0,0)):=by rw[←hW0];exact World.alloc_heap_new w _
 rw[hW0]
 refine wpIn_rangeFunc_sx (F:=Fence.wide) (σ:=List (Int)×Fix) (encs:=fun x:Int=> #[ekI x]) rfl (by omega) (gf:=gf) (lb:=lb) (by simp[go_sem]) trivial hen (fun _=>rfl)
  (fun s x=>some (s.1++[x],s.2)) ([],fun _=>none) (fun s=>Dn s.1) (fun _ _=>False) (fun s x=>Pre (s.1++[x])) (AJ encInt 22 3 1 w) (fun _ _ _=>False)
  (fun x a' _=>a'= {tmps:= #[.slice none 0 0,.func (.func gf) #[] lb,.pointer (some ⟨w.heap.size,0,none⟩),undef,.slice none 0 0,ekI x,.func (.func gf) #[] lb,ekI x,undef,undef,undef,undef,undef],defers:=[]}) ?put ?xput ?aput ?start ?seq ?assign ?body ?done ?stop
 case put=>
  intro s W r r' hl h
  rw[hs0]at hl ⊢
  exact h.put hl r'
 case xput=>
  intro s x W r r' hl h
  exact h.elim
 case aput=>
  intro x a' W r r' hl h
  exact h
 case start=>
  intro r
  have hb:Below W0.heap.size W0 ((W0.alloc (.deferred (some []))).alloc (.loop r)):=((Below.refl _ W0).alloc (Nat.le_refl _) _).alloc (by simp) _
  exact⟨⟨.slice none 0 0,(hb.block _ (by omega)).trans k0,World.ownsRow_nil _ _ _ _⟩,b0.trans (hb.mono (by omega)),fun i o e=>by cases e⟩
 case seq=>
  rintro rec rec' W1 hY hI hl hk
  rw[hs0]at hY hl hk ⊢
  refine(hg 2 (w.heap.size+2) (fun s φ W=>AJ encInt 22 3 1 w (s,φ) W∧W.heap[w.heap.size+2]?=some (.loop rec)∧W.heap[w.heap.size+1]?=some (.deferred (some []))) W1 (by omega) hI.2.1 ⟨?_,?_,?_⟩ ⟨hI,hl,hk⟩ ?_).mono ?_
  ·rintro s φ W W' row ⟨h1,h2,h3⟩ hgr hrow
   have key: ∀k o,W.heap[k]?=some o→o.isWalk=false→some k≠row:=fun k o ho hf e=>by
    obtain⟨_,o',h5,h6⟩:=hrow k e.symm
    rw[ho]at h5
    cases h5
    rw[hf]at h6
    cases h6
   exact⟨h1.grow hgr (fun r e=>⟨by have:=(hrow r e).1;have:=hI.2.1.size;omega,(hrow r e).2⟩),(hgr.block _ (Array.getElem?_eq_some_iff.1 h2).1 (key _ _ h2 rfl)).trans h2,(hgr.block _ (Array.getElem?_eq_some_iff.1 h3).1 (key _ _ h3 rfl)).trans h3⟩
  ·rintro s φ W φ' ⟨⟨h1,h2,_⟩,h3⟩ h4
   exact⟨⟨h1,h2,h4⟩,h3⟩
  ·rintro s φ W i o ⟨⟨_,_,h1⟩,_⟩ h2
   exact(h1 i o h2).2
  ·rintro s φ x W ⟨h1,h2,h3⟩ hp
   refine(hY (s,φ) x W hp h1 h2 h3).mono ?_
   rintro e V (⟨s',hn,rfl,h4,h5,h6⟩|⟨hn,_⟩)
   ·cases hn
    exact⟨rfl,h4,h5,h6⟩
   ·cases hn
  ·rintro e W' ⟨hv,s,hd,h1,h2,h3⟩
   exact⟨hv,.inl ⟨(s,fun _=>none),hd,h1,h2,h3⟩⟩
 case assign=>
  rintro s x W K r hp hi hl hk hK
  rw[hs0]at hl hk hK ⊢
  gi_wp2
  exact hK _ _ hi rfl hl hk
 case body=>
  rintro⟨s,φ⟩ x a' W r hp hi rfl hl hk
  rw[hs0]at hl hk ⊢
  obtain⟨⟨v,hbx,how⟩,hbl,hφ⟩:=hi
  have hlen:=hpre _ hp
  rw[List.length_append,List.length_singleton]at hlen
  have hz:=(Array.getElem?_eq_some_iff.1 hl).1
  obtain⟨g',c',w2,hrun,how2,hb2,hw2⟩:=own_push layI how x #[.int .i64 x] rfl hlen (by decide) (by omega)
  have hbx2:=(hb2.block _ (show w.heap.size<w.heap.size+3 by omega)).trans hbx
  obtain⟨hc,hf⟩:=blk_cells hbx
  obtain⟨hc2,hf2⟩:=blk_cells hbx2
  have q0:=hc 0
  have q2:=hc2 0
  have HO:=Lib.hid how2
  have HW:=Lib.hid hw2
  clear how how2 hw2 hc hc2
  simp only at hrun
  gi_wp2
  obtain⟨W3,hW3⟩: ∃W3,W3=w2.setCell ⟨w.heap.size,0,none⟩ (.slice (some ⟨g',0,none⟩) (s.length+1) c'):=⟨_,rfl⟩
  have g3:w2.grownBy W3 (some w.heap.size):=by rw[hW3];exact gsc w2 ⟨w.heap.size,0,none⟩ _
  have h3:W3.heap[w.heap.size]?=some (.cells #[.slice (some ⟨g',0,none⟩) (s++[x]).length c'] 22 (0,0)):=by rw[hW3,List.length_append];exact hsc (j:=0) _ hbx2
  rw[←hW3]
  have hz2:=hb2.size
  refine⟨(g3.block _ (by omega) (fun e=>by have:=Option.some.inj e;omega)).trans ((hb2.block _ (by omega)).trans hl),(g3.block _ (by omega) (fun e=>by have:=Option.some.inj e;omega)).trans ((hb2.block _ (by omega)).trans hk),⟨_,h3,HO.out.kept g3 ?_⟩,(hbl.trans (hb2.mono (by omega))).grown g3 (by have:=hbl.size;omega) (fun k e=>by cases e;omega),fun i o e=>⟨(hφ i o e).1,?_⟩⟩
  ·right
   have h6:=(HO.out.lt g' rfl).1
   intro e
   have e2:g'=w.heap.size:=Option.some.inj e
   omega
  ·have h5:=HW.out i o (hφ i o e).2 (hφ i o e).1
   refine(g3.block i (Array.getElem?_eq_some_iff.1 h5).1 ?_).trans h5
   intro e2
   cases e2
   rw[hbx2]at h5
   cases h5
   have:=(hφ _ _ e).1
   cases this
 case done=>
  rintro⟨s,φ⟩ W hd ⟨⟨v,hbx,how⟩,hbl,_⟩ hk
  rw[hs0]at hk
  obtain⟨hc,hf⟩:=blk_cells hbx
  have q0:=hc 0
  obtain⟨A,c,rfl,_⟩:=own_seg layI how
  have HO:=Lib.hid how
  clear how hc
  gi_wp2
  refine⟨by simp,.inl ⟨_,_,rfl,run_takeDeferred hk,?_⟩⟩
  have hg4:=grownBy_putObj' W (w.heap.size+1) (.deferred none)
  refine⟨.slice A s.length c,?_,s,hd,A,c,rfl,HO.out.kept hg4 ?_,hbl.grown hg4 hbl.size (fun k e=>by cases e;omega)⟩
  ·simp[results,Tryz.results202,go_sem]
  ·cases hv:(Value.slice A s.length c).ownBlock with
   |none=>exact .inl rfl
   |some g=>
    right
    have:=(HO.out.lt g hv).1
    simp
    omega
 case stop=>
  rintro s x W h
  exact h.elim
set_option maxRecDepth 100000 in
theorem collect_I (gf:FuncId)(lb:Array Value)(Pre Dn:List (Int)→Prop)(w:World)(hen: ∀args w,(callFunc gf args).run Tryz.prog w=.ok (.enter gf args) w)(hg:Gives gf lb ekI Pre Dn w)(hpre: ∀s,Pre s→s.length≤3000000000000):
  Calls Tryz.prog 140 #[.func (.func gf) #[] lb] w fun e w'=> ∃s,Dn s∧ ∃A c,e=.returned (.slice A s.length c)∧w'.ownsRow (w.heap.size+3) 3 1 (.slice A s.length c) s.length (s.flatMap encInt)∧Below w.heap.size w w':=by
 have ha:=appendSeq_I gf lb Pre Dn w hen hg hpre
 clear hg hpre
 go_enter Tryz.func140,Tryz.ntmps140
 go_wp2_with fail
 refine ha.mono ?_
 rintro e w' ⟨s,hd,A,c,rfl,ho,hb⟩
 go_wp2
 go_ret
 exact⟨s,hd,A,c,rfl,ho,hb⟩
set_option maxRecDepth 100000 in
set_option maxHeartbeats 4000000 in
theorem appendSeq_P (gf:FuncId)(lb:Array Value)(Pre Dn:List (Int×Int)→Prop)(w:World)(hen: ∀args w,(callFunc gf args).run Tryz.prog w=.ok (.enter gf args) w)(hg:Gives gf lb ekP Pre Dn w)(hpre: ∀s,Pre s→s.length≤3000000000000):
  Calls Tryz.prog 297 #[.slice none 0 0,.func (.func gf) #[] lb] w fun e w'=> ∃s,Dn s∧ ∃A c,e=.returned (.slice A s.length c)∧w'.ownsRow (w.heap.size+3) 163 2 (.slice A s.length c) s.length (s.flatMap encP)∧Below w.heap.size w w':=by
 refine(callsIn_wide (n:=3)).1 ?_
 refine callsIn_of_wp_marks Tryz.func297 rfl trivial ?_ rfl
 simp only[Tryz.ntmps297,List.size_toArray,List.length_cons,List.length_nil,Nat.reduceAdd,Nat.reduceSub,Array.replicate_succ,Array.replicate_zero,List.push_toArray,List.append_toArray,List.nil_append,List.cons_append]
 gi_wp2
 obtain⟨W0,hW0⟩: ∃W0,w.alloc (.cells #[.slice none 0 0] 196)=W0:=⟨_,rfl⟩
 have hs0:W0.heap.size=w.heap.size+1:=by rw[←hW0];simp
 have b0:Below w.heap.size w W0:=by rw[←hW0];exact(Below.refl _ w).alloc (Nat.le_refl _) _
 have k0:W0.heap[w.heap.size]?=some (.cells #[.slice none 0 0] 196 (0,0)):=by rw[←hW0];exact World.alloc_heap_new w _
 rw[hW0]
 refine wpIn_rangeFunc_sx (F:=Fence.wide) (σ:=List (Int×Int)×Fix) (encs:=fun x:Int×Int=> #[ekP x]) rfl (by omega) (gf:=gf) (lb:=lb) (by simp[go_sem]) trivial hen (fun _=>rfl)
  (fun s x=>some (s.1++[x],s.2)) ([],fun _=>none) (fun s=>Dn s.1) (fun _ _=>False) (fun s x=>Pre (s.1++[x])) (AJ encP 196 163 2 w) (fun _ _ _=>False)
  (fun x a' W=> ∃b,w.heap.size+3≤b∧W.heap[b]?=some (.cells #[.int .i64 x.1,.int .i64 x.2] 163 (0,0))∧a'= {tmps:= #[.slice none 0 0,.func (.func gf) #[] lb,.pointer (some ⟨w.heap.size,0,none⟩),undef,.slice none 0 0,.pointer (some ⟨b,0,none⟩),.func (.func gf) #[] lb,ekP x,undef,undef,undef,undef,undef],defers:=[]}) ?put ?xput ?aput ?start ?seq ?assign ?body ?done ?stop
 case put=>
  intro s W r r' hl h
  rw[hs0]at hl ⊢
  exact h.put hl r'
 case xput=>
  intro s x W r r' hl h
  exact h.elim
 case aput=>
  intro x a' W r r' hl h
  obtain⟨b,h1,h2,h3⟩:=h
  rw[hs0]
  exact⟨b,h1,(World.putObj_heap_other (by omega)).trans h2,h3⟩
 case start=>
  intro r
  have hb:Below W0.heap.size W0 ((W0.alloc (.deferred (some []))).alloc (.loop r)):=((Below.refl _ W0).alloc (Nat.le_refl _) _).alloc (by simp) _
  exact⟨⟨.slice none 0 0,(hb.block _ (by omega)).trans k0,World.ownsRow_nil _ _ _ _⟩,b0.trans (hb.mono (by omega)),fun i o e=>by cases e⟩
 case seq=>
  rintro rec rec' W1 hY hI hl hk
  rw[hs0]at hY hl hk ⊢
  refine(hg 2 (w.heap.size+2) (fun s φ W=>AJ encP 196 163 2 w (s,φ) W∧W.heap[w.heap.size+2]?=some (.loop rec)∧W.heap[w.heap.size+1]?=some (.deferred (some []))) W1 (by omega) hI.2.1 ⟨?_,?_,?_⟩ ⟨hI,hl,hk⟩ ?_).mono ?_
  ·rintro s φ W W' row ⟨h1,h2,h3⟩ hgr hrow
   have key: ∀k o,W.heap[k]?=some o→o.isWalk=false→some k≠row:=fun k o ho hf e=>by
    obtain⟨_,o',h5,h6⟩:=hrow k e.symm
    rw[ho]at h5
    cases h5
    rw[hf]at h6
    cases h6
   exact⟨h1.grow hgr (fun r e=>⟨by have:=(hrow r e).1;have:=hI.2.1.size;omega,(hrow r e).2⟩),(hgr.block _ (Array.getElem?_eq_some_iff.1 h2).1 (key _ _ h2 rfl)).trans h2,(hgr.block _ (Array.getElem?_eq_some_iff.1 h3).1 (key _ _ h3 rfl)).trans h3⟩
  ·rintro s φ W φ' ⟨⟨h1,h2,_⟩,h3⟩ h4
   exact⟨⟨h1,h2,h4⟩,h3⟩
  ·rintro s φ W i o ⟨⟨_,_,h1⟩,_⟩ h2
   exact(h1 i o h2).2
  ·rintro s φ x W ⟨h1,h2,h3⟩ hp
   refine(hY (s,φ) x W hp h1 h2 h3).mono ?_
   rintro e V (⟨s',hn,rfl,h4,h5,h6⟩|⟨hn,_⟩)
   ·cases hn
    exact⟨rfl,h4,h5,h6⟩
   ·cases hn
  ·rintro e W' ⟨hv,s,hd,h1,h2,h3⟩
   exact⟨hv,.inl ⟨(s,fun _=>none),hd,h1,h2,h3⟩⟩
 case assign=>
  rintro s x W K r hp hi hl hk hK
  rw[hs0]at hl hk hK ⊢
  have hz:=(Array.getElem?_eq_some_iff.1 hl).1
  have bA:Below W.heap.size W (W.alloc (.cells #[.int .i64 x.1,.int .i64 x.2] 163)):=(Below.refl _ W).alloc (Nat.le_refl _) _
  gi_wp2
  exact hK _ _ (hi.alloc _) ⟨W.heap.size,by omega,heap_alloc_new W _,rfl⟩ ((bA.block _ hz).trans hl) ((bA.block _ (by omega)).trans hk)
 case body=>
  rintro⟨s,φ⟩ x a' W r hp hi ⟨bp,hbp,hxp,rfl⟩ hl hk
  rw[hs0]at hl hk ⊢
  obtain⟨hcx,hfx⟩:=blk_cells hxp
  have x0:=hcx 0
  have x1:=hcx 1
  clear hcx
  obtain⟨⟨v,hbx,how⟩,hbl,hφ⟩:=hi
  have hlen:=hpre _ hp
  rw[List.length_append,List.length_singleton]at hlen
  have hz:=(Array.getElem?_eq_some_iff.1 hl).1
  obtain⟨g',c',w2,hrun,how2,hb2,hw2⟩:=own_push layP how x #[.int .i64 x.1,.int .i64 x.2] rfl hlen (by decide) (by omega)
  have hbx2:=(hb2.block _ (show w.heap.size<w.heap.size+3 by omega)).trans hbx
  obtain⟨hc,hf⟩:=blk_cells hbx
  obtain⟨hc2,hf2⟩:=blk_cells hbx2
  have q0:=hc 0
  have q2:=hc2 0
  have HO:=Lib.hid how2
  have HW:=Lib.hid hw2
  clear how how2 hw2 hc hc2
  simp only at hrun
  gi_wp2
  obtain⟨W3,hW3⟩: ∃W3,W3=w2.setCell ⟨w.heap.size,0,none⟩ (.slice (some ⟨g',0,none⟩) (s.length+1) c'):=⟨_,rfl⟩
  have g3:w2.grownBy W3 (some w.heap.size):=by rw[hW3];exact gsc w2 ⟨w.heap.size,0,none⟩ _
  have h3:W3.heap[w.heap.size]?=some (.cells #[.slice (some ⟨g',0,none⟩) (s++[x]).length c'] 196 (0,0)):=by rw[hW3,List.length_append];exact hsc (j:=0) _ hbx2
  rw[←hW3]
  have hz2:=hb2.size
  refine⟨(g3.block _ (by omega) (fun e=>by have:=Option.some.inj e;omega)).trans ((hb2.block _ (by omega)).trans hl),(g3.block _ (by omega) (fun e=>by have:=Option.some.inj e;omega)).trans ((hb2.block _ (by omega)).trans hk),⟨_,h3,HO.out.kept g3 ?_⟩,(hbl.trans (hb2.mono (by omega))).grown g3 (by have:=hbl.size;omega) (fun k e=>by cases e;omega),fun i o e=>⟨(hφ i o e).1,?_⟩⟩
  ·right
   have h6:=(HO.out.lt g' rfl).1
   intro e
   have e2:g'=w.heap.size:=Option.some.inj e
   omega
  ·have h5:=HW.out i o (hφ i o e).2 (hφ i o e).1
   refine(g3.block i (Array.getElem?_eq_some_iff.1 h5).1 ?_).trans h5
   intro e2
   cases e2
   rw[hbx2]at h5
   cases h5
   have:=(hφ _ _ e).1
   cases this
 case done=>
  rintro⟨s,φ⟩ W hd ⟨⟨v,hbx,how⟩,hbl,_⟩ hk
  rw[hs0]at hk
  obtain⟨hc,hf⟩:=blk_cells hbx
  have q0:=hc 0
  obtain⟨A,c,rfl,_⟩:=own_seg layP how
  have HO:=Lib.hid how
  clear how hc
  gi_wp2
  refine⟨by simp,.inl ⟨_,_,rfl,run_takeDeferred hk,?_⟩⟩
  have hg4:=grownBy_putObj' W (w.heap.size+1) (.deferred none)
  refine⟨.slice A s.length c,?_,s,hd,A,c,rfl,HO.out.kept hg4 ?_,hbl.grown hg4 hbl.size (fun k e=>by cases e;omega)⟩
  ·simp[results,Tryz.results297,go_sem]
  ·cases hv:(Value.slice A s.length c).ownBlock with
   |none=>exact .inl rfl
   |some g=>
    right
    have:=(HO.out.lt g hv).1
    simp
    omega
 case stop=>
  rintro s x W h
  exact h.elim
set_option maxRecDepth 100000 in
theorem collect_P (gf:FuncId)(lb:Array Value)(Pre Dn:List (Int×Int)→Prop)(w:World)(hen: ∀args w,(callFunc gf args).run Tryz.prog w=.ok (.enter gf args) w)(hg:Gives gf lb ekP Pre Dn w)(hpre: ∀s,Pre s→s.length≤3000000000000):
  Calls Tryz.prog 265 #[.func (.func gf) #[] lb] w fun e w'=> ∃s,Dn s∧ ∃A c,e=.returned (.slice A s.length c)∧w'.ownsRow (w.heap.size+3) 163 2 (.slice A s.length c) s.length (s.flatMap encP)∧Below w.heap.size w w':=by
 have ha:=appendSeq_P gf lb Pre Dn w hen hg hpre
 clear hg hpre
 go_enter Tryz.func265,Tryz.ntmps265
 go_wp2_with fail
 refine ha.mono ?_
 rintro e w' ⟨s,hd,A,c,rfl,ho,hb⟩
 go_wp2
 go_ret
 exact⟨s,hd,A,c,rfl,ho,hb⟩
end Go.Proofs.YtcffonnijhhhiaaGreatDoor
