/- Part U03 of the proof: Sm Cl Mw Df Pu Px Ix. -/
import Derived.Test.YtcffonnijhhhiaaGreatDoorProg
import Derived.WalkKit
import Derived.WalkLawsBesides
import Derived.WalkSpells
import Derived.Handy
import Derived.Lib.Hide
import Derived.Great.BuildSlice
import Derived.Deep.QuietTactic
import Derived.BigQuiet
import Derived.Deep.RegionHeld3
import Derived.Deep.DeepCutAuto
import Derived.Shelf.SlMaps.Clone
import Derived.Maps.OwnOps
import Derived.Shelf.SlMaps.DeleteFunc
import Derived.StillTailTactics
import Derived.Test.YtcffonnijhhhiaaGreatDoorU02
set_option linter.all false
set_option linter.unusedSimpArgs false
set_option linter.unusedVariables false
set_option linter.unusedSectionVars false
namespace Go.Proofs.YtcffonnijhhhiaaGreatDoor
open Go Go.RowKit Mp
structure LotF where
 size:Int
 parts:Int→Option Int
structure FS where
 used:Int→Bool
 lots:Int→Option LotF
 eases:Int×Int→Option Int
 stints:Int×Int→Option (Int×Int)
def FS.begun :FS:=⟨fun _=>false,fun _=>none,fun _=>none,fun _=>none⟩
abbrev fU (u:Int→Bool)(n:Int):Option Value:=if u n then some (.bool true)else none
abbrev fL (ad:Int→Option (Nat×Nat))(n:Int):Option Value:=(ad n).map fun p=> .pointer (some ⟨p.1,0,none⟩)
abbrev fI {K:Type}(f:K→Option Int)(k:K):Option Value:=(f k).map (.int .i64)
abbrev fG (f:Int×Int→Option (Int×Int))(k:Int×Int):Option Value:=(f k).map fun p=> .agg #[.int .i64 p.1,.int .i64 p.2]
abbrev oSt (bu bl be bs:Nat):Obj:=.cells #[.map (some bu),.map (some bl),.map (some be),.map (some bs)] 132 (0,0)
abbrev oLt (z:Int)(b:Nat):Obj:=.cells #[.int .i64 z,.map (some b)] 136 (0,0)
structure SM (w:World)(B sb bu bl be bs:Nat)(ad:Int→Option (Nat×Nat))(F:FS):Prop where
 ord:B≤bu∧bu<bl∧bl<be∧be<bs∧bs<sb
 blk:w.heap[sb]?=some (oSt bu bl be bs)
 used:FM ekI okI w bu (fU F.used)
 lots:FM ekI okI w bl (fL ad)
 eases:FM ekP okP w be (fI F.eases)
 stints:FM ekP okP w bs (fG F.stints)
 each: ∀n p,ad n=some p→ ∃L,F.lots n=some L∧sb<p.1∧sb<p.2∧w.heap[p.1]?=some (oLt L.size p.2)∧FM ekI okI w p.2 (fI L.parts)
 no: ∀n,ad n=none→F.lots n=none
 apart: ∀m n p q,ad m=some p→ad n=some q→m≠n→p.1≠q.1∧p.2≠q.2
def SX (w:World)(B sb:Nat)(F:FS):Prop:= ∃bu bl be bs ad,SM w B sb bu bl be bs ad F
section
variable {w w' : World} {B sb bu bl be bs : Nat} {ad : Int → Option (Nat × Nat)} {F : FS}
theorem SM.lt (h:SM w B sb bu bl be bs ad F):sb<w.heap.size:=(Array.getElem?_eq_some_iff.1 h.blk).1
theorem SM.same (h:SM w B sb bu bl be bs ad F)(e: ∀i,i<w.heap.size→B≤i→w'.heap[i]?=w.heap[i]?):SM w' B sb bu bl be bs ad F:=by
 obtain⟨o1,o2,o3,o4,o5⟩:=h.ord
 have hs:=h.lt
 refine⟨h.ord,(e _ hs (by omega)).trans h.blk,h.used.same (e _ h.used.lt o1),h.lots.same (e _ h.lots.lt (by omega)),h.eases.same (e _ h.eases.lt (by omega)),h.stints.same (e _ h.stints.lt (by omega)),fun n p hp=> ?_,h.no,h.apart⟩
 obtain⟨L,h1,h2,h3,h4,h5⟩:=h.each n p hp
 exact⟨L,h1,h2,h3,(e _ (Array.getElem?_eq_some_iff.1 h4).1 (by omega)).trans h4,h5.same (e _ h5.lt (by omega))⟩
theorem SM.below (h:SM w B sb bu bl be bs ad F)(hb:Below w.heap.size w w'):SM w' B sb bu bl be bs ad F:=h.same fun i hi _=>hb.block i hi
theorem SM.less (h:SM w B sb bu bl be bs ad F){B':Nat}(hB:B'≤B):SM w B' sb bu bl be bs ad F:= {h with ord:=⟨by have:=h.ord.1;omega,h.ord.2⟩}
theorem SX.below (h:SX w B sb F)(hb:Below w.heap.size w w'):SX w' B sb F:=by
 obtain⟨bu,bl,be,bs,ad,h⟩:=h
 exact⟨bu,bl,be,bs,ad,h.below hb⟩
theorem SX.lt (h:SX w B sb F):sb<w.heap.size∧B≤sb:=by
 obtain⟨bu,bl,be,bs,ad,h⟩:=h
 exact⟨h.lt,by have:=h.ord;omega⟩
end
theorem begun_lay (w:World)(n:Nat)(hn:w.heap.size=n):SX (((((w.alloc (.map #[] 0)).alloc (.map #[] 0)).alloc (.map #[] 0)).alloc (.map #[] 0)).alloc (oSt n (n+1) (n+2) (n+3))) n (n+4) FS.begun:=by
 have h1:(w.alloc (.map #[] 0)).heap.size=n+1:=by simp[hn]
 have h2:((w.alloc (.map #[] 0)).alloc (.map #[] 0)).heap.size=n+2:=by simp[hn]
 have h3:(((w.alloc (.map #[] 0)).alloc (.map #[] 0)).alloc (.map #[] 0)).heap.size=n+3:=by simp[hn]
 exact⟨n,n+1,n+2,n+3,fun _=>none,⟨by omega,heap_at (by simp[hn]),((((FM.new w hn).alloc _).alloc _).alloc _).alloc _,(((FM.new _ h1).alloc _).alloc _).alloc _,((FM.new _ h2).alloc _).alloc _,(FM.new _ h3).alloc _,
  fun _ _ h=>(by cases h),fun _ _=>rfl,fun _ _ _ _ h=>(by cases h)⟩⟩
theorem begun_a (w:World):Calls Tryz.prog 214 #[] w fun e w'=>e=.returned (.pointer (some ⟨w.heap.size+4,0,none⟩))∧SX w' w.heap.size (w.heap.size+4) FS.begun∧Below w.heap.size w w'∧w'.heap.size=w.heap.size+5:=by
 have hmm:= @run_makeMap Tryz.prog
 go_enter Tryz.func214,Tryz.ntmps214
 go_wp2
 go_ret
 exact⟨by simp,by simpa using begun_lay w _ rfl,by go_grown,by simp⟩
abbrev gave (e:Int):List PanicEntry:=[{v:=.iface 233 (.agg #[.int .i64 e]),recovered:=false}]
theorem refuse_no (e:Int)(w:World):Calls Tryz.prog 290 #[.bool false,.int .i64 e] w fun e w'=>e=.returned (.tuple #[])∧w=w':=by
 go_enter Tryz.func290,Tryz.ntmps290
 go_wp2
 go_end0
 exact⟨rfl,rfl⟩
theorem refuse_yes (e:Int)(w:World):Calls Tryz.prog 290 #[.bool true,.int .i64 e] w fun e' w'=>e'=.panicked (gave e)∧Below w.heap.size w w':=by
 go_enter Tryz.func290,Tryz.ntmps290
 go_wp2
 exact⟨rfl,rfl,by go_grown⟩
theorem zero_bool (w:World):(zeroValue 4).run Tryz.prog w=.ok (.bool false) w:=by kernel_rfl
theorem zero_int (w:World):(zeroValue 3).run Tryz.prog w=.ok (.int .i64 0) w:=by kernel_rfl
theorem zero_plot (w:World):(zeroValue 133).run Tryz.prog w=.ok (.pointer none) w:=by kernel_rfl
theorem zero_grz (w:World):(zeroValue 171).run Tryz.prog w=.ok (.agg #[.int .i64 0,.int .i64 0]) w:=by kernel_rfl
def i64 (n:Int):Prop:= -9223372036854775808≤n∧n≤9223372036854775807
section
variable {w : World} {B sb bu bl be bs : Nat} {ad : Int → Option (Nat × Nat)} {F : FS}
theorem SM.lUsed (h:SM w B sb bu bl be bs ad F){n:Int}(hn:i64 n):(Instr.lookup 127 (.map (some bu)) (.int .i64 n) false).run Tryz.prog w=.ok (.bool (F.used n)) w:=by
 have:=(h.used.lookup kI Tryz.underlying127 (zero_bool w) (keyI hn.1 hn.2)).1
 rw[this]
 unfold fU
 cases F.used n<;>rfl
theorem SM.lLot (h:SM w B sb bu bl be bs ad F){n:Int}(hn:i64 n):(Instr.lookup 128 (.map (some bl)) (.int .i64 n) false).run Tryz.prog w=.ok (.pointer ((ad n).map fun p=>⟨p.1,0,none⟩)) w:=by
 have:=(h.lots.lookup kI Tryz.underlying128 (zero_plot w) (keyI hn.1 hn.2)).1
 rw[this]
 unfold fL
 cases ad n<;>rfl
end
theorem new1_a {w:World}{B sb bu bl be bs bx:Nat}{ad:Int→Option (Nat×Nat)}{F:FS}(h:SM w B sb bu bl be bs ad F)(hx:w.heap[bx]?=some (.cells #[.pointer (some ⟨sb,0,none⟩)] 123 (0,0))){n:Int}(hn:i64 n):
  Calls Tryz.prog 312 #[.int .i64 n,.pointer (some ⟨bx,0,none⟩)] w fun e w'=>e=.returned (.bool (F.used n))∧w=w':=by
 obtain⟨hc,hf⟩:=blk_cells h.blk
 obtain⟨hcx,hfx⟩:=blk_cells hx
 have hl:=h.lUsed hn
 go_enter Tryz.func312,Tryz.ntmps312
 go_wp2
 go_ret
 exact⟨rfl,rfl⟩
theorem needs1_a {w:World}{B sb bu bl be bs bx:Nat}{ad:Int→Option (Nat×Nat)}{F:FS}(h:SM w B sb bu bl be bs ad F)(hx:w.heap[bx]?=some (.cells #[.pointer (some ⟨sb,0,none⟩)] 123 (0,0))){n:Int}(hn:i64 n):
  Calls Tryz.prog 314 #[.int .i64 n,.pointer (some ⟨bx,0,none⟩)] w fun e w'=>e=.returned (.bool (F.lots n).isNone)∧w=w':=by
 obtain⟨hc,hf⟩:=blk_cells h.blk
 obtain⟨hcx,hfx⟩:=blk_cells hx
 have hl:=h.lLot hn
 have hv:(F.lots n).isNone=(ad n).isNone:=by
  cases ha:ad n with
  |none=>rw[h.no n ha];rfl
  |some p=>obtain⟨L,h1,_⟩:=h.each n p ha;rw[h1];rfl
 have HV:=Lib.hid hv
 clear hv
 cases ha:ad n with
 |none=>
  rw[ha]at hl HV
  go_enter Tryz.func314,Tryz.ntmps314
  go_wp2
  go_ret
  exact⟨by rw[HV.out];rfl,rfl⟩
 |some p=>
  rw[ha]at hl HV
  go_enter Tryz.func314,Tryz.ntmps314
  go_wp2
  go_ret
  exact⟨by rw[HV.out];rfl,rfl⟩
end Go.Proofs.YtcffonnijhhhiaaGreatDoor
namespace Go.Proofs.YtcffonnijhhhiaaGreatDoor
open Go Go.RowKit Mp
set_option maxRecDepth 100000 in
theorem clone_i {w:World}{b:Nat}{f:Int→Option Value}(h:FM ekI okI w b f):Calls Tryz.prog 313 #[.map (some b)] w fun e w'=>
  e=.returned (.map (some w.heap.size))∧FM ekI okI w' w.heap.size f∧Below w.heap.size w w'∧w'.heap.size=w.heap.size+1:=by
 obtain⟨es,clock,hb,E⟩:=h
 have E:=Lib.hid E
 have hq:=fun w=>run_eql_map_nil_sl (P:=Tryz.prog) w 134 _ _ (some b) Tryz.underlying134
 go_enter Tryz.func313,Tryz.ntmps313
 go_wp2
 rw[run_callFunc_extern Tryz.func315 (by kernel_rfl) (by kernel_rfl) (by kernel_rfl) (e:=Extern.MapsClone.clone) (by kernel_rfl),run_maps_clone_sl w 134 hb]
 simp only[Result.andThen]
 rw[Oper.upon_value]
 go_wp2
 rw[run_typeAssert_map_sl _ 134 20 _ _ _ Tryz.underlying134]
 simp only[Result.andThen]
 rw[Oper.upon_value]
 go_wp2
 go_ret
 exact⟨rfl,⟨es,clock,heap_alloc_new _ _,E.out⟩,by go_grown,by simp⟩
set_option maxRecDepth 100000 in
theorem clone_g {w:World}{b:Nat}{f:Int×Int→Option Value}(h:FM ekP okP w b f):Calls Tryz.prog 293 #[.map (some b)] w fun e w'=>
  e=.returned (.map (some w.heap.size))∧FM ekP okP w' w.heap.size f∧Below w.heap.size w w'∧w'.heap.size=w.heap.size+1:=by
 obtain⟨es,clock,hb,E⟩:=h
 have E:=Lib.hid E
 have hq:=fun w=>run_eql_map_nil_sl (P:=Tryz.prog) w 130 _ _ (some b) Tryz.underlying130
 go_enter Tryz.func293,Tryz.ntmps293
 go_wp2
 rw[run_callFunc_extern Tryz.func315 (by kernel_rfl) (by kernel_rfl) (by kernel_rfl) (e:=Extern.MapsClone.clone) (by kernel_rfl),run_maps_clone_sl w 130 hb]
 simp only[Result.andThen]
 rw[Oper.upon_value]
 go_wp2
 rw[run_typeAssert_map_sl _ 130 20 _ _ _ Tryz.underlying130]
 simp only[Result.andThen]
 rw[Oper.upon_value]
 go_wp2
 go_ret
 exact⟨rfl,⟨es,clock,heap_alloc_new _ _,E.out⟩,by go_grown,by simp⟩
set_option maxRecDepth 100000 in
theorem clone_p {w:World}{b:Nat}{f:Int×Int→Option Value}(h:FM ekP okP w b f):Calls Tryz.prog 294 #[.map (some b)] w fun e w'=>
  e=.returned (.map (some w.heap.size))∧FM ekP okP w' w.heap.size f∧Below w.heap.size w w'∧w'.heap.size=w.heap.size+1:=by
 obtain⟨es,clock,hb,E⟩:=h
 have E:=Lib.hid E
 have hq:=fun w=>run_eql_map_nil_sl (P:=Tryz.prog) w 129 _ _ (some b) Tryz.underlying129
 go_enter Tryz.func294,Tryz.ntmps294
 go_wp2
 rw[run_callFunc_extern Tryz.func315 (by kernel_rfl) (by kernel_rfl) (by kernel_rfl) (e:=Extern.MapsClone.clone) (by kernel_rfl),run_maps_clone_sl w 129 hb]
 simp only[Result.andThen]
 rw[Oper.upon_value]
 go_wp2
 rw[run_typeAssert_map_sl _ 129 20 _ _ _ Tryz.underlying129]
 simp only[Result.andThen]
 rw[Oper.upon_value]
 go_wp2
 go_ret
 exact⟨rfl,⟨es,clock,heap_alloc_new _ _,E.out⟩,by go_grown,by simp⟩
end Go.Proofs.YtcffonnijhhhiaaGreatDoor
namespace Go.Proofs.Mp
open Go Go.Maps
section
variable {P : Program} {K : Type} [DecidableEq K] {kt e : TypeId} {ek : K → Value} {ok : K → Prop} {b r : Nat} {f : K → Option Value} {ops : Array Oper} {rest : List Oper} {o : Oper} {a : Act} {Q : Exit → Act → World → Prop}
theorem wpList_store_fm (w:World)(hg:o.guard=none)(m x v:Operand)(t:TypeId)(hop:o.op=Op.mapUpdate t m x v)(T:Kt P kt ek ok)(ht:P.underlying t=some (.map kt e))(hm:a.eval m=.map (some b))(h:FM ek ok w b f)
  (k:K) (hx:a.eval x=ek k) (hk:ok k) (u:Value) (hv:a.eval v=u)
  (hK: ∀w',FM ek ok w' b (upd f k (some u))→w.grownBy w' (some b)→w'.heap.size=w.heap.size→wpList P ops Q rest (a.put o.dst undef) w'):wpList P ops Q (o::rest) a w:=by
 refine wpList_plain hg fun K' hK'=> ?_
 obtain⟨w',hrun,r1,r2,r3⟩:=h.update T ht hk u
 unfold Oper.wp
 simp[execOp,hop,hm,hx,hv,hrun,Result.andThen]
 exact hK' _ _ (hK w' r1 r2 r3)
theorem wpList_range_fm (w:World)(hg:o.guard=none)(m:Operand)(t:TypeId)(hop:o.op=Op.range t m)(T:Kt P kt ek ok)(ht:P.underlying t=some (.map kt e))(hm:a.eval m=.map (some b))(h:FM ek ok w b f)
  (hK: ∀w' n,RG ek ok w' b w.heap.size f (fun k=>(f k).isSome) n→w.grownBy w' none→w'.heap.size=w.heap.size+1→wpList P ops Q rest (a.put o.dst (.pointer (some ⟨w.heap.size,0,none⟩))) w'):wpList P ops Q (o::rest) a w:=by
 refine wpList_plain hg fun K' hK'=> ?_
 obtain⟨w',n,hrun,r1,r2,r3⟩:=h.range T.inj ht
 unfold Oper.wp
 simp[execOp,hop,hm,hrun,Result.andThen]
 exact hK' _ _ (hK w' n r1 r2 r3)
theorem wpList_next_rg {V:Type}(w:World)(hg:o.guard=none)(it:Operand)(hop:o.op=Op.next it false)(T:Kt P kt ek ok)(ev:V→Value)(g:K→Option V)(hfg: ∀k,f k=(g k).map ev)(left:K→Bool)(n:Nat)
  (hit:a.eval it=.pointer (some ⟨r,0,none⟩)) (h:RG ek ok w b r f left n)
  (hDone:(∀k,left k=false)→wpList P ops Q rest (a.put o.dst (.tuple #[.bool false])) w)
  (hMore: ∀k v w' n',ok k→left k=true→g k=some v→RG ek ok w' b r f (fun j=>left j&& !decide (j=k)) n'→n'<n→w.grownBy w' (some r)→w'.heap.size=w.heap.size→
   (Instr.entry (.pointer (some ⟨r,0,none⟩))).run P w'=.ok (.tuple #[ek k,ev v]) w'→wpList P ops Q rest (a.put o.dst (.tuple #[.bool true,ek k,ev v])) w'):wpList P ops Q (o::rest) a w:=by
 refine wpList_plain hg fun K' hK'=> ?_
 unfold Oper.wp
 rcases h.next (P:=P) T.inj o.type with ⟨hl,hrun⟩|⟨k,v,w',n',h1,h2,h3,hrun,h4,h5,h6,h7,h8⟩
 ·simp[execOp,hop,hit,hrun,Result.andThen]
  exact hK' _ _ (hDone hl)
 ·rw[hfg]at h3
  obtain⟨u,hu,rfl⟩:=Option.map_eq_some_iff.1 h3
  simp[execOp,hop,hit,hrun,Result.andThen]
  exact hK' _ _ (hMore k u w' n' h1 h2 hu h4 h5 h6 h7 h8)
theorem wpList_drop_rg (w:World)(hg:o.guard=none)(m x:Operand)(t:TypeId)(hop:o.op=Op.call {callee:=Callee.builtin Builtin.delete,args:= #[m,x],argTypes:= #[t,kt]})(T:Kt P kt ek ok)(ht:P.underlying t=some (.map kt e))
  (left:K→Bool) (n:Nat) (hm:a.eval m=.map (some b)) (h:RG ek ok w b r f left n) (k:K) (l:Lit) (hx:a.eval x=ek k) (hl:keyOf P kt (ek k)=some l)
  (hK: ∀w' n',RG ek ok w' b r (upd f k none) (fun j=>left j&& !decide (j=k)) n'→n'≤n→w.grownBy w' (some b)→w'.heap.size=w.heap.size→wpList P ops Q rest (a.put o.dst (.tuple #[])) w'):wpList P ops Q (o::rest) a w:=by
 refine wpList_plain hg fun K' hK'=> ?_
 obtain⟨w',n',hrun,r1,r2,r3,r4⟩:=h.drop T ht hl
 unfold Oper.wp
 simp[execOp,hop,resolve,invoke,builtin,hm,hx,hrun o.type,Result.andThen]
 exact hK' _ _ (hK w' n' r1 r2 r3 r4)
end
theorem strike2 {K:Type}[DecidableEq K](left:K→Bool)(k:K):(fun j=>(left j&& !decide (j=k))&& !decide (j=k))=fun j=>left j&& !decide (j=k):=by
 funext j
 cases left j<;>cases decide (j=k)<;>rfl
end Go.Proofs.Mp
namespace Go.Proofs.YtcffonnijhhhiaaGreatDoor
open Go Go.RowKit Mp
attribute [-simp] Prod.forall Prod.exists
abbrev evI :Int→Value:=.int .i64
abbrev evG (p:Int×Int):Value:=.agg #[.int .i64 p.1,.int .i64 p.2]
def keepF {K V:Type}(pd:K→V→Bool)(left:K→Bool)(g:K→Option V)(k:K):Option V:=(g k).filter fun v=>left k|| !pd k v
theorem keepF_start {K V:Type}(pd:K→V→Bool)(g:K→Option V):keepF pd (fun k=>(g k).isSome) g=g:=by
 funext k
 unfold keepF
 cases h:g k<;>simp[Option.filter,h]
theorem keepF_end {K V:Type}{pd:K→V→Bool}{left:K→Bool}(g:K→Option V)(h: ∀k,left k=false):keepF pd left g=fun k=>(g k).filter fun v=> !pd k v:=by
 funext k
 unfold keepF
 simp[h k]
theorem keepF_stays {K V:Type}[DecidableEq K]{pd:K→V→Bool}{left:K→Bool}{g:K→Option V}{k:K}{v:V}(hg:g k=some v)(hp:pd k v=false):keepF pd (fun j=>left j&& !decide (j=k)) g=keepF pd left g:=by
 funext j
 unfold keepF
 by_cases e:j=k
 ·subst e
  simp[hg,hp,Option.filter]
 ·simp[e]
theorem keepF_gone {K V:Type}[DecidableEq K]{pd:K→V→Bool}{left:K→Bool}{g:K→Option V}{k:K}{v:V}(ev:V→Value)(hg:g k=some v)(hp:pd k v=true):
  upd (fun j=>(keepF pd left g j).map ev) k none=fun j=>(keepF pd (fun j=>left j&& !decide (j=k)) g j).map ev:=by
 funext j
 unfold upd keepF
 by_cases e:j=k
 ·subst e
  simp[hg,hp,Option.filter]
 ·simp[e]
theorem keepF_get {K V:Type}{pd:K→V→Bool}{left:K→Bool}{g:K→Option V}{k:K}{v:V}(h:keepF pd left g k=some v):g k=some v:=by
 unfold keepF at h
 obtain⟨h1,_⟩:=Option.filter_eq_some_iff.1 h
 exact h1
set_option maxRecDepth 100000 in
set_option maxHeartbeats 4000000 in
theorem delF_i {w:World}{b:Nat}{gm:Int→Option Int}(h:FM ekI okI w b fun k=>(gm k).map evI)(g:FuncId)(cb:Array Value)(pd:Int→Int→Bool)(eg: ∀args w,(callFunc g args).run Tryz.prog w=.ok (.enter g args) w)
  (hdel: ∀(W:World) (k:Int) (v:Int),w.grownBy W (some b)→okI k→gm k=some v→Calls Tryz.prog g (#[ekI k,evI v]++cb) W fun e w'=>e=.returned (.bool (pd k v))∧W.grownBy w' none):
  Calls Tryz.prog 291 #[.map (some b),.func (.func g) #[] cb] w fun e w'=>e=.returned (.tuple #[])∧FM ekI okI w' b (fun k=>((gm k).filter fun v=> !pd k v).map evI)∧w.grownBy w' (some b):=by
 have HD:Aside _:=hdel
 clear hdel
 go_enter Tryz.func291,Tryz.ntmps291
 go_wp2_with (first
  |(at_range;refine wpList_range_fm _ rfl _ _ rfl kI Tryz.underlying134 rfl h ?_;intro w0 n0 hrg0 hg0 hs0)
  |go_in)
 go_frame
 go_loopw [8] (fun _ wr=> ∃(left:Int→Bool) (n:Nat),RG ekI okI wr b w.heap.size (fun k=>(keepF pd left gm k).map evI) left n∧w.grownBy wr (some b))
  (fun _ wr=>wr.rangeLeft b w.heap.size)
 case atStart=>exact⟨fun k=>(gm k).isSome,n0,by rw[keepF_start];simpa using hrg0,hg0.but _⟩
 case round=>
  obtain⟨left,n,hrg,hgw⟩:=hrel
  have hbl:=hrg.fm.lt
  have hrl:=hrg.lt
  have hrw:w.heap.size≤wr.heap.size:=hgw.size
  go_wp2_with (first
   |(at_next;refine wpList_next_rg _ rfl _ rfl kI evI _ (fun _=>rfl) _ _ rfl hrg ?_ ?_)
   |go_in)
  ·intro hl0
   go_wp2
   go_end0
   exact⟨rfl,by have:=hrg.fm;rw[keepF_end gm hl0]at this;exact this,hgw⟩
  ·intro k v w1 n1 hk hlx hv hrg1 hlt hg1 hs1 hen
   have hgw1:=hgw.andThen hg1 (fun j hj=>by cases hj;exact Or.inl (Nat.le_refl _))
   have hgv:=keepF_get hv
   have hc:=HD.out
   replace hc:=hc w1 k v hgw1 hk hgv
   have hk1:=Lib.hid hv
   have hk2:=Lib.hid hgv
   clear hv hgv
   cases hp:pd k v<;>rw[hp]at hc<;>have HP:=Lib.hid hp<;>clear hp
   ·go_wp2_with (first
     |(go_at_fn g;refine hc.mono ?_;rintro e w2 ⟨rfl,hg2⟩)
     |go_in)
    have hrg2:=hrg1.kept hg2 (by simp) (by simp)
    go_roundw
    case rel=>exact⟨_,n1,by rw[keepF_stays hk2.out HP.out];exact hrg2,hgw1.andThen hg2 (fun j hj=>by cases hj)⟩
    case measure=>rw[hrg2.left_eq,hrg.left_eq];exact hlt
   ·go_wp2_with (first
     |(go_at_fn g;refine hc.mono ?_;rintro e w2 ⟨rfl,hg2⟩;have hrg2:=hrg1.kept hg2 (by simp) (by simp))
     |(at_delete;refine wpList_drop_rg _ rfl _ _ _ rfl kI Tryz.underlying134 _ _ rfl hrg2 _ _ rfl (keyI (by have:=hk.1;omega) (by have:=hk.2;omega)) ?_;intro w3 n3 hrg3 hle hg3 hs3;go_frame)
     |go_in)
    rw[strike2,keepF_gone _ hk2.out HP.out]at hrg3
    go_roundw
    case rel=>exact⟨_,n3,hrg3,(hgw1.andThen hg2 (fun j hj=>by cases hj)).andThen hg3 (fun j hj=>by cases hj;exact Or.inr rfl)⟩
    case measure=>rw[hrg3.left_eq,hrg.left_eq];omega
set_option maxRecDepth 100000 in
set_option maxHeartbeats 4000000 in
theorem delF_g {w:World}{b:Nat}{gm:(Int×Int)→Option (Int×Int)}(h:FM ekP okP w b fun k=>(gm k).map evG)(g:FuncId)(cb:Array Value)(pd:(Int×Int)→(Int×Int)→Bool)(eg: ∀args w,(callFunc g args).run Tryz.prog w=.ok (.enter g args) w)
  (hdel: ∀(W:World) (k:(Int×Int)) (v:(Int×Int)),w.grownBy W (some b)→okP k→gm k=some v→Calls Tryz.prog g (#[ekP k,evG v]++cb) W fun e w'=>e=.returned (.bool (pd k v))∧W.grownBy w' none):
  Calls Tryz.prog 316 #[.map (some b),.func (.func g) #[] cb] w fun e w'=>e=.returned (.tuple #[])∧FM ekP okP w' b (fun k=>((gm k).filter fun v=> !pd k v).map evG)∧w.grownBy w' (some b):=by
 have HD:Aside _:=hdel
 clear hdel
 go_enter Tryz.func316,Tryz.ntmps316
 go_wp2_with (first
  |(at_range;refine wpList_range_fm _ rfl _ _ rfl kP Tryz.underlying130 rfl h ?_;intro w0 n0 hrg0 hg0 hs0)
  |go_in)
 go_frame
 go_loopw [8] (fun _ wr=> ∃(left:(Int×Int)→Bool) (n:Nat),RG ekP okP wr b w.heap.size (fun k=>(keepF pd left gm k).map evG) left n∧w.grownBy wr (some b))
  (fun _ wr=>wr.rangeLeft b w.heap.size)
 case atStart=>exact⟨fun k=>(gm k).isSome,n0,by rw[keepF_start];simpa using hrg0,hg0.but _⟩
 case round=>
  obtain⟨left,n,hrg,hgw⟩:=hrel
  have hbl:=hrg.fm.lt
  have hrl:=hrg.lt
  have hrw:w.heap.size≤wr.heap.size:=hgw.size
  go_wp2_with (first
   |(at_next;refine wpList_next_rg _ rfl _ rfl kP evG _ (fun _=>rfl) _ _ rfl hrg ?_ ?_)
   |go_in)
  ·intro hl0
   go_wp2
   go_end0
   exact⟨rfl,by have:=hrg.fm;rw[keepF_end gm hl0]at this;exact this,hgw⟩
  ·intro k v w1 n1 hk hlx hv hrg1 hlt hg1 hs1 hen
   have hgw1:=hgw.andThen hg1 (fun j hj=>by cases hj;exact Or.inl (Nat.le_refl _))
   have hgv:=keepF_get hv
   obtain⟨l,hkl⟩:=kP.key hk
   have hc:=HD.out
   have hgA:w1.grownBy ((w1.alloc (.cells #[.int .i64 k.1,.int .i64 k.2] 163)).alloc (.cells #[.int .i64 v.1,.int .i64 v.2] 171)) none:=(World.grownBy_alloc _ _ _).trans (World.grownBy_alloc _ _ _)
   have kb:((w1.alloc (.cells #[.int .i64 k.1,.int .i64 k.2] 163)).alloc (.cells #[.int .i64 v.1,.int .i64 v.2] 171)).heap[wr.heap.size]?=some (.cells #[.int .i64 k.1,.int .i64 k.2] 163 (0,0)):=(Below.heap_alloc _ _ _ (by simp[hs1])).trans (heap_at hs1)
   replace hc:=hc ((w1.alloc (.cells #[.int .i64 k.1,.int .i64 k.2] 163)).alloc (.cells #[.int .i64 v.1,.int .i64 v.2] 171)) k v (hgw1.andThen hgA (fun j hj=>by cases hj)) hk hgv
   have hrgA:=hrg1.kept hgA (by simp) (by simp)
   have hgwA:=hgw1.andThen hgA (fun j hj=>by cases hj)
   have hbA:wr.heap.size<((w1.alloc (.cells #[.int .i64 k.1,.int .i64 k.2] 163)).alloc (.cells #[.int .i64 v.1,.int .i64 v.2] 171)).heap.size:=by simp only[World.size_alloc,hs1];omega
   have hk1:=Lib.hid hv
   have hk2:=Lib.hid hgv
   clear hv hgv
   cases hp:pd k v<;>rw[hp]at hc<;>have HP:=Lib.hid hp<;>clear hp
   ·go_wp2_with (first
     |(go_at_fn g;refine hc.mono ?_;rintro e w2 ⟨rfl,hg2⟩)
     |go_in)
    have hrg2:=hrgA.kept hg2 (by simp) (by simp)
    go_roundw
    case rel=>exact⟨_,n1,by rw[keepF_stays hk2.out HP.out];exact hrg2,hgwA.andThen hg2 (fun j hj=>by cases hj)⟩
    case measure=>rw[hrg2.left_eq,hrg.left_eq];exact hlt
   ·go_wp2_with (first
     |(go_at_fn g;refine hc.mono ?_;rintro e w2 ⟨rfl,hg2⟩;have hrg2:=hrgA.kept hg2 (by simp) (by simp);have kb2:=(hg2.block _ hbA (by simp)).trans kb;obtain⟨hcb,hfb⟩:=blk_cells kb2)
     |(at_delete;refine wpList_drop_rg _ rfl _ _ _ rfl kP Tryz.underlying130 _ _ rfl hrg2 _ _ rfl (hkl) ?_;intro w3 n3 hrg3 hle hg3 hs3;go_frame)
     |go_in)
    rw[strike2,keepF_gone _ hk2.out HP.out]at hrg3
    go_roundw
    case rel=>exact⟨_,n3,hrg3,(hgwA.andThen hg2 (fun j hj=>by cases hj)).andThen hg3 (fun j hj=>by cases hj;exact Or.inr rfl)⟩
    case measure=>rw[hrg3.left_eq,hrg.left_eq];omega
set_option maxRecDepth 100000 in
set_option maxHeartbeats 4000000 in
theorem delF_p {w:World}{b:Nat}{gm:(Int×Int)→Option Int}(h:FM ekP okP w b fun k=>(gm k).map evI)(g:FuncId)(cb:Array Value)(pd:(Int×Int)→Int→Bool)(eg: ∀args w,(callFunc g args).run Tryz.prog w=.ok (.enter g args) w)
  (hdel: ∀(W:World) (k:(Int×Int)) (v:Int),w.grownBy W (some b)→okP k→gm k=some v→Calls Tryz.prog g (#[ekP k,evI v]++cb) W fun e w'=>e=.returned (.bool (pd k v))∧W.grownBy w' none):
  Calls Tryz.prog 318 #[.map (some b),.func (.func g) #[] cb] w fun e w'=>e=.returned (.tuple #[])∧FM ekP okP w' b (fun k=>((gm k).filter fun v=> !pd k v).map evI)∧w.grownBy w' (some b):=by
 have HD:Aside _:=hdel
 clear hdel
 go_enter Tryz.func318,Tryz.ntmps318
 go_wp2_with (first
  |(at_range;refine wpList_range_fm _ rfl _ _ rfl kP Tryz.underlying129 rfl h ?_;intro w0 n0 hrg0 hg0 hs0)
  |go_in)
 go_frame
 go_loopw [8] (fun _ wr=> ∃(left:(Int×Int)→Bool) (n:Nat),RG ekP okP wr b w.heap.size (fun k=>(keepF pd left gm k).map evI) left n∧w.grownBy wr (some b))
  (fun _ wr=>wr.rangeLeft b w.heap.size)
 case atStart=>exact⟨fun k=>(gm k).isSome,n0,by rw[keepF_start];simpa using hrg0,hg0.but _⟩
 case round=>
  obtain⟨left,n,hrg,hgw⟩:=hrel
  have hbl:=hrg.fm.lt
  have hrl:=hrg.lt
  have hrw:w.heap.size≤wr.heap.size:=hgw.size
  go_wp2_with (first
   |(at_next;refine wpList_next_rg _ rfl _ rfl kP evI _ (fun _=>rfl) _ _ rfl hrg ?_ ?_)
   |go_in)
  ·intro hl0
   go_wp2
   go_end0
   exact⟨rfl,by have:=hrg.fm;rw[keepF_end gm hl0]at this;exact this,hgw⟩
  ·intro k v w1 n1 hk hlx hv hrg1 hlt hg1 hs1 hen
   have hgw1:=hgw.andThen hg1 (fun j hj=>by cases hj;exact Or.inl (Nat.le_refl _))
   have hgv:=keepF_get hv
   obtain⟨l,hkl⟩:=kP.key hk
   have hc:=HD.out
   have hgA:w1.grownBy (w1.alloc (.cells #[.int .i64 k.1,.int .i64 k.2] 163)) none:=World.grownBy_alloc _ _ _
   have kb:(w1.alloc (.cells #[.int .i64 k.1,.int .i64 k.2] 163)).heap[wr.heap.size]?=some (.cells #[.int .i64 k.1,.int .i64 k.2] 163 (0,0)):=heap_at hs1
   replace hc:=hc (w1.alloc (.cells #[.int .i64 k.1,.int .i64 k.2] 163)) k v (hgw1.andThen hgA (fun j hj=>by cases hj)) hk hgv
   have hrgA:=hrg1.kept hgA (by simp) (by simp)
   have hgwA:=hgw1.andThen hgA (fun j hj=>by cases hj)
   have hbA:wr.heap.size<(w1.alloc (.cells #[.int .i64 k.1,.int .i64 k.2] 163)).heap.size:=by simp only[World.size_alloc,hs1];omega
   have hk1:=Lib.hid hv
   have hk2:=Lib.hid hgv
   clear hv hgv
   cases hp:pd k v<;>rw[hp]at hc<;>have HP:=Lib.hid hp<;>clear hp
   ·go_wp2_with (first
     |(go_at_fn g;refine hc.mono ?_;rintro e w2 ⟨rfl,hg2⟩)
     |go_in)
    have hrg2:=hrgA.kept hg2 (by simp) (by simp)
    go_roundw
    case rel=>exact⟨_,n1,by rw[keepF_stays hk2.out HP.out];exact hrg2,hgwA.andThen hg2 (fun j hj=>by cases hj)⟩
    case measure=>rw[hrg2.left_eq,hrg.left_eq];exact hlt
   ·go_wp2_with (first
     |(go_at_fn g;refine hc.mono ?_;rintro e w2 ⟨rfl,hg2⟩;have hrg2:=hrgA.kept hg2 (by simp) (by simp);have kb2:=(hg2.block _ hbA (by simp)).trans kb;obtain⟨hcb,hfb⟩:=blk_cells kb2)
     |(at_delete;refine wpList_drop_rg _ rfl _ _ _ rfl kP Tryz.underlying129 _ _ rfl hrg2 _ _ rfl (hkl) ?_;intro w3 n3 hrg3 hle hg3 hs3;go_frame)
     |go_in)
    rw[strike2,keepF_gone _ hk2.out HP.out]at hrg3
    go_roundw
    case rel=>exact⟨_,n3,hrg3,(hgwA.andThen hg2 (fun j hj=>by cases hj)).andThen hg3 (fun j hj=>by cases hj;exact Or.inr rfl)⟩
    case measure=>rw[hrg3.left_eq,hrg.left_eq];omega
end Go.Proofs.YtcffonnijhhhiaaGreatDoor
namespace Go.Proofs.YtcffonnijhhhiaaGreatDoor
open Go Go.RowKit Mp
attribute [-simp] Prod.forall Prod.exists
def FS.put (F:FS)(n z:Int)(p:Int→Option Int):FS:= {F with used:=fun m=>decide (m=n)||F.used m,lots:=fun m=>if m=n then some ⟨z,p⟩else F.lots m}
theorem SM.put {w w1 w2 w3 w4:World}{B sb bu bl be bs:Nat}{ad:Int→Option (Nat×Nat)}{F:FS}(h:SM w B sb bu bl be bs ad F){n z:Int}{p:Int→Option Int}{x y:Nat}
  (h1:FM ekI okI w1 bu (upd (fU F.used) n (some (.bool true)))) (g1:w.grownBy w1 (some bu)) (s1:w1.heap.size=w.heap.size)
  (h2:FM ekI okI w2 x (fI p)) (g2:Below w1.heap.size w1 w2) (hx:w1.heap.size=x)
  (h3:w3=w2.alloc (.cells #[.int .i64 z,.map (some x)] 136)) (hy:w2.heap.size=y)
  (h4:FM ekI okI w4 bl (upd (fL ad) n (some (.pointer (some ⟨y,0,none⟩))))) (g4:w3.grownBy w4 (some bl)):
  SM w4 B sb bu bl be bs (fun m=>if m=n then some (y,x)else ad m) (F.put n z p)∧Below B w w4∧ ∀i,i<w.heap.size→sb≤i→w4.heap[i]?=w.heap[i]?:=by
 obtain⟨o1,o2,o3,o4,o5⟩:=h.ord
 have hs:=h.lt
 have hz2:=g2.size
 subst hx hy h3
 have keep: ∀i,i<w.heap.size→i≠bu→i≠bl→w4.heap[i]?=w.heap[i]?:=fun i hi h5 h6=>by
  rw[g4.block i (by simp;omega) (by simpa using h6),Below.heap_alloc _ _ _ (by omega),g2.block i (by omega),g1.block i hi (by simpa using h5)]
 refine⟨⟨h.ord,(keep _ hs (by omega) (by omega)).trans h.blk,?_,?_,h.eases.same (keep _ h.eases.lt (by omega) (by omega)),h.stints.same (keep _ h.stints.lt (by omega) (by omega)),fun m q hq=> ?_,fun m hm=> ?_,fun a b q r hq hr hab=> ?_⟩,?_,fun i h5 h6=>keep i h5 (by omega) (by omega)⟩
 ·have e:fU (F.put n z p).used=upd (fU F.used) n (some (.bool true)):=by
   funext m
   unfold fU FS.put upd
   by_cases e:m=n<;>simp[e]
  rw[e]
  refine h1.same ?_
  rw[g4.block bu (by simp;have:=h.used.lt;omega) (by simp;omega),Below.heap_alloc _ _ _ (by have:=h.used.lt;omega),g2.block bu (by have:=h.used.lt;omega)]
 ·have e:fL (fun m=>if m=n then some (w2.heap.size,w1.heap.size)else ad m)=upd (fL ad) n (some (.pointer (some ⟨w2.heap.size,0,none⟩))):=by
   funext m
   unfold fL upd
   by_cases e:m=n<;>simp[e]
  rw[e]
  exact h4
 ·by_cases e:m=n
  ·rw[if_pos e]at hq
   cases hq
   refine⟨⟨z,p⟩,by unfold FS.put;simp[e],by omega,by omega,?_,?_⟩
   ·rw[g4.block _ (by simp) (by simp;omega)]
    exact heap_alloc_new _ _
   ·refine h2.same ?_
    have:=h2.lt
    rw[g4.block _ (by simp;omega) (by simp;omega),Below.heap_alloc _ _ _ this]
  ·rw[if_neg e]at hq
   obtain⟨L,h5,h6,h7,h8,h9⟩:=h.each m q hq
   have l1:=(Array.getElem?_eq_some_iff.1 h8).1
   exact⟨L,by unfold FS.put;simp[e,h5],h6,h7,(keep _ l1 (by omega) (by omega)).trans h8,h9.same (keep _ h9.lt (by omega) (by omega))⟩
 ·by_cases e:m=n
  ·rw[if_pos e]at hm
   cases hm
  ·rw[if_neg e]at hm
   unfold FS.put
   simp[e,h.no m hm]
 ·by_cases e1:a=n
  ·rw[if_pos e1]at hq
   cases hq
   rw[if_neg (fun e=>hab (e1.trans e.symm))]at hr
   obtain⟨L,h5,h6,h7,h8,h9⟩:=h.each b r hr
   have l1:=(Array.getElem?_eq_some_iff.1 h8).1
   have l2:=h9.lt
   exact⟨by show w2.heap.size≠r.1;omega,by show w1.heap.size≠r.2;omega⟩
  ·rw[if_neg e1]at hq
   by_cases e2:b=n
   ·rw[if_pos e2]at hr
    cases hr
    obtain⟨L,h5,h6,h7,h8,h9⟩:=h.each a q hq
    have l1:=(Array.getElem?_eq_some_iff.1 h8).1
    have l2:=h9.lt
    exact⟨by show q.1≠w2.heap.size;omega,by show q.2≠w1.heap.size;omega⟩
   ·rw[if_neg e2]at hr
    exact h.apart a b q r hq hr hab
 ·have b1:Below B w w1:=⟨g1.os,g1.tape,g1.output,g1.size,fun i hi=>g1.block i (by omega) (by simp;omega)⟩
  have b2:=(b1.trans (g2.mono (by omega))).alloc (by omega) (.cells #[.int .i64 z,.map (some w1.heap.size)] 136)
  exact b2.trans ⟨g4.os,g4.tape,g4.output,g4.size,fun i hi=>g4.block i (by simp;omega) (by simp;omega)⟩
set_option maxRecDepth 100000 in
theorem put_a {w : World} {B sb bu bl be bs bp : Nat} {ad : Int → Option (Nat × Nat)} {F : FS} (h : SM w B sb bu bl be bs ad F) {n z : Int} {p : Int → Option Int} (hn : okI n) (hp : FM ekI okI w bp (fI p)) (hbp : bp ≠ bu) :
    Calls Tryz.prog 288 #[.pointer (some ⟨sb, 0, none⟩), .int .i64 n, .int .i64 z, .map (some bp)] w fun e w' => e = .returned (.tuple #[]) ∧ ∃ ad', SM w' B sb bu bl be bs ad' (F.put n z p) ∧ Below B w w' ∧ (∀ m, m ≠ n → ad' m = ad m) ∧ (∀ i, i < w.heap.size → sb ≤ i → w'.heap[i]? = w.heap[i]?) ∧ ∀ q, ad' n = some q → w.heap.size ≤ q.1 ∧ w.heap.size ≤ q.2 := by
  obtain ⟨hc, hf⟩ := blk_cells h.blk
  go_enter Tryz.func288, Tryz.ntmps288
  go_wp2_with (first
    | (at_mapUpdate; refine wpList_store_fm _ rfl _ _ _ _ rfl kI Tryz.underlying127 rfl h.used n rfl hn _ rfl ?_; intro w1 h1 g1 s1; have hs := h.lt; have kb := (g1.block sb hs (by have := h.ord; simp; omega)).trans h.blk; clear hc hf; obtain ⟨hc, hf⟩ := blk_cells kb)
    | go_in)
  go_frame
  have hz1 := h.lt
  obtain ⟨o1, o2, o3, o4, o5⟩ := h.ord
  have hbl := h.lots.lt
  have hp1 : FM ekI okI w1.drew bp (fI p) := hp.same (g1.block bp hp.lt (by simp; exact hbp))
  have c1 : w1.cell? ⟨sb, 1, none⟩ = some (.map (some bl)) := hc 1
  clear hc hf
  go_region_held3 (fun W => W.cell? ⟨sb, 1, none⟩ = some (.map (some bl))) (first | exact c1 | exact k2 | exact k3 | exact k4)
    ((go_at_call 313; refine (clone_i hp1).mono ?_; rintro e w2 ⟨rfl, h2, g2, s2⟩; replace s2 : w2.heap.size = w1.heap.size + 1 := s2; replace g2 : Below w1.heap.size w1 w2 := ⟨g2.os, g2.tape, g2.output, g2.size, g2.block⟩;
      have k2 : w2.cell? ⟨sb, 1, none⟩ = some (.map (some bl)) := (g2.cell (p := ⟨sb, 1, none⟩) (show sb < w1.heap.size by omega)).trans c1;
      have k3 : (w2.alloc (.cells #[.int .i64 z, .map (some w.heap.size)] 136)).cell? ⟨sb, 1, none⟩ = some (.map (some bl)) := ((Below.refl w2.heap.size w2).alloc (Nat.le_refl _) _).cell (p := ⟨sb, 1, none⟩) (show sb < w2.heap.size by omega) |>.trans k2;
      have hl2 : FM ekI okI (w2.alloc (.cells #[.int .i64 z, .map (some w.heap.size)] 136)) bl (fL ad) := ((h.lots.kept g1 (by simp; omega)).same (g2.block bl (show bl < w1.heap.size by omega))).alloc _;
      obtain ⟨w4, hrun, h4, g4, s4⟩ := hl2.update kI Tryz.underlying128 hn (.pointer (some ⟨w.heap.size + 1, 0, none⟩));
      have k4 := g4.cell k3 (by simp; omega)))
  go_wp2
  go_end0
  rw [show w1.drew.heap.size = w.heap.size from s1] at h2
  have hx := SM.put h h1 g1 s1 h2 g2 s1 rfl (show w2.heap.size = w.heap.size + 1 by omega) h4 g4
  exact ⟨rfl, _, hx.1, hx.2.1, fun m hm => if_neg hm, hx.2.2, fun q hq => by rw [if_pos rfl] at hq; cases hq; exact ⟨Nat.le_succ _, Nat.le_refl _⟩⟩
end Go.Proofs.YtcffonnijhhhiaaGreatDoor
namespace Go.Proofs.Rt
def idx {α:Type}(p:α→Bool):List α→Option Nat
 | []=>none
 | a :: l => if p a then some 0 else (idx p l).map (· + 1)
theorem idx_lt {α:Type}{p:α→Bool}{l:List α}{i:Nat}(h:idx p l=some i):i<l.length:=by
 induction l generalizing i with
 |nil=>cases h
 |cons a l ih=>
  unfold idx at h
  split at h
  ·cases h;simp
  ·obtain⟨j,hj,rfl⟩:=Option.map_eq_some_iff.1 h
   have:=ih hj
   simp;omega
def pos (o:Option Nat):Int:=match o with|some i=>(i:Int)|none=> -1
theorem idx_hit {α:Type}{p:α→Bool}{l:List α}{k:Nat}(hk:k<l.length)(h: ∀j (hj:j<k),p (l[j]'(by omega))=false)(hp:p l[k]=true):idx p l=some k:=by
 induction l generalizing k with
 |nil=>simp at hk
 |cons a l ih=>
  unfold idx
  cases k with
  |zero=>simp only[List.getElem_cons_zero]at hp;simp[hp]
  |succ k=>
   have h0:=h 0 (by omega)
   simp only[List.getElem_cons_zero]at h0
   simp only[h0,Bool.false_eq_true,if_false]
   rw[ih (k:=k) (by simpa using hk) (fun j hj=>by have:=h (j+1) (by omega);simpa using this) (by simpa using hp)]
   rfl
theorem idx_none {α:Type}{p:α→Bool}{l:List α}(h: ∀j (hj:j<l.length),p l[j]=false):idx p l=none:=by
 induction l with
 |nil=>rfl
 |cons a l ih=>
  unfold idx
  have h0:=h 0 (by simp)
  simp only[List.getElem_cons_zero]at h0
  simp only[h0,Bool.false_eq_true,if_false]
  rw[ih (fun j hj=>by have:=h (j+1) (by simpa using hj);simpa using this)]
  rfl
theorem pos_ge {o:Option Nat}:decide (0≤pos o)=o.isSome:=by
 cases o with
 |none=>rfl
 |some i=>simp[pos]
theorem idx_any {α:Type}(p:α→Bool)(l:List α):(idx p l).isSome=l.any p:=by
 induction l with
 |nil=>rfl
 |cons a l ih=>
  unfold idx
  cases h:p a
  ·simp[h,ih]
  ·simp[h]
end Go.Proofs.Rt
namespace Go.Proofs.YtcffonnijhhhiaaGreatDoor
open Go Go.RowKit
def encInt (n:Int):List Value:=[.int .i64 n]
abbrev Ints := @Seg Int encInt 1
theorem Ints.at1 {w:World}{B:Nat}{A:Option Addr}{l:List Int}(h:Ints w B A l){k:Nat}(hk:k<l.length):
  ∃b off,A=some ⟨b,off,none⟩∧b<B∧w.cell? ⟨b,off+k,none⟩=some (.int .i64 l[k]):=by
 obtain⟨b,off,hA,hb,hc⟩:=Seg.at_ h hk
 exact⟨b,off,hA,hb,by have:=hc 0 _ rfl;rwa[Nat.mul_one]at this⟩
theorem ret_bool {a b:Bool}(h:a=b):Ending.returned (.bool a)=.returned (.bool b):=by rw[h]
theorem idxF_i (A:Option Addr)(c:Nat)(l:List Int)(g:FuncId)(cap:Array Value)(p:Int→Bool)(w:World)(hl:Seg encInt 1 w w.heap.size A l)(hm:l.length≤1000000)
  (hen: ∀args w,(callFunc g args).run Tryz.prog w=.ok (.enter g args) w)
  (hp: ∀x∈l,∀W,Below w.heap.size w W→Calls Tryz.prog g (#[.int .i64 x]++cap) W fun e W'=>e=.returned (.bool (p x))∧Below W.heap.size W W'):
  Calls Tryz.prog 192 #[.slice A l.length c,.func (.func g) #[] cap] w fun e w'=>e=.returned (.int .i64 (Rt.pos (Rt.idx p l)))∧Below w.heap.size w w':=by
 go_enter Tryz.func192,Tryz.ntmps192
 go_wp2
 go_loopw [8] (fun i wr=> ∃(k:Nat),k≤l.length∧i=.int .i64 k∧Hid (∀j (h:j<l.length),j<k→p l[j]=false)∧Below w.heap.size w wr) (fun i _=>l.length-(intOf i).toNat)
 case atStart=>exact⟨0,by omega,rfl,Lib.hid fun j _ h=>by omega,by go_grown⟩
 case round=>
  obtain⟨k,hk,rfl,hg,hb⟩:=hrel
  have hsz:=hb.size
  by_cases hlt:k<l.length
  ·obtain⟨b,off,rfl,hbB,q0⟩:=Ints.at1 (hl.below hb) hlt
   have hpk:=Lib.hid (hp l[k] (List.getElem_mem hlt))
   cases hc:p l[k]with
   |true=>
    have hv:=Lib.hid (Rt.idx_hit (p:=p) hlt (fun j hj=>hg.out j (by omega) hj) hc)
    have HC:=Lib.hid hc
    clear hc
    go_wp2
    refine(hpk.out _ (by go_grown)).mono ?_
    rintro e w2 ⟨rfl,hx⟩
    rw[HC.out]
    have hb2:Below w.heap.size w w2:=Below.trans (by go_grown) (hx.mono (by go_size))
    clear hx
    go_wp2
    go_ret
    exact⟨by rw[hv.out];try rfl,hb2⟩
   |false=>
    have HC:=Lib.hid hc
    clear hc
    go_wp2
    refine(hpk.out _ (by go_grown)).mono ?_
    rintro e w2 ⟨rfl,hx⟩
    rw[HC.out]
    have hb2:Below w.heap.size w w2:=Below.trans (by go_grown) (hx.mono (by go_size))
    clear hx
    go_wp2
    go_roundw
    case rel=>exact⟨k+1,by omega,by go_num,Lib.hid fun j h hj=>by
     by_cases e:j=k
     ·subst e;exact HC.out
     ·exact hg.out j h (by omega),hb2⟩
    case measure=>first|(simp[intOf];done)|(simp[intOf];omega)
  ·have hv:=Lib.hid (Rt.idx_none (p:=p) (l:=l) fun j hj=>hg.out j hj (by omega))
   go_wp2
   go_ret
   exact⟨by rw[hv.out];try rfl,by go_grown⟩
theorem conF_i (A:Option Addr)(c:Nat)(l:List Int)(g:FuncId)(cap:Array Value)(p:Int→Bool)(w:World)(hl:Seg encInt 1 w w.heap.size A l)(hm:l.length≤1000000)
  (hen: ∀args w,(callFunc g args).run Tryz.prog w=.ok (.enter g args) w)
  (hp: ∀x∈l,∀W,Below w.heap.size w W→Calls Tryz.prog g (#[.int .i64 x]++cap) W fun e W'=>e=.returned (.bool (p x))∧Below W.heap.size W W'):
  Calls Tryz.prog 165 #[.slice A l.length c,.func (.func g) #[] cap] w fun e w'=>e=.returned (.bool (l.any p))∧Below w.heap.size w w':=by
 have HV:Hid (decide (0≤Rt.pos (Rt.idx p l))=l.any p):=by unfold Hid;rw[Rt.pos_ge,Rt.idx_any]
 go_enter Tryz.func165,Tryz.ntmps165
 go_wp2_with (go_at_call 192;refine(idxF_i A c l g cap p w hl hm hen hp).mono ?_;rintro e w1 ⟨rfl,hx1⟩;have hb1:Below w.heap.size w w1:=Below.trans (by go_grown) (hx1.mono (by go_size));clear hx1;have hsz1:w.heap.size≤w1.heap.size:=hb1.size)
 go_ret
 exact⟨ret_bool (by rw[←HV.out]),by go_grown⟩
end Go.Proofs.YtcffonnijhhhiaaGreatDoor
