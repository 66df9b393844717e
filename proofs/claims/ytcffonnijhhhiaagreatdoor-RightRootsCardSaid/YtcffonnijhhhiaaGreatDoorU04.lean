/- Part U04 of the proof: Sn Go Nd En Gr Wa. -/
import Derived.Test.YtcffonnijhhhiaaGreatDoorProg
import Derived.WalkKit
import Derived.WalkLawsBesides
import Derived.WalkSpells
import Derived.Handy
import Derived.Lib.Hide
import Derived.Great.BuildSlice
import Derived.Deep.QuietTactic
import Derived.BigQuiet
import Derived.Deep.RegionHeld3
import Derived.Deep.DeepCutAuto
import Derived.StillTailTactics
import Derived.Test.YtcffonnijhhhiaaGreatDoorU03
import Derived.Test.YtcffonnijhhhiaaGreatDoorU00
set_option linter.all false
set_option linter.unusedSimpArgs false
set_option linter.unusedVariables false
set_option linter.unusedSectionVars false
namespace Go.Proofs.YtcffonnijhhhiaaGreatDoor
open Go Go.RowKit Mp
section
variable {w w' : World} {B sb bu bl be bs : Nat} {ad : Int → Option (Nat × Nat)} {F : FS}
def New (w:World)(ad ad':Int→Option (Nat×Nat)):Prop:= ∀m q,ad' m=some q→(∃l,ad l=some q)∨w.heap.size≤q.1∧w.heap.size≤q.2
theorem New.refl (w:World)(ad:Int→Option (Nat×Nat)):New w ad ad:=fun m _ hq=> .inl ⟨m,hq⟩
theorem New.less {w:World}{ad ad':Int→Option (Nat×Nat)}(h:New w ad ad')(n:Int):New w ad fun m=>if m=n then none else ad' m:=fun m q hq=>by
 have hq:(if m=n then none else ad' m)=some q:=hq
 by_cases e:m=n
 ·rw[if_pos e]at hq
  cases hq
 ·rw[if_neg e]at hq
  exact h m q hq
theorem New.up {w w1:World}{ad ad':Int→Option (Nat×Nat)}(h:New w1 ad ad')(hw:w.heap.size≤w1.heap.size):New w ad ad':=fun m q hq=>by
 rcases h m q hq with h1|h1
 ·exact .inl h1
 ·exact .inr ⟨by omega,by omega⟩
structure Fr (B sb:Nat)(ad:Int→Option (Nat×Nat))(w w':World):Prop where
 bel:Below B w w'
 own: ∀i,i<w.heap.size→sb<i→(∀n p,ad n=some p→i≠p.1∧i≠p.2)→w'.heap[i]?=w.heap[i]?
section
variable {w1 w2 : World} {n r : Nat}
theorem Fr.of (hb:Below n w w')(hn:w.heap.size≤n)(hB:B≤n):Fr B sb ad w w':=⟨hb.mono hB,fun i hi _ _=>hb.block i (by omega)⟩
theorem Fr.size (h:Fr B sb ad w w'):w.heap.size≤w'.heap.size:=h.bel.size
theorem Fr.next (h:Fr B sb ad w w1)(hb:Below n w1 w2)(hn:w.heap.size≤n)(hB:B≤n):Fr B sb ad w w2:=
 ⟨h.bel.trans (hb.mono hB),fun i hi hs ha=>(hb.block i (by omega)).trans (h.own i hi hs ha)⟩
theorem Fr.drew (h:Fr B sb ad w w1):Fr B sb ad w w1.drew:=⟨below_drew h.bel,h.own⟩
theorem Fr.grow (h:Fr B sb ad w w1)(g:w1.grownBy w2 (some r))(hB:B≤r∧B≤w.heap.size)(hr:r≤sb∨w.heap.size≤r∨ ∃m q,ad m=some q∧(r=q.1∨r=q.2)):Fr B sb ad w w2:=by
 have hz:=h.bel.size
 refine⟨h.bel.grown g (by omega) (fun k e=>by cases e;exact hB.1),fun i hi hs ha=>(g.block i (by omega) ?_).trans (h.own i hi hs ha)⟩
 simp only[ne_eq,Option.some.injEq]
 rintro rfl
 rcases hr with h1|h1|⟨m,q,h1,h2⟩
 ·omega
 ·omega
 ·have:=ha m q h1
  rcases h2 with e|e
  ·exact this.1 e
  ·exact this.2 e
theorem Fr.put (h:Fr B sb ad w w1)(b:Below B w1 w2)(k: ∀i,i<w1.heap.size→sb≤i→w2.heap[i]?=w1.heap[i]?):Fr B sb ad w w2:=
 ⟨h.bel.trans b,fun i hi hs ha=>(k i (by have:=h.bel.size;omega) (by omega)).trans (h.own i hi hs ha)⟩
theorem Fr.comp {ad':Int→Option (Nat×Nat)}(h:Fr B sb ad w w1)(k:Fr B sb ad' w1 w2)(ha: ∀m q,ad' m=some q→(∃l,ad l=some q)∨w.heap.size≤q.1∧w.heap.size≤q.2):Fr B sb ad w w2:=
 ⟨h.bel.trans k.bel,fun i hi hs hn=>(k.own i (by have:=h.bel.size;omega) hs (fun m q hq=>by
  rcases ha m q hq with ⟨l,hl⟩|h1
  ·exact hn l q hl
  ·exact⟨by omega,by omega⟩)).trans (h.own i hi hs hn)⟩
end
theorem SM.drew (h:SM w B sb bu bl be bs ad F):SM w.drew B sb bu bl be bs ad F:=h.same fun _ _ _=>rfl
theorem SM.base (h:SM w B sb bu bl be bs ad F){b:Nat}(hb:B≤b)(g:w.grownBy w' (some b)):Below B w w':=
 ⟨g.os,g.tape,g.output,g.size,fun i hi=>g.block i (by have:=h.lt;have:=h.ord;omega) (by simp;omega)⟩
theorem SM.kept' {r:Nat}(h:SM w B sb bu bl be bs ad F)(g:w.grownBy w' (some r))(hs:sb<r)(ha: ∀n p,ad n=some p→p.1≠r∧p.2≠r):SM w' B sb bu bl be bs ad F:=by
 obtain⟨o1,o2,o3,o4,o5⟩:=h.ord
 have hz:=h.lt
 have keep: ∀i,i<w.heap.size→i≠r→w'.heap[i]?=w.heap[i]?:=fun i hi h5=>g.block i hi (by simpa using h5)
 refine⟨h.ord,(keep _ hz (by omega)).trans h.blk,h.used.same (keep _ h.used.lt (by omega)),h.lots.same (keep _ h.lots.lt (by omega)),h.eases.same (keep _ h.eases.lt (by omega)),h.stints.same (keep _ h.stints.lt (by omega)),fun n p hp=> ?_,h.no,h.apart⟩
 obtain⟨L,h1,h2,h3,h4,h5⟩:=h.each n p hp
 obtain⟨a1,a2⟩:=ha n p hp
 exact⟨L,h1,h2,h3,(keep _ (Array.getElem?_eq_some_iff.1 h4).1 a1).trans h4,h5.same (keep _ h5.lt a2)⟩
theorem gsc (W:World)(a:Addr)(v:Value):W.grownBy (W.setCell a v) (some a.block):=
 ⟨rfl,rfl,rfl,(KeepsWalks.setCell W _ v).size,fun k _ hk=>Below.heap_setCell _ _ _ k (fun e=>hk (by rw[e]))⟩
theorem hsc {W:World}{b j:Nat}{cs:Array Value}{t:TypeId}(v:Value)(h:W.heap[b]?=some (.cells cs t (0,0))):(W.setCell ⟨b,j,none⟩ v).heap[b]?=some (.cells (cs.setIfInBounds j v) t (0,0)):=by
 obtain⟨hlt,hk⟩:=Array.getElem?_eq_some_iff.1 h
 show(W.heap.modify b _)[b]?=_
 rw[Array.getElem?_eq_getElem (by rw[Array.size_modify];exact hlt),Array.getElem_modify_self,hk]
 rfl
theorem SM.lotlt (h:SM w B sb bu bl be bs ad F){n:Int}{p:Nat×Nat}(hp:ad n=some p):sb<p.1∧p.1<w.heap.size∧sb<p.2∧p.2<w.heap.size∧p.1≠p.2:=by
 obtain⟨L,_,h6,h7,h8,h9⟩:=h.each n p hp
 refine⟨h6,(Array.getElem?_eq_some_iff.1 h8).1,h7,h9.lt,fun e=> ?_⟩
 obtain⟨es,c,hb,_⟩:=h9
 rw[←e,h8]at hb
 cases hb
theorem SM.setParts (h:SM w B sb bu bl be bs ad F){n:Int}{p:Nat×Nat}{L:LotF}(hp:ad n=some p)(hL:F.lots n=some L){f:Int→Option Int}(hf:FM ekI okI w' p.2 (fI f))(g:w.grownBy w' (some p.2)):
  SM w' B sb bu bl be bs ad {F with lots:=fun m=>if m=n then some ⟨L.size,f⟩else F.lots m}:=by
 obtain⟨o1,o2,o3,o4,o5⟩:=h.ord
 obtain⟨l1,l2,l3,l4,l5⟩:=h.lotlt hp
 have hs:=h.lt
 have keep: ∀i,i<w.heap.size→i≠p.2→w'.heap[i]?=w.heap[i]?:=fun i hi h5=>g.block i hi (by simpa using h5)
 refine⟨h.ord,(keep _ hs (by omega)).trans h.blk,h.used.same (keep _ h.used.lt (by omega)),h.lots.same (keep _ h.lots.lt (by omega)),h.eases.same (keep _ h.eases.lt (by omega)),h.stints.same (keep _ h.stints.lt (by omega)),fun m q hq=> ?_,fun m hm=> ?_,h.apart⟩
 ·obtain⟨M,h5,h6,h7,h8,h9⟩:=h.each m q hq
  by_cases e:m=n
  ·subst e
   rw[hp]at hq
   cases hq
   rw[hL]at h5
   cases h5
   exact⟨_,if_pos rfl,h6,h7,(keep _ l2 l5).trans h8,hf⟩
  ·obtain⟨a1,a2⟩:=h.apart m n q p hq hp e
   have l6:=(Array.getElem?_eq_some_iff.1 h8).1
   have hne:q.1≠p.2:=fun e1=>by
    obtain⟨_,_,_,_,_,h10⟩:=h.each n p hp
    obtain⟨es,c,hb,_⟩:=h10
    rw[←e1,h8]at hb
    cases hb
   exact⟨M,by simp only[if_neg e,h5],h6,h7,(keep _ l6 hne).trans h8,h9.same (keep _ h9.lt a2)⟩
 ·by_cases e:m=n
  ·subst e
   rw[hp]at hm
   cases hm
  ·simp only[if_neg e,h.no m hm]
theorem SM.delLot (h:SM w B sb bu bl be bs ad F){n:Int}(hf:FM ekI okI w' bl (upd (fL ad) n none))(g:w.grownBy w' (some bl)):
  SM w' B sb bu bl be bs (fun m=>if m=n then none else ad m) {F with lots:=fun m=>if m=n then none else F.lots m}:=by
 obtain⟨o1,o2,o3,o4,o5⟩:=h.ord
 have hs:=h.lt
 have keep: ∀i,i<w.heap.size→i≠bl→w'.heap[i]?=w.heap[i]?:=fun i hi h5=>g.block i hi (by simpa using h5)
 refine⟨h.ord,(keep _ hs (by omega)).trans h.blk,h.used.same (keep _ h.used.lt (by omega)),?_,h.eases.same (keep _ h.eases.lt (by omega)),h.stints.same (keep _ h.stints.lt (by omega)),fun m q hq=> ?_,fun m hm=> ?_,fun a b q r hq hr hab=> ?_⟩
 ·have e:fL (fun m=>if m=n then none else ad m)=upd (fL ad) n none:=by
   funext m
   unfold fL upd
   by_cases e:m=n<;>simp[e]
  rw[e]
  exact hf
 ·by_cases e:m=n
  ·rw[if_pos e]at hq
   cases hq
  ·rw[if_neg e]at hq
   obtain⟨M,h5,h6,h7,h8,h9⟩:=h.each m q hq
   have l6:=(Array.getElem?_eq_some_iff.1 h8).1
   exact⟨M,by simp only[if_neg e,h5],h6,h7,(keep _ l6 (by omega)).trans h8,h9.same (keep _ h9.lt (by omega))⟩
 ·by_cases e:m=n
  ·simp only[if_pos e]
  ·rw[if_neg e]at hm
   simp only[if_neg e,h.no m hm]
 ·by_cases e1:a=n
  ·rw[if_pos e1]at hq
   cases hq
  ·by_cases e2:b=n
   ·rw[if_pos e2]at hr
    cases hr
   ·rw[if_neg e1]at hq
    rw[if_neg e2]at hr
    exact h.apart a b q r hq hr hab
theorem SM.each' (h:SM w B sb bu bl be bs ad F){x:Nat}(hx:x≤sb)(g:w.grownBy w' (some x))(n:Int)(p:Nat×Nat)(hp:ad n=some p): ∃L,F.lots n=some L∧sb<p.1∧sb<p.2∧w'.heap[p.1]?=some (oLt L.size p.2)∧FM ekI okI w' p.2 (fI L.parts):=by
 obtain⟨M,h5,h6,h7,h8,h9⟩:=h.each n p hp
 have l6:=(Array.getElem?_eq_some_iff.1 h8).1
 exact⟨M,h5,h6,h7,(g.block _ l6 (by simp;omega)).trans h8,h9.same (g.block _ h9.lt (by simp;omega))⟩
theorem SM.setEases (h:SM w B sb bu bl be bs ad F){f:Int×Int→Option Int}(hf:FM ekP okP w' be (fI f))(g:w.grownBy w' (some be)):SM w' B sb bu bl be bs ad {F with eases:=f}:=by
 obtain⟨o1,o2,o3,o4,o5⟩:=h.ord
 have hs:=h.lt
 have keep: ∀i,i<w.heap.size→i≠be→w'.heap[i]?=w.heap[i]?:=fun i hi h5=>g.block i hi (by simpa using h5)
 exact⟨h.ord,(keep _ hs (by omega)).trans h.blk,h.used.same (keep _ h.used.lt (by omega)),h.lots.same (keep _ h.lots.lt (by omega)),hf,h.stints.same (keep _ h.stints.lt (by omega)),h.each' (by omega) g,h.no,h.apart⟩
theorem SM.setStints (h:SM w B sb bu bl be bs ad F){f:Int×Int→Option (Int×Int)}(hf:FM ekP okP w' bs (fG f))(g:w.grownBy w' (some bs)):SM w' B sb bu bl be bs ad {F with stints:=f}:=by
 obtain⟨o1,o2,o3,o4,o5⟩:=h.ord
 have hs:=h.lt
 have keep: ∀i,i<w.heap.size→i≠bs→w'.heap[i]?=w.heap[i]?:=fun i hi h5=>g.block i hi (by simpa using h5)
 exact⟨h.ord,(keep _ hs (by omega)).trans h.blk,h.used.same (keep _ h.used.lt (by omega)),h.lots.same (keep _ h.lots.lt (by omega)),h.eases.same (keep _ h.eases.lt (by omega)),hf,h.each' (by omega) g,h.no,h.apart⟩
end
theorem gone1_a {w:World}{bx:Nat}{n:Int}(hx:w.heap[bx]?=some (.cells #[.int .i64 n] 3 (0,0)))(k v:Int×Int):
  Calls Tryz.prog 317 (#[ekP k,evG v]++ #[.pointer (some ⟨bx,0,none⟩)]) w fun e w'=>e=.returned (.bool (decide (k.1=n)))∧w.grownBy w' none:=by
 have hbx:=(Array.getElem?_eq_some_iff.1 hx).1
 obtain⟨hcx,hfx⟩:=blk_cells hx
 go_enter Tryz.func317,Tryz.ntmps317
 go_wp2
 go_ret
 exact⟨rfl,grownBy_of_below (by go_grown)⟩
theorem gone2_a {w:World}{bx:Nat}{n:Int}(hx:w.heap[bx]?=some (.cells #[.int .i64 n] 3 (0,0)))(k:Int×Int)(v:Int):
  Calls Tryz.prog 319 (#[ekP k,evI v]++ #[.pointer (some ⟨bx,0,none⟩)]) w fun e w'=>e=.returned (.bool (decide (k.1=n)||decide (k.2=n)))∧w.grownBy w' none:=by
 have hbx:=(Array.getElem?_eq_some_iff.1 hx).1
 obtain⟨hcx,hfx⟩:=blk_cells hx
 by_cases h1:k.1=n
 ·have h2:=Lib.hid h1
  have h3:(k.1==n)=true:=by simpa using h1
  clear h1
  go_enter Tryz.func319,Tryz.ntmps319
  go_wp2
  go_ret
  exact⟨ret_bool (by rw[h2.out];simp),grownBy_of_below (by go_grown)⟩
 ·have h2:=Lib.hid h1
  have h3:(k.1==n)=false:=by simpa using h1
  clear h1
  go_enter Tryz.func319,Tryz.ntmps319
  go_wp2
  go_ret
  exact⟨ret_bool (by simp[h2.out];rfl),grownBy_of_below (by go_grown)⟩
end Go.Proofs.YtcffonnijhhhiaaGreatDoor
namespace Go.Proofs.YtcffonnijhhhiaaGreatDoor
open Go Go.RowKit Mp
attribute [-simp] Prod.forall Prod.exists
def FS.gone (F:FS)(n:Int):FS:=
 ⟨F.used,fun m=>if m=n then none else F.lots m,fun k=>(F.eases k).filter fun _=> !(k.1==n||k.2==n),fun k=>(F.stints k).filter fun _=> !(k.1==n)⟩
theorem dfG {w:World}{b bx:Nat}{gm:Int×Int→Option (Int×Int)}{n:Int}(h:FM ekP okP w b fun k=>(gm k).map evG)(hx:w.heap[bx]?=some (.cells #[.int .i64 n] 3 (0,0))):
  Calls Tryz.prog 316 #[.map (some b),.func (.func 317) #[] #[.pointer (some ⟨bx,0,none⟩)]] w fun e w'=>
   e=.returned (.tuple #[])∧FM ekP okP w' b (fG fun k=>(gm k).filter fun _=> !(k.1==n))∧w.grownBy w' (some b):=by
 have hne:bx≠b:=fun e=>by
  obtain⟨es,c,hb,_⟩:=h
  rw[←e,hx]at hb
  cases hb
 exact delF_g h 317 #[.pointer (some ⟨bx,0,none⟩)] (fun k _=>k.1==n) (fun _ _=>by kernel_rfl) fun W k v hg _ _=>gone1_a ((hg.block bx (Array.getElem?_eq_some_iff.1 hx).1 (by simp;exact hne)).trans hx) k v
theorem dfP {w:World}{b bx:Nat}{gm:Int×Int→Option Int}{n:Int}(h:FM ekP okP w b fun k=>(gm k).map evI)(hx:w.heap[bx]?=some (.cells #[.int .i64 n] 3 (0,0))):
  Calls Tryz.prog 318 #[.map (some b),.func (.func 319) #[] #[.pointer (some ⟨bx,0,none⟩)]] w fun e w'=>
   e=.returned (.tuple #[])∧FM ekP okP w' b (fI fun k=>(gm k).filter fun _=> !(k.1==n||k.2==n))∧w.grownBy w' (some b):=by
 have hne:bx≠b:=fun e=>by
  obtain⟨es,c,hb,_⟩:=h
  rw[←e,hx]at hb
  cases hb
 exact delF_p h 319 #[.pointer (some ⟨bx,0,none⟩)] (fun k _=>k.1==n||k.2==n) (fun _ _=>by kernel_rfl) fun W k v hg _ _=>gone2_a ((hg.block bx (Array.getElem?_eq_some_iff.1 hx).1 (by simp;exact hne)).trans hx) k v
set_option maxRecDepth 100000 in
theorem gone_a {w:World}{B sb bu bl be bs:Nat}{ad:Int→Option (Nat×Nat)}{F:FS}(h:SM w B sb bu bl be bs ad F){n:Int}{p:Nat×Nat}(hn:i64 n)(hp:ad n=some p):
  Calls Tryz.prog 295 #[.pointer (some ⟨sb,0,none⟩),.int .i64 n] w fun e w'=>e=.returned (.tuple #[])∧SM w' B sb bu bl be bs (fun m=>if m=n then none else ad m) (F.gone n)∧Fr B sb ad w w':=by
 obtain⟨L,hL,_⟩:=h.each n p hp
 have HL:=Lib.hid hL
 have hz:=h.lt
 obtain⟨o1,o2,o3,o4,o5⟩:=h.ord
 obtain⟨l1,l2,l3,l4,l5⟩:=h.lotlt hp
 obtain⟨z,bm⟩:=p
 simp only at l1 l2 l3 l4 l5
 obtain⟨W,hW⟩: ∃W:World,W=(w.alloc (.cells #[.int .i64 n] 3)).drew:=⟨_,rfl⟩
 have kx:W.heap[w.heap.size]?=some (.cells #[.int .i64 n] 3 (0,0)):=by rw[hW];exact heap_alloc_new w (.cells #[.int .i64 n] 3)
 have b1:Fr B sb ad w W:=by rw[hW];exact(Fr.of ((Below.refl w.heap.size w).alloc (Nat.le_refl _) _) (Nat.le_refl _) (by omega)).drew
 have h1:SM W B sb bu bl be bs ad F:=by rw[hW];exact(h.below (by go_grown)).drew
 have HW:=Lib.hid hW
 have z1:w.heap.size<W.heap.size:=(Array.getElem?_eq_some_iff.1 kx).1
 clear hW
 obtain⟨M,hM,_,_,h8,h9⟩:=h1.each n _ hp
 obtain rfl:M=L:=by rw[hL]at hM;exact(Option.some.inj hM).symm
 obtain⟨w2,hrun2,f2,g2,s2⟩:=h9.clear Tryz.underlying134
 have h2:=h1.setParts (f:=fun _=>none) hp hL f2 g2
 have b2:=b1.grow g2 ⟨by omega,by omega⟩ (.inr (.inr ⟨n,_,hp,.inr rfl⟩))
 have k2:=(g2.block w.heap.size z1 (by simp;omega)).trans kx
 obtain⟨W2,hW2⟩: ∃W:World,W=w2.drew:=⟨_,rfl⟩
 have h2:=h2.drew
 have b2:=b2.drew
 have k2:W2.heap[w.heap.size]?=some (.cells #[.int .i64 n] 3 (0,0)):=by rw[hW2];exact k2
 rw[←hW2]at h2 b2
 have HW2:=Lib.hid hW2
 have z2:w.heap.size<W2.heap.size:=(Array.getElem?_eq_some_iff.1 k2).1
 clear hW2
 obtain⟨w3,hrun3,f3,g3,s3⟩:=h2.lots.delete kI Tryz.underlying128 (keyI hn.1 hn.2)
 have h3:=h2.delLot f3 g3
 have b3:=b2.grow g3 ⟨by omega,by omega⟩ (.inl (by omega))
 have k3:=(g3.block w.heap.size z2 (by simp;omega)).trans k2
 have hl:=h1.lLot hn
 rw[hp]at hl
 obtain⟨hc,hf⟩:=blk_cells h1.blk
 obtain⟨hcx,hfx⟩:=blk_cells kx
 obtain⟨hcz,hfz⟩:=blk_cells h8
 obtain⟨hc2,hf2⟩:=blk_cells h2.blk
 obtain⟨hcx2,hfx2⟩:=blk_cells k2
 obtain⟨hc3,hf3⟩:=blk_cells h3.blk
 have c1:=dfG h3.stints k3
 clear hL hp hM
 go_enter Tryz.func295,Tryz.ntmps295
 go_wp2
 refine still_tail HW.out 9 (by kernel_rfl) (by kernel_rfl) ?_
 simp only[List.take_succ_cons,List.take_zero,List.drop_succ_cons,List.drop_zero]
 repeat still_step
 refine wpStill_nil ?_
 go_wp2
 refine still_tail HW2.out 5 (by kernel_rfl) (by kernel_rfl) ?_
 simp only[List.take_succ_cons,List.take_zero,List.drop_succ_cons,List.drop_zero]
 repeat still_step
 refine wpStill_nil ?_
 go_wp2_with fail
 refine c1.mono ?_
 rintro e w4 ⟨rfl,f4,g4⟩
 have h4:=h3.setStints f4 g4
 have b4:=b3.grow g4 ⟨by omega,by omega⟩ (.inl (by omega))
 have k4:=(g4.block w.heap.size (by omega) (by simp;omega)).trans k3
 obtain⟨hc4,hf4⟩:=blk_cells h4.blk
 go_wp2_with fail
 refine(dfP h4.eases k4).mono ?_
 rintro e w5 ⟨rfl,f5,g5⟩
 have h5:=h4.setEases f5 g5
 have b5:=b4.grow g5 ⟨by omega,by omega⟩ (.inl (by omega))
 go_wp2
 go_end0
 have e:(fun m=>if m=n then none else if m=n then some ⟨M.size,fun _=>none⟩else F.lots m)=(fun m=>if m=n then none else F.lots m):=by
  funext m
  by_cases e:m=n<;>simp[e]
 rw[e]at h5
 exact⟨rfl,h5,b5⟩
end Go.Proofs.YtcffonnijhhhiaaGreatDoor
namespace Go.Proofs.YtcffonnijhhhiaaGreatDoor
open Go Go.RowKit Mp
section
variable {w : World} {B sb bu bl be bs : Nat} {ad : Int → Option (Nat × Nat)} {F : FS}
theorem needs_con (h:SM w B sb bu bl be bs ad F)(A:Option Addr)(c:Nat)(l:List Int)(hl:Ints w w.heap.size A l)(hm:l.length≤1000000)(hi: ∀n∈l,i64 n):
  Calls Tryz.prog 165 #[.slice A l.length c,.func (.func 314) #[] #[.pointer (some ⟨w.heap.size,0,none⟩)]] (w.alloc (.cells #[.pointer (some ⟨sb,0,none⟩)] 123)) fun e w'=>
   e=.returned (.bool (l.any fun n=>(F.lots n).isNone))∧Below (w.heap.size+1) (w.alloc (.cells #[.pointer (some ⟨sb,0,none⟩)] 123)) w':=by
 have hb:Below w.heap.size w (w.alloc (.cells #[.pointer (some ⟨sb,0,none⟩)] 123)):=by go_grown
 have kx:=heap_alloc_new w (.cells #[.pointer (some ⟨sb,0,none⟩)] 123)
 have:=conF_i A c l 314 #[.pointer (some ⟨w.heap.size,0,none⟩)] (fun n=>(F.lots n).isNone) _ (hl.up hb) hm (fun _ _=>by kernel_rfl) (fun n hn W hW=>by
  refine(needs1_a ((h.below hb).below hW) ((hW.block _ (by simp)).trans kx) (hi n hn)).mono ?_
  rintro e w' ⟨rfl,rfl⟩
  exact⟨rfl,Below.refl _ _⟩)
 simpa using this
theorem new_con (h:SM w B sb bu bl be bs ad F)(A:Option Addr)(c:Nat)(l:List Int)(hl:Ints w w.heap.size A l)(hm:l.length≤1000000)(hi: ∀n∈l,i64 n):
  Calls Tryz.prog 165 #[.slice A l.length c,.func (.func 312) #[] #[.pointer (some ⟨w.heap.size,0,none⟩)]] (w.alloc (.cells #[.pointer (some ⟨sb,0,none⟩)] 123)) fun e w'=>
   e=.returned (.bool (l.any fun n=>F.used n))∧Below (w.heap.size+1) (w.alloc (.cells #[.pointer (some ⟨sb,0,none⟩)] 123)) w':=by
 have hb:Below w.heap.size w (w.alloc (.cells #[.pointer (some ⟨sb,0,none⟩)] 123)):=by go_grown
 have kx:=heap_alloc_new w (.cells #[.pointer (some ⟨sb,0,none⟩)] 123)
 have:=conF_i A c l 312 #[.pointer (some ⟨w.heap.size,0,none⟩)] (fun n=>F.used n) _ (hl.up hb) hm (fun _ _=>by kernel_rfl) (fun n hn W hW=>by
  refine(new1_a ((h.below hb).below hW) ((hW.block _ (by simp)).trans kx) (hi n hn)).mono ?_
  rintro e w' ⟨rfl,rfl⟩
  exact⟨rfl,Below.refl _ _⟩)
 simpa using this
def EndU (bad:Bool)(E:Int)(w:World)(e:Ending)(w':World):Prop:=e=(if bad then .panicked (gave E)else .returned (.tuple #[]))∧Below w.heap.size w w'
theorem needs_a (h:SM w B sb bu bl be bs ad F)(A:Option Addr)(c:Nat)(l:List Int)(hl:Ints w w.heap.size A l)(hm:l.length≤1000000)(hi: ∀n∈l,i64 n):
  Calls Tryz.prog 289 #[.pointer (some ⟨sb,0,none⟩),.slice A l.length c] w (EndU (l.any fun n=>(F.lots n).isNone) 5 w):=by
 have hc:=needs_con h A c l hl hm hi
 cases hv:l.any fun n=>(F.lots n).isNone with
 |false=>
  rw[hv]at hc
  clear hv
  go_enter Tryz.func289,Tryz.ntmps289
  go_wp2_with (first
   |(go_at_call 165;refine hc.mono ?_;rintro e w1 ⟨rfl,hx⟩;have hb1:Below w.heap.size w w1:=Below.trans (by go_grown) (hx.mono (by simp)))
   |(go_at_call 290;refine(refuse_no _ _).mono ?_;rintro e w' ⟨rfl,rfl⟩))
  go_end0
  exact⟨rfl,hb1⟩
 |true=>
  rw[hv]at hc
  clear hv
  go_enter Tryz.func289,Tryz.ntmps289
  go_wp2_with (first
   |(go_at_call 165;refine hc.mono ?_;rintro e w1 ⟨rfl,hx⟩;have hb1:Below w.heap.size w w1:=Below.trans (by go_grown) (hx.mono (by simp)))
   |(go_at_call 290;refine(refuse_yes _ _).mono ?_;rintro e w' ⟨rfl,hx2⟩))
  exact⟨rfl,rfl,hb1.trans (hx2.mono hb1.size)⟩
theorem new_a (h:SM w B sb bu bl be bs ad F)(A:Option Addr)(c:Nat)(l:List Int)(hl:Ints w w.heap.size A l)(hm:l.length≤1000000)(hi: ∀n∈l,i64 n):
  Calls Tryz.prog 287 #[.pointer (some ⟨sb,0,none⟩),.slice A l.length c] w (EndU (l.any fun n=>F.used n) 6 w):=by
 have hc:=new_con h A c l hl hm hi
 cases hv:l.any fun n=>F.used n with
 |false=>
  rw[hv]at hc
  clear hv
  go_enter Tryz.func287,Tryz.ntmps287
  go_wp2_with (first
   |(go_at_call 165;refine hc.mono ?_;rintro e w1 ⟨rfl,hx⟩;have hb1:Below w.heap.size w w1:=Below.trans (by go_grown) (hx.mono (by simp)))
   |(go_at_call 290;refine(refuse_no _ _).mono ?_;rintro e w' ⟨rfl,rfl⟩))
  go_end0
  exact⟨rfl,hb1⟩
 |true=>
  rw[hv]at hc
  clear hv
  go_enter Tryz.func287,Tryz.ntmps287
  go_wp2_with (first
   |(go_at_call 165;refine hc.mono ?_;rintro e w1 ⟨rfl,hx⟩;have hb1:Below w.heap.size w w1:=Below.trans (by go_grown) (hx.mono (by simp)))
   |(go_at_call 290;refine(refuse_yes _ _).mono ?_;rintro e w' ⟨rfl,hx2⟩))
  exact⟨rfl,rfl,hb1.trans (hx2.mono hb1.size)⟩
end
end Go.Proofs.YtcffonnijhhhiaaGreatDoor
namespace Go.Proofs.YtcffonnijhhhiaaGreatDoor
open Go Go.RowKit Mp
attribute [-simp] Prod.forall Prod.exists
abbrev Dl :=Rt.Deal
abbrev xcs (x:Dl)(A1 A2:Option Addr)(c1 c2:Nat):Array Value:=
 #[.int .i64 x.id,.int .i64 x.day,.int .u8 x.kind,.int .i64 x.lot,.int .i64 x.other,.int .i64 x.fr,.int .i64 x.to,.int .i64 x.parts,.int .i64 x.size,.slice A1 x.into.length c1,.slice A2 x.sizes.length c2]
abbrev oDl (x:Dl)(A1 A2:Option Addr)(c1 c2:Nat):Obj:=.cells (xcs x A1 A2 c1 c2) 24
theorem okI.i64 {n:Int}(h:okI n):i64 n:=⟨by have:=h.1;omega,by have:=h.2;omega⟩
def EndK (w:World)(B sb bu bl be bs:Nat)(ad:Int→Option (Nat×Nat))(F':FS)(E:Int)(e:Ending)(w':World):Prop:=
 (E=0→e=.returned (.tuple #[])∧ ∃ad',SM w' B sb bu bl be bs ad' F'∧Fr B sb ad w w'∧New w ad ad')∧(E≠0→e=.panicked (gave E)∧Below w.heap.size w w')
theorem EndK.ok {w w':World}{B sb bu bl be bs:Nat}{ad ad':Int→Option (Nat×Nat)}{F':FS}{e:Ending}(he:e=.returned (.tuple #[]))(h:SM w' B sb bu bl be bs ad' F')(hb:Fr B sb ad w w')(hn:New w ad ad'):EndK w B sb bu bl be bs ad F' 0 e w':=
 ⟨fun _=>⟨he,_,h,hb,hn⟩,fun h=>absurd rfl h⟩
theorem EndK.no {w w':World}{B sb bu bl be bs:Nat}{ad:Int→Option (Nat×Nat)}{F':FS}{E:Int}{e:Ending}(hE:E≠0)(he:e=.panicked (gave E))(hb:Below w.heap.size w w'):EndK w B sb bu bl be bs ad F' E e w':=
 ⟨fun h=>absurd h hE,fun _=>⟨he,hb⟩⟩
section
variable {w : World} {B sb bu bl be bs : Nat} {ad : Int → Option (Nat × Nat)} {F : FS}
theorem ints1 {w:World}{b:Nat}{n:Int}(h:w.heap[b]?=some (.cells #[.int .i64 n] 3 (0,0))):Ints w w.heap.size (some ⟨b,0,none⟩) [n]:=by
 refine .inr ⟨b,0,rfl,(Array.getElem?_eq_some_iff.1 h).1,fun k x hk j v hv=> ?_⟩
 match k,hk with
 |0,hk=>
  cases hk
  match j,hv with
  |0,hv=>cases hv;exact(blk_cells h).1 0
theorem ints2 {w:World}{b:Nat}{n m:Int}(h:w.heap[b]?=some (.cells #[.int .i64 n,.int .i64 m] 3 (0,0))):Ints w w.heap.size (some ⟨b,0,none⟩) [n,m]:=by
 refine .inr ⟨b,0,rfl,(Array.getElem?_eq_some_iff.1 h).1,fun k x hk j v hv=> ?_⟩
 match k,hk with
 |0,hk=>
  cases hk
  match j,hv with
  |0,hv=>cases hv;exact(blk_cells h).1 0
 |1,hk=>
  cases hk
  match j,hv with
  |0,hv=>cases hv;exact(blk_cells h).1 1
theorem new_1 (h:SM w B sb bu bl be bs ad F){b:Nat}{n:Int}(hb:w.heap[b]?=some (.cells #[.int .i64 n] 3 (0,0)))(hn:i64 n):
  Calls Tryz.prog 287 #[.pointer (some ⟨sb,0,none⟩),.slice (some ⟨b,0,none⟩) 1 1] w (EndU (F.used n) 6 w):=by
 have:=new_a h (some ⟨b,0,none⟩) 1 [n] (ints1 hb) (by simp) (by simpa using hn)
 simpa using this
theorem needs_1 (h:SM w B sb bu bl be bs ad F){b:Nat}{n:Int}(hb:w.heap[b]?=some (.cells #[.int .i64 n] 3 (0,0)))(hn:i64 n):
  Calls Tryz.prog 289 #[.pointer (some ⟨sb,0,none⟩),.slice (some ⟨b,0,none⟩) 1 1] w (EndU (F.lots n).isNone 5 w):=by
 have:=needs_a h (some ⟨b,0,none⟩) 1 [n] (ints1 hb) (by simp) (by simpa using hn)
 simpa using this
theorem needs_2 (h:SM w B sb bu bl be bs ad F){b:Nat}{n m:Int}(hb:w.heap[b]?=some (.cells #[.int .i64 n,.int .i64 m] 3 (0,0)))(hn:i64 n)(hm:i64 m):
  Calls Tryz.prog 289 #[.pointer (some ⟨sb,0,none⟩),.slice (some ⟨b,0,none⟩) 2 2] w (EndU ((F.lots n).isNone||(F.lots m).isNone) 5 w):=by
 have:=needs_a h (some ⟨b,0,none⟩) 2 [n,m] (ints2 hb) (by simp) (by simp[hn,hm])
 simpa using this
def oneP (o:Int)(q:Int):Option Int:=if q=o then some 5040 else none
set_option maxRecDepth 100000 in
theorem enter_a (h:SM w B sb bu bl be bs ad F)(x:Dl)(A1 A2:Option Addr)(c1 c2:Nat)(h1:okI x.lot)(h2:okI x.to):
  Calls Tryz.prog 257 #[.pointer (some ⟨sb,0,none⟩),.agg (xcs x A1 A2 c1 c2)] w (EndK w B sb bu bl be bs ad (F.put x.lot x.size (oneP x.to)) (if F.used x.lot then 6 else 0)):=by
 have hz:=h.lt
 have ho:=h.ord
 have kx:=Below.heap_alloc (w.alloc (oDl x A1 A2 c1 c2)) (.cells #[.int .i64 x.lot] 3) _ (by simp)|>.trans (heap_alloc_new w (oDl x A1 A2 c1 c2))
 have ka:=heap_at (w:=w.alloc (oDl x A1 A2 c1 c2)) (o:=.cells #[.int .i64 x.lot] 3) (n:=w.heap.size+1) (by simp)
 have b1:Below w.heap.size w ((w.alloc (oDl x A1 A2 c1 c2)).alloc (.cells #[.int .i64 x.lot] 3)):=by go_grown
 have hc:=new_1 (h.below b1) ka h1.i64
 cases hu:F.used x.lot with
 |true=>
  rw[hu]at hc
  clear hu
  go_enter Tryz.func257,Tryz.ntmps257
  go_wp2_with (go_at_call 287;refine hc.mono ?_;rintro e w1 ⟨rfl,hx⟩)
  exact⟨rfl,EndK.no (by decide) rfl (b1.trans (hx.mono b1.size))⟩
 |false=>
  rw[hu]at hc
  clear hu
  go_enter Tryz.func257,Tryz.ntmps257
  go_wp2_with fail
  refine hc.mono ?_
  rintro e w1 ⟨rfl,hx⟩
  have b2:=b1.trans (hx.mono b1.size)
  have hx1:=hx.size
  simp only[World.size_alloc]at hx1
  have kx1:=(hx.block w.heap.size (by simp;omega)).trans kx
  obtain⟨hcx,hfx⟩:=blk_cells kx1
  have hlt1:w.heap.size<w1.heap.size:=by omega
  obtain⟨w3,hrun,f3,g3,s3⟩:=(FM.made (ek:=ekI) (ok:=okI) w1).update kI Tryz.underlying134 h2 (.int .i64 5040)
  have b3:Below w1.heap.size w1 w3:=((Below.refl _ w1).alloc (Nat.le_refl _) (.map #[] 0)).grown g3 (by simp) (by intro k e;cases e;simp)
  have h3:=(h.below b2).below b3
  have e3:upd (fun _=>none) x.to (some (.int .i64 5040))=fI (oneP x.to):=by
   funext q
   unfold upd fI oneP
   by_cases e:q=x.to<;>simp[e]
  rw[e3]at f3
  have kx3:=(b3.block w.heap.size (by omega)).trans kx1
  have hp:=put_a h3 (z:=x.size) h1 f3 (by omega)
  have hmm:= @run_makeMap Tryz.prog
  clear e3
  go_wp2_with fail
  refine hp.mono ?_
  rintro e w4 ⟨rfl,ad',h4,b4,a4,k4,n4⟩
  go_wp2
  go_end0
  exact EndK.ok rfl h4 ((Fr.of (b2.trans (b3.mono b2.size)) (Nat.le_refl _) (by omega)).put b4 k4) (fun m q hq=>by
   by_cases e:m=x.lot
   ·subst e
    have:=n4 q hq
    have:=b3.size
    exact .inr ⟨by omega,by omega⟩
   ·rw[a4 m e]at hq
    exact .inl ⟨m,hq⟩)
theorem FM.lookI {K:Type}{kt:TypeId}{ek:K→Value}{ok:K→Prop}{t:TypeId}{b:Nat}{f:K→Option Int}(h:FM ek ok w b (fI f))(T:Kt Tryz.prog kt ek ok)(ht:Tryz.prog.underlying t=some (.map kt 3)){k:K}{l:Lit}(hl:keyOf Tryz.prog kt (ek k)=some l):
  (Instr.lookup t (.map (some b)) (ek k) false).run Tryz.prog w=.ok (.int .i64 ((f k).getD 0)) w∧(Instr.lookup t (.map (some b)) (ek k) true).run Tryz.prog w=.ok (.tuple #[.int .i64 ((f k).getD 0),.bool (f k).isSome]) w:=by
 obtain⟨h1,h2⟩:=h.lookup T ht (zero_int w) hl
 rw[h1,h2]
 unfold fI
 cases f k<;>exact⟨rfl,rfl⟩
def grantP (p:Int→Option Int)(a b n:Int)(o:Int):Option Int:=(if o=b then some ((p b).getD 0+n)else if o=a then some ((p a).getD 0-n)else p o).filter fun v=> !(v==0)
def FS.parts (F:FS)(n:Int):Int→Option Int:=match F.lots n with|some L=>L.parts|none=>fun _=>none
def FS.grant (F:FS)(n a b k:Int):FS:= {F with lots:=fun m=>if m=n then (F.lots n).map fun L=>⟨L.size,grantP L.parts a b k⟩else F.lots m}
theorem grant1_a (k v:Int)(w:World):Calls Tryz.prog 292 (#[ekI k,evI v]++ #[]) w fun e w'=>e=.returned (.bool (v==0))∧w.grownBy w' none:=by
 go_enter Tryz.func292,Tryz.ntmps292
 go_wp2
 go_ret
 exact⟨rfl,World.grownBy.refl _ _⟩
def PartsOk (p:Int→Option Int):Prop:= ∀o v,p o=some v→1≤v∧v≤5040
theorem PartsOk.get {p:Int→Option Int}(h:PartsOk p)(o:Int):0≤(p o).getD 0∧(p o).getD 0≤5040:=by
 cases e:p o with
 |none=>simp
 |some v=>have:=h o v e;simp;omega
set_option maxRecDepth 100000 in
theorem grant_none (h:SM w B sb bu bl be bs ad F)(x:Dl)(A1 A2:Option Addr)(c1 c2:Nat)(h1:okI x.lot)(hL:F.lots x.lot=none)(F':FS):
  Calls Tryz.prog 258 #[.pointer (some ⟨sb,0,none⟩),.agg (xcs x A1 A2 c1 c2)] w (EndK w B sb bu bl be bs ad F' 5):=by
 have hz:=h.lt
 have ka:=heap_at (w:=w.alloc (oDl x A1 A2 c1 c2)) (o:=.cells #[.int .i64 x.lot] 3) (n:=w.heap.size+1) (by simp)
 have b1:Below w.heap.size w ((w.alloc (oDl x A1 A2 c1 c2)).alloc (.cells #[.int .i64 x.lot] 3)):=by go_grown
 have hc:=needs_1 (h.below b1) ka h1.i64
 rw[hL]at hc
 clear hL
 go_enter Tryz.func258,Tryz.ntmps258
 go_wp2_with (go_at_call 289;refine hc.mono ?_;rintro e w1 ⟨rfl,hx⟩)
 exact⟨rfl,EndK.no (by decide) rfl (b1.trans (hx.mono b1.size))⟩
end
end Go.Proofs.YtcffonnijhhhiaaGreatDoor
namespace Go.Proofs.YtcffonnijhhhiaaGreatDoor
open Go Go.RowKit Mp
attribute [-simp] Prod.forall Prod.exists
theorem grantP_eq {p:Int→Option Int}{a b k x y:Int}(hab:a≠b):
  (fun o=>((upd (upd (fI p) a (some (.int .i64 (x-k)))) b (some (.int .i64 (y+k))) o)))=fI fun o=>if o=b then some (y+k)else if o=a then some (x-k)else p o:=by
 funext o
 unfold upd fI
 by_cases h1:o=b
 ·simp[h1]
 ·by_cases h2:o=a
  ·simp[h2,hab]
  ·simp[h1,h2]
theorem dfN {w:World}{b:Nat}{gm:Int→Option Int}(h:FM ekI okI w b (fI gm)):
  Calls Tryz.prog 291 #[.map (some b),.func (.func 292) #[] #[]] w fun e w'=>e=.returned (.tuple #[])∧FM ekI okI w' b (fI fun k=>(gm k).filter fun v=> !(v==0))∧w.grownBy w' (some b):=
 delF_i h 292 #[] (fun _ v=>v==0) (fun _ _=>by kernel_rfl) fun W k v _ _ _=>grant1_a k v W
set_option maxRecDepth 100000 in
set_option maxHeartbeats 1000000 in
theorem grant_a {w:World}{B sb bu bl be bs:Nat}{ad:Int→Option (Nat×Nat)}{F:FS}(h:SM w B sb bu bl be bs ad F)(x:Dl)(A1 A2:Option Addr)(c1 c2:Nat){L:LotF}(h1:okI x.lot)(h2:okI x.fr)(h3:okI x.to)(hab:x.fr≠x.to)(hk:1≤x.parts∧x.parts≤5040)
  (hL:F.lots x.lot=some L) (hP:PartsOk L.parts):
  Calls Tryz.prog 258 #[.pointer (some ⟨sb,0,none⟩),.agg (xcs x A1 A2 c1 c2)] w (EndK w B sb bu bl be bs ad (F.grant x.lot x.fr x.to x.parts) (if (L.parts x.fr).getD 0<x.parts then 70 else 0)):=by
 have hz:=h.lt
 have ho:=h.ord
 obtain⟨k1,k2⟩:=hk
 have hp1:=hP.get x.fr
 have hp2:=hP.get x.to
 cases hp:ad x.lot with
 |none=>rw[h.no _ hp]at hL;cases hL
 |some p=>
 have kx:=Below.heap_alloc (w.alloc (oDl x A1 A2 c1 c2)) (.cells #[.int .i64 x.lot] 3) _ (by simp)|>.trans (heap_alloc_new w (oDl x A1 A2 c1 c2))
 have ka:=heap_at (w:=w.alloc (oDl x A1 A2 c1 c2)) (o:=.cells #[.int .i64 x.lot] 3) (n:=w.heap.size+1) (by simp)
 have b1:Below w.heap.size w ((w.alloc (oDl x A1 A2 c1 c2)).alloc (.cells #[.int .i64 x.lot] 3)):=by go_grown
 have hc:=needs_1 (h.below b1) ka h1.i64
 rw[hL]at hc
 obtain⟨px,hpx⟩: ∃px,(L.parts x.fr).getD 0=px:=⟨_,rfl⟩
 obtain⟨py,hpy⟩: ∃py,(L.parts x.to).getD 0=py:=⟨_,rfl⟩
 rw[hpx]at hp1 ⊢
 rw[hpy]at hp2
 obtain⟨hp1,hp1'⟩:=hp1
 obtain⟨hp2,hp2'⟩:=hp2
 have HF:=Lib.hid (show F.grant x.lot x.fr x.to x.parts= {F with lots:=fun m=>if m=x.lot then some ⟨L.size,fun o=>(if o=x.to then some (py+x.parts)else if o=x.fr then some (px-x.parts)else L.parts o).filter fun v=> !(v==0)⟩else F.lots m} by
  unfold FS.grant grantP
  rw[hL]
  simp only[Option.map_some,hpx,hpy])
 have HE:=Lib.hid (grantP_eq (p:=L.parts) (k:=x.parts) (x:=px) (y:=py) hab)
 have HPX:=Lib.hid hpx
 have HPY:=Lib.hid hpy
 have HL:=Lib.hid hL
 have Hp:=Lib.hid hp
 generalize hE:(if px<x.parts then (70:Int)else 0)=E
 have HN:=Lib.hid hE
 clear hL hpx hpy hp hE
 go_enter Tryz.func258,Tryz.ntmps258
 go_wp2_with fail
 refine hc.mono ?_
 rintro e w1 ⟨rfl,hx⟩
 have b2:=b1.trans (hx.mono b1.size)
 have hx1:=hx.size
 simp only[World.size_alloc]at hx1
 obtain⟨W,hW⟩: ∃W:World,W=w1.drew:=⟨_,rfl⟩
 have hZ:W.heap.size=w1.heap.size:=by rw[hW];rfl
 have b2:Below w.heap.size w W:=by rw[hW];exact below_drew b2
 have kx1:W.heap[w.heap.size]?=some (oDl x A1 A2 c1 c2):=by rw[hW];exact(hx.block w.heap.size (by simp;omega)).trans kx
 have hs1:=(h.below b2)
 have HW:=Lib.hid hW
 have hz1:w.heap.size+2≤W.heap.size:=by omega
 clear hW hZ
 obtain⟨L',hL',_,_,h8,h9⟩:=hs1.each _ _ Hp.out
 obtain rfl:L'=L:=by rw[HL.out]at hL';exact(Option.some.inj hL').symm
 obtain⟨l1,l2,l3,l4,l5⟩:=h.lotlt Hp.out
 obtain⟨z,bm⟩:=p
 simp only at l1 l2 l3 l4 l5 h8 h9
 have hl:=hs1.lLot h1.i64
 rw[Hp.out]at hl
 have hk:=(FM.lookI h9 kI Tryz.underlying134 (keyI h2.i64.1 h2.i64.2)).1
 rw[HPX.out]at hk
 obtain⟨hc1,hf1⟩:=blk_cells hs1.blk
 obtain⟨hcx,hfx⟩:=blk_cells kx1
 obtain⟨hcz,hfz⟩:=blk_cells h8
 clear hL' hc
 by_cases hlt:px<x.parts
 ·obtain rfl:E=70:=by rw[←HN.out,if_pos hlt]
  clear HN
  go_wp2
  refine still_all HW.out (by kernel_rfl) (by kernel_rfl) ?_
  repeat still_step
  refine wpStill_nil ?_
  go_wp2_with (go_at_call 290;refine(refuse_yes _ _).mono ?_;rintro e w' ⟨rfl,hy⟩)
  exact⟨rfl,EndK.no (by decide) rfl (b2.trans (hy.mono b2.size))⟩
 ·obtain rfl:E=0:=by rw[←HN.out,if_neg hlt]
  clear HN
  have hq:decide (px<x.parts)=false:=decide_eq_false hlt
  have hge:x.parts≤px:=by omega
  clear hlt
  obtain⟨w3,hrun3,f3,g3,s3⟩:=h9.update kI Tryz.underlying134 h2 (.int .i64 (px-x.parts))
  have hk3:=(f3.lookup kI Tryz.underlying134 (zero_int w3) (keyI h3.i64.1 h3.i64.2)).1
  have e3:(upd (fI L'.parts) x.fr (some (.int .i64 (px-x.parts))) x.to).getD (.int .i64 0)=.int .i64 py:=by
   rw[upd_ne _ _ (fun e=>hab e.symm),←HPY.out]
   unfold fI
   cases L'.parts x.to<;>rfl
  rw[e3]at hk3
  obtain⟨w4,hrun4,f4,g4,s4⟩:=f3.update kI Tryz.underlying134 h3 (.int .i64 (py+x.parts))
  have kx3:=(g3.block w.heap.size (by omega) (by simp;omega)).trans kx1
  have e4:=HE.out
  rw[show(upd (upd (fI L'.parts) x.fr (some (.int .i64 (px-x.parts)))) x.to (some (.int .i64 (py+x.parts))))=_ from e4]at f4
  clear e3 e4
  have hd:=dfN f4
  obtain⟨hcx3,hfx3⟩:=blk_cells kx3
  go_wp2
  refine still_all HW.out (by kernel_rfl) (by kernel_rfl) ?_
  repeat still_step
  refine wpStill_nil ?_
  go_wp2_with fail
  refine(refuse_no _ _).mono ?_
  rintro e w' ⟨rfl,rfl⟩
  go_wp2_with fail
  refine hd.mono ?_
  rintro e w5 ⟨rfl,f5,g5⟩
  go_wp2
  go_end0
  have gt:W.grownBy w5 (some bm):=(g3.trans g4).trans g5
  have hr:=hs1.setParts (p:=(z,bm)) Hp.out HL.out f5 gt
  rw[HF.out]
  exact EndK.ok rfl hr ((Fr.of b2 (Nat.le_refl _) (by omega)).grow gt ⟨by omega,by omega⟩ (.inr (.inr ⟨x.lot,_,Hp.out,.inr rfl⟩))) (New.refl _ _)
end Go.Proofs.YtcffonnijhhhiaaGreatDoor
namespace Go.Proofs.YtcffonnijhhhiaaGreatDoor
open Go Go.RowKit Mp
attribute [-simp] Prod.forall Prod.exists
def FS.way (F:FS)(a b d:Int):FS:= {F with eases:=fun k=>if k=(a,b)then some d else F.eases k}
def FS.release (F:FS)(a b:Int):FS:= {F with eases:=fun k=>if k=(a,b)then none else F.eases k}
def FS.stint (F:FS)(a b n d:Int):FS:= {F with stints:=fun k=>if k=(a,b)then some (n,d)else F.stints k}
def FS.fin (F:FS)(a b:Int):FS:= {F with stints:=fun k=>if k=(a,b)then none else F.stints k}
section
variable {w : World} {B sb bu bl be bs : Nat} {ad : Int → Option (Nat × Nat)} {F : FS}
theorem SM.lEase (h:SM w B sb bu bl be bs ad F){a b:Int}(ha:i64 a)(hb:i64 b):
  (Instr.lookup 129 (.map (some be)) (.agg #[.int .i64 a,.int .i64 b]) true).run Tryz.prog w=.ok (.tuple #[.int .i64 ((F.eases (a,b)).getD 0),.bool (F.eases (a,b)).isSome]) w:=by
 obtain⟨l,hl⟩:=keyP (p:=(a,b)) ha.1 ha.2 hb.1 hb.2
 exact(FM.lookI h.eases kP Tryz.underlying129 hl).2
theorem SM.lStint (h:SM w B sb bu bl be bs ad F){a b:Int}(ha:i64 a)(hb:i64 b)(c:Bool):
  (Instr.lookup 130 (.map (some bs)) (.agg #[.int .i64 a,.int .i64 b]) c).run Tryz.prog w=
   .ok (if c then .tuple #[.agg #[.int .i64 ((F.stints (a,b)).getD (0,0)).1,.int .i64 ((F.stints (a,b)).getD (0,0)).2],.bool (F.stints (a,b)).isSome]else .agg #[.int .i64 ((F.stints (a,b)).getD (0,0)).1,.int .i64 ((F.stints (a,b)).getD (0,0)).2]) w:=by
 obtain⟨l,hl⟩:=keyP (p:=(a,b)) ha.1 ha.2 hb.1 hb.2
 obtain⟨h1,h2⟩:=h.stints.lookup kP Tryz.underlying130 (zero_grz w) hl
 have e:((fG F.stints (a,b)).getD (.agg #[.int .i64 0,.int .i64 0]))=.agg #[.int .i64 ((F.stints (a,b)).getD (0,0)).1,.int .i64 ((F.stints (a,b)).getD (0,0)).2]:=by
  unfold fG
  cases F.stints (a,b)<;>rfl
 have e2:(fG F.stints (a,b)).isSome=(F.stints (a,b)).isSome:=by
  unfold fG
  cases F.stints (a,b)<;>rfl
 rw[e]at h1 h2
 rw[e2]at h2
 cases c
 ·exact h1
 ·exact h2
theorem SM.way (h:SM w B sb bu bl be bs ad F){a b d:Int}(ha:okI a)(hb:okI b):
  ∃w',(Instr.mapUpdate 129 (.map (some be)) (.agg #[.int .i64 a,.int .i64 b]) (.int .i64 d)).run Tryz.prog w=.ok () w'∧SM w' B sb bu bl be bs ad (F.way a b d)∧Below B w w'∧w.grownBy w' (some be):=by
 obtain⟨w',h1,h2,h3,h4⟩:=h.eases.update kP Tryz.underlying129 (k:=(a,b)) ⟨ha,hb⟩ (.int .i64 d)
 have e:upd (fI F.eases) (a,b) (some (.int .i64 d))=fI fun k=>if k=(a,b)then some d else F.eases k:=by
  funext k
  by_cases hk:k=(a,b)<;>simp[upd,fI,hk]
 rw[e]at h2
 exact⟨w',h1,h.setEases h2 h3,h.base (by have:=h.ord;omega) h3,h3⟩
theorem SM.release (h:SM w B sb bu bl be bs ad F){a b:Int}(ha:i64 a)(hb:i64 b):
  ∃w',(∀ty,(Builtin.delete_ #[129,163] ty #[.map (some be),.agg #[.int .i64 a,.int .i64 b]]).run Tryz.prog w=.ok (.tuple #[]) w')∧SM w' B sb bu bl be bs ad (F.release a b)∧Below B w w'∧w.grownBy w' (some be):=by
 obtain⟨l,hl⟩:=keyP (p:=(a,b)) ha.1 ha.2 hb.1 hb.2
 obtain⟨w',h1,h2,h3,h4⟩:=h.eases.delete kP Tryz.underlying129 hl
 have e:upd (fI F.eases) (a,b) none=fI fun k=>if k=(a,b)then none else F.eases k:=by
  funext k
  by_cases hk:k=(a,b)<;>simp[upd,fI,hk]
 rw[e]at h2
 exact⟨w',h1,h.setEases h2 h3,h.base (by have:=h.ord;omega) h3,h3⟩
theorem SM.stint (h:SM w B sb bu bl be bs ad F){a b n d:Int}(ha:okI a)(hb:okI b):
  ∃w',(Instr.mapUpdate 130 (.map (some bs)) (.agg #[.int .i64 a,.int .i64 b]) (.agg #[.int .i64 n,.int .i64 d])).run Tryz.prog w=.ok () w'∧SM w' B sb bu bl be bs ad (F.stint a b n d)∧Below B w w'∧w.grownBy w' (some bs):=by
 obtain⟨w',h1,h2,h3,h4⟩:=h.stints.update kP Tryz.underlying130 (k:=(a,b)) ⟨ha,hb⟩ (.agg #[.int .i64 n,.int .i64 d])
 have e:upd (fG F.stints) (a,b) (some (.agg #[.int .i64 n,.int .i64 d]))=fG fun k=>if k=(a,b)then some (n,d)else F.stints k:=by
  funext k
  by_cases hk:k=(a,b)<;>simp[upd,fG,hk]
 rw[e]at h2
 exact⟨w',h1,h.setStints h2 h3,h.base (by have:=h.ord;omega) h3,h3⟩
theorem SM.fin (h:SM w B sb bu bl be bs ad F){a b:Int}(ha:i64 a)(hb:i64 b):
  ∃w',(∀ty,(Builtin.delete_ #[130,163] ty #[.map (some bs),.agg #[.int .i64 a,.int .i64 b]]).run Tryz.prog w=.ok (.tuple #[]) w')∧SM w' B sb bu bl be bs ad (F.fin a b)∧Below B w w'∧w.grownBy w' (some bs):=by
 obtain⟨l,hl⟩:=keyP (p:=(a,b)) ha.1 ha.2 hb.1 hb.2
 obtain⟨w',h1,h2,h3,h4⟩:=h.stints.delete kP Tryz.underlying130 hl
 have e:upd (fG F.stints) (a,b) none=fG fun k=>if k=(a,b)then none else F.stints k:=by
  funext k
  by_cases hk:k=(a,b)<;>simp[upd,fG,hk]
 rw[e]at h2
 exact⟨w',h1,h.setStints h2 h3,h.base (by have:=h.ord;omega) h3,h3⟩
set_option maxRecDepth 100000 in
theorem way_a (h:SM w B sb bu bl be bs ad F)(x:Dl)(A1 A2:Option Addr)(c1 c2:Nat)(h1:okI x.lot)(h2:okI x.other):
  Calls Tryz.prog 261 #[.pointer (some ⟨sb,0,none⟩),.agg (xcs x A1 A2 c1 c2)] w (EndK w B sb bu bl be bs ad (F.way x.lot x.other x.id) (if (F.lots x.lot).isNone||(F.lots x.other).isNone then 5 else if (F.eases (x.lot,x.other)).isSome then 6 else 0)):=by
 have hz:=h.lt
 have ho:=h.ord
 have kx:=Below.heap_alloc (w.alloc (oDl x A1 A2 c1 c2)) (.cells #[.int .i64 x.lot,.int .i64 x.other] 3) _ (by simp)|>.trans (heap_alloc_new w (oDl x A1 A2 c1 c2))
 have ka:=heap_at (w:=w.alloc (oDl x A1 A2 c1 c2)) (o:=.cells #[.int .i64 x.lot,.int .i64 x.other] 3) (n:=w.heap.size+1) (by simp)
 have b1:Below w.heap.size w ((w.alloc (oDl x A1 A2 c1 c2)).alloc (.cells #[.int .i64 x.lot,.int .i64 x.other] 3)):=by go_grown
 have hc:=needs_2 (h.below b1) ka h1.i64 h2.i64
 generalize ((F.lots x.lot).isNone||(F.lots x.other).isNone)=v1 at hc ⊢
 cases v1 with
 |true=>
  simp only[if_true]
  go_enter Tryz.func261,Tryz.ntmps261
  go_wp2_with (go_at_call 289;refine hc.mono ?_;rintro e w1 ⟨rfl,hx⟩)
  exact⟨rfl,EndK.no (by decide) rfl (b1.trans (hx.mono b1.size))⟩
 |false=>
  simp only[Bool.false_eq_true,if_false]
  generalize hE:(if (F.eases (x.lot,x.other)).isSome=true then (6:Int)else 0)=E
  have HN:=Lib.hid hE
  clear hE
  go_enter Tryz.func261,Tryz.ntmps261
  go_wp2_with fail
  refine hc.mono ?_
  rintro e w1 ⟨rfl,hx⟩
  have hx1:=hx.size
  simp only[World.size_alloc]at hx1
  obtain⟨W,hW⟩: ∃W:World,W=w1.drew:=⟨_,rfl⟩
  have b2:Below w.heap.size w W:=by rw[hW];exact below_drew (b1.trans (hx.mono b1.size))
  have kx1:W.heap[w.heap.size]?=some (oDl x A1 A2 c1 c2):=by rw[hW];exact(hx.block w.heap.size (by simp;omega)).trans kx
  have HW:=Lib.hid hW
  have hz1:w.heap.size<W.heap.size:=(Array.getElem?_eq_some_iff.1 kx1).1
  clear hW
  have hs1:=h.below b2
  have hl:=hs1.lEase h1.i64 h2.i64
  obtain⟨hc1,hf1⟩:=blk_cells hs1.blk
  obtain⟨hcx,hfx⟩:=blk_cells kx1
  generalize hv:(F.eases (x.lot,x.other)).isSome=v2 at hl HN
  clear hv hc
  cases v2 with
  |true=>
   obtain rfl:E=6:=by have:=HN.out;simpa using this.symm
   clear HN
   go_wp2
   refine still_all HW.out (by kernel_rfl) (by kernel_rfl) ?_
   repeat still_step
   refine wpStill_nil ?_
   go_wp2_with (go_at_call 290;refine(refuse_yes _ _).mono ?_;rintro e w' ⟨rfl,hy⟩)
   exact⟨rfl,EndK.no (by decide) rfl (b2.trans (hy.mono b2.size))⟩
  |false=>
   obtain rfl:E=0:=by have:=HN.out;simpa using this.symm
   clear HN
   obtain⟨W2,hW2⟩: ∃W2:World,W2=W.drew:=⟨_,rfl⟩
   have b3:Below w.heap.size w W2:=by rw[hW2];exact below_drew b2
   have kx2:W2.heap[w.heap.size]?=some (oDl x A1 A2 c1 c2):=by rw[hW2];exact kx1
   have HW2:=Lib.hid hW2
   clear hW2
   obtain⟨w3,hrun,h3,b4,g3⟩:=(h.below b3).way (d:=x.id) h1 h2
   obtain⟨hc2,hf2⟩:=blk_cells (h.below b3).blk
   obtain⟨hcx2,hfx2⟩:=blk_cells kx2
   go_wp2
   refine still_all HW.out (by kernel_rfl) (by kernel_rfl) ?_
   repeat still_step
   refine wpStill_nil ?_
   go_wp2_with fail
   refine(refuse_no _ _).mono ?_
   rintro e w' ⟨rfl,rfl⟩
   go_wp2
   refine still_tail HW2.out 11 (by kernel_rfl) (by kernel_rfl) ?_
   simp only[List.take_succ_cons,List.take_zero,List.drop_succ_cons,List.drop_zero]
   repeat still_step
   refine wpStill_nil ?_
   go_wp2
   go_end0
   exact EndK.ok rfl h3 ((Fr.of b3 (Nat.le_refl _) (by omega)).grow g3 ⟨by omega,by omega⟩ (.inl (by omega))) (New.refl _ _)
end
end Go.Proofs.YtcffonnijhhhiaaGreatDoor
