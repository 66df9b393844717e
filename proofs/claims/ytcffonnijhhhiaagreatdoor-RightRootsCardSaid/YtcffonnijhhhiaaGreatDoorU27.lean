/- Part U27 of the proof: Ww Rv Kd. -/
import Derived.Test.YtcffonnijhhhiaaGreatDoorProg
import Derived.WalkKit
import Derived.WalkLawsBesides
import Derived.WalkSpells
import Derived.Handy
import Derived.Lib.Hide
import Derived.Great.BuildSlice
import Derived.Deep.QuietTactic
import Derived.BigQuiet
import Derived.Deep.RegionHeld3
import Derived.Deep.DeepCutAuto
import Derived.Laws.Concat
import Derived.Lib.ItoaLen
import Derived.Deep.CutBlock
import Derived.Lib.SplitLaws
import Derived.OrdersHeld
import Derived.Deep.RegionHeld
import Derived.Test.YtcffonnijhhhiaaGreatDoorU19
import Derived.Test.YtcffonnijhhhiaaGreatDoorU23
import Derived.Test.YtcffonnijhhhiaaGreatDoorU26
set_option linter.all false
set_option linter.unusedSimpArgs false
set_option linter.unusedVariables false
set_option linter.unusedSectionVars false
namespace Go.Proofs.Rt
def rowTo (x:Deal)(j:Nat):List UInt8:=head x++((nums x).take j).flatMap fun n=>[32]++Go.Lib.itoa n
theorem rowTo_zero (x:Deal):rowTo x 0=head x:=by simp[rowTo]
theorem rowTo_all (x:Deal):rowTo x (nums x).length=row x:=by simp[rowTo,row]
theorem rowTo_next {x:Deal}{j:Nat}{n:Int}(h:(nums x)[j]?=some n):rowTo x (j+1)=rowTo x j++([32]++Go.Lib.itoa n):=by
 obtain⟨hj,rfl⟩:=List.getElem?_eq_some_iff.1 h
 unfold rowTo
 rw[List.take_succ_eq_append_getElem hj,List.flatMap_append,List.append_assoc]
 simp
theorem flat_le {α:Type}{f:α→List UInt8}{b:Nat}: ∀ {l:List α},(∀x∈l,(f x).length≤b)→(l.flatMap f).length≤l.length*b
 | [],_=>by simp
 |a::l,h=>by
  have h1:=h a (by simp)
  have h2:=flat_le (f:=f) (b:=b) (l:=l) fun x hx=>h x (by simp[hx])
  simp only[List.flatMap_cons,List.length_append,List.length_cons,Nat.add_mul]
  omega
theorem word_len (k:Nat):(word k).length≤7:=by
 unfold word
 rw[List.getD_eq_getElem?_getD]
 cases h:words[k]? with
 |none=>simp
 |some l=>
  have: ∀l∈words,l.length≤7:=by decide
  exact this l (List.mem_of_getElem? h)
theorem head_len {x:Deal}(h:NumsIn x):(head x).length≤51:=by
 have h1:=Go.Lib.itoa_length_le x.id (by have:=h.id;omega) (by have:=h.id;omega)
 have h2:=Go.Lib.itoa_length_le x.day (by have:=h.day;omega) (by have:=h.day;omega)
 have h3:=word_len x.kind
 simp only[head,List.length_append,List.length_cons,List.length_nil]
 omega
theorem rowTo_len {x:Deal}(h:NumsIn x)(j:Nat):(rowTo x j).length≤1000:=by
 have h0:=head_len h
 have h1:=flat_le (l:=(nums x).take j) (b:=22) (f:=fun n=>[32]++Go.Lib.itoa n) fun n hn=>by
  have h2:=h.each n (List.mem_of_mem_take hn)
  have h3:=Go.Lib.itoa_length_le n (by omega) (by omega)
  simp only[List.length_append,List.length_cons,List.length_nil]
  omega
 have h2:=h.len
 have h3:((nums x).take j).length≤21:=by simp;omega
 unfold rowTo
 rw[List.length_append]
 omega
def cutTo (x:Deal)(j:Nat):List Int:=x.lot::pairs (x.into.take j) (x.sizes.take j)
theorem cutTo_next {x:Deal}{j:Nat}(h1:j<x.into.length)(h2:j<x.sizes.length):cutTo x j++[x.into[j],x.sizes[j]]=cutTo x (j+1):=by
 unfold cutTo
 rw[List.take_succ_eq_append_getElem h1,List.take_succ_eq_append_getElem h2,pairs_snoc (by simp;omega)]
 rfl
theorem cutTo_len {x:Deal}(j:Nat):(cutTo x j).length≤2*j+1:=by
 unfold cutTo
 have:=pairs_len (x.into.take j) (x.sizes.take j)
 simp only[List.length_cons]
 have h2:(x.into.take j).length≤j:=by simp;omega
 omega
theorem cutTo_all {x:Deal}(h:x.sizes.length=x.into.length):cutTo x x.into.length=x.lot::pairs x.into x.sizes:=by
 unfold cutTo
 rw[List.take_of_length_le (Nat.le_refl _),List.take_of_length_le (by omega)]
end Go.Proofs.Rt
namespace Go.Proofs.YtcffonnijhhhiaaGreatDoor
open Go Go.RowKit Go.Maps Mp
attribute [-simp] Prod.forall Prod.exists
attribute [-go_sem] loadVar storeVar Builtin.append_ run_string_add_if
attribute [local go_sem] lk_int lk_u8 lk_ints
section
variable {α : Type} {enc : α → List Value} {ST ET : TypeId} {z : Value} {size bytes : Nat}
theorem own_new (L:Lay enc ST ET z size bytes){n₀:Nat}{w:World}(r:List α)(m:Nat)(hm:r.length=m)(cs:Array Value)(hcs:cs.toList=r.flatMap enc)(h63:m≤1000000)(hn:n₀≤w.heap.size):
  (w.alloc (.cells cs ET)).ownsRow n₀ ET size (.slice (some ⟨w.heap.size,0,none⟩) m m) r.length (r.flatMap enc):=by
 subst hm
 have hl:=flat_len enc size L.henc r
 refine⟨hl,.inr ⟨w.heap.size,r.length,cs,rfl,hn,heap_alloc_new w _,Nat.le_refl _,by unfold maxLen;omega,?_,?_⟩⟩
 ·rw[←hl,←hcs];simp
 ·rw[hcs,←hl,List.take_length]
theorem own_more (L:Lay enc ST ET z size bytes){n₀:Nat}{w1:World}{v:Value}{l:List α}(hr:w1.ownsRow n₀ ET size v l.length (l.flatMap enc))(r lr:List α)(m:Nat)(hm:r.length=m+1)(cs:Array Value)(hcs:cs.toList=r.flatMap enc)
  (hlr:l++r=lr) (h63:l.length+(m+1)≤1000000) (hb:bytes≤1000) (hn:n₀≤w1.heap.size):
  ∃v' w2,(Builtin.append_ #[ST,ST] ST #[v,.slice (some ⟨w1.heap.size,0,none⟩) (m+1) (m+1)]).run Tryz.prog (w1.alloc (.cells cs ET))=.ok v' w2∧w2.ownsRow n₀ ET size v' lr.length (lr.flatMap enc)∧Below n₀ w1 w2:=by
 obtain⟨g',cap',w2,h1,h2,h3⟩:=own_app L hr r m hm cs hcs (by unfold maxLen;omega) (Nat.le_trans (Nat.mul_le_mul h63 hb) (by decide)) hn
 refine⟨_,w2,h1,?_,h3⟩
 subst hlr
 rw[List.length_append,hm]
 exact h2
end
theorem flatI (l:List Int):l.flatMap encInt=l.map fun n=>Value.int .i64 n:=by
 induction l with
 |nil=>rfl
 |cons a l ih=>simp only[List.flatMap_cons,List.map_cons,ih];rfl
set_option maxRecDepth 100000 in
set_option maxHeartbeats 8000000 in
theorem write_a (x:Dl)(A1 A2:Option Addr)(c1 c2:Nat)(w:World)(hE:Env w)(hx:DS w w.heap.size A1 A2 x)(hcap:x.into.length≤c1)(hf:Rt.formed x=true):Calls Tryz.prog 23 #[.agg (xcs x A1 A2 c1 c2)] w fun e w'=>e=.returned (.tuple #[.string ⟨(Rt.row x).toArray⟩,.int .i64 0])∧Below w.heap.size w w':=by
 have b1:Below w.heap.size w (w.alloc (oDl x A1 A2 c1 c2)):=by go_grown
 have k1:=heap_alloc_new w (oDl x A1 A2 c1 c2)
 have l1:=ld_row k1 Tryz.underlying24 rfl info_deal
 have hck:=formed_a x A1 A2 c1 c2 _ (hx.up b1) hcap
 rw[hf]at hck
 have HN:=Lib.hid (Rt.nums_in hf)
 have HX:=Lib.hid hx
 have HE:=Lib.hid hE
 clear hx hf hE hcap
 obtain⟨W1,hW1⟩: ∃W1,W1=w.alloc (oDl x A1 A2 c1 c2):=⟨_,rfl⟩
 have hWz:W1.heap.size=w.heap.size+1:=by rw[hW1];simp
 rw[←hW1]at b1 k1 hck
 have HW1:=Lib.hid hW1
 go_enter Tryz.func23,Tryz.ntmps23
 go_wp2_with fail
 rw[←hW1]
 clear hW1
 refine hck.mono ?_
 clear hck
 rintro e w2 ⟨rfl,b2⟩
 simp only[if_true]
 have k2:=(b2.block _ (by omega)).trans k1
 have z2:=b2.size
 obtain⟨hcx2,hfx2⟩:=blk_cells k2
 clear l1
 go_upto_region 5 with fail
 have o4:=own_new layI (n₀:=W1.heap.size) (w:=w2) [x.lot] 1 rfl #[.int .i64 x.lot] rfl (by decide) z2
 have b4:Below W1.heap.size W1 (w2.alloc (.cells #[.int .i64 x.lot] 3)):=by go_grown
 obtain⟨W4,hW4⟩: ∃W4,W4=w2.alloc (.cells #[.int .i64 x.lot] 3):=⟨_,rfl⟩
 rw[←hW4]at o4 b4 ⊢
 have HW4:=Lib.hid hW4
 have z4:=b4.size
 have kx4:=(b4.block _ (by omega)).trans k1
 clear hW4 hcx2 hfx2 k2
 obtain⟨hcx,hfx⟩:=blk_cells kx4
 go_upto_block 0 with fail
 go_cut [5] (fun s5 wx=>Hid (wx.ownsRow W1.heap.size 3 1 s5 (Rt.nums x).length ((Rt.nums x).flatMap encInt))∧Hid (Below W1.heap.size W1 wx))
 case first=>
  have hk:x.kind=1∨x.kind=7∨x.kind=2∨x.kind=3∨x.kind=4∨x.kind=5∨x.kind=6∨x.kind=8:=by have:=HN.out.k1;have:=HN.out.k8;omega
  rcases hk with hk|hk|hk|hk|hk|hk|hk|hk
  ·
   have q1:(((x.kind:Nat):Int)==1)=true:=by rw[beq_iff_eq];omega
   have q7:(((x.kind:Nat):Int)==7)=false:=by rw[beq_eq_false_iff_ne];omega
   have q2:(((x.kind:Nat):Int)==2)=false:=by rw[beq_eq_false_iff_ne];omega
   have q3:(((x.kind:Nat):Int)==3)=false:=by rw[beq_eq_false_iff_ne];omega
   have q4:(((x.kind:Nat):Int)==4)=false:=by rw[beq_eq_false_iff_ne];omega
   have q5:(((x.kind:Nat):Int)==5)=false:=by rw[beq_eq_false_iff_ne];omega
   have q6:(((x.kind:Nat):Int)==6)=false:=by rw[beq_eq_false_iff_ne];omega
   have q8:(((x.kind:Nat):Int)==8)=false:=by rw[beq_eq_false_iff_ne];omega
   obtain⟨v',w5,hrun,ho5,hb5⟩:=own_more layI (w1:=W4) o4 [x.to,x.size] (Rt.nums x) 1 rfl #[.int .i64 x.to,.int .i64 x.size] (by rw[flatI];rfl) (by simp[Rt.nums,hk]) (by simp) (by decide) z4
   have HO5:=Lib.hid ho5
   have HB5:=Lib.hid (b4.trans hb5)
   have KX:=Lib.hid (kx4)
   clear ho5 hb5 o4 hk
   go_wp2
   go_meet
   exact⟨HO5,HB5⟩
  ·
   have q1:(((x.kind:Nat):Int)==1)=false:=by rw[beq_eq_false_iff_ne];omega
   have q7:(((x.kind:Nat):Int)==7)=true:=by rw[beq_iff_eq];omega
   have q2:(((x.kind:Nat):Int)==2)=false:=by rw[beq_eq_false_iff_ne];omega
   have q3:(((x.kind:Nat):Int)==3)=false:=by rw[beq_eq_false_iff_ne];omega
   have q4:(((x.kind:Nat):Int)==4)=false:=by rw[beq_eq_false_iff_ne];omega
   have q5:(((x.kind:Nat):Int)==5)=false:=by rw[beq_eq_false_iff_ne];omega
   have q6:(((x.kind:Nat):Int)==6)=false:=by rw[beq_eq_false_iff_ne];omega
   have q8:(((x.kind:Nat):Int)==8)=false:=by rw[beq_eq_false_iff_ne];omega
   obtain⟨v',w5,hrun,ho5,hb5⟩:=own_more layI (w1:=W4) o4 [x.to,x.size] (Rt.nums x) 1 rfl #[.int .i64 x.to,.int .i64 x.size] (by rw[flatI];rfl) (by simp[Rt.nums,hk]) (by simp) (by decide) z4
   have HO5:=Lib.hid ho5
   have HB5:=Lib.hid (b4.trans hb5)
   have KX:=Lib.hid (kx4)
   clear ho5 hb5 o4 hk
   go_wp2
   go_meet
   exact⟨HO5,HB5⟩
  ·
   have q1:(((x.kind:Nat):Int)==1)=false:=by rw[beq_eq_false_iff_ne];omega
   have q7:(((x.kind:Nat):Int)==7)=false:=by rw[beq_eq_false_iff_ne];omega
   have q2:(((x.kind:Nat):Int)==2)=true:=by rw[beq_iff_eq];omega
   have q3:(((x.kind:Nat):Int)==3)=false:=by rw[beq_eq_false_iff_ne];omega
   have q4:(((x.kind:Nat):Int)==4)=false:=by rw[beq_eq_false_iff_ne];omega
   have q5:(((x.kind:Nat):Int)==5)=false:=by rw[beq_eq_false_iff_ne];omega
   have q6:(((x.kind:Nat):Int)==6)=false:=by rw[beq_eq_false_iff_ne];omega
   have q8:(((x.kind:Nat):Int)==8)=false:=by rw[beq_eq_false_iff_ne];omega
   obtain⟨v',w5,hrun,ho5,hb5⟩:=own_more layI (w1:=W4) o4 [x.fr,x.to,x.parts] (Rt.nums x) 2 rfl #[.int .i64 x.fr,.int .i64 x.to,.int .i64 x.parts] (by rw[flatI];rfl) (by simp[Rt.nums,hk]) (by simp) (by decide) z4
   have HO5:=Lib.hid ho5
   have HB5:=Lib.hid (b4.trans hb5)
   have KX:=Lib.hid (kx4)
   clear ho5 hb5 o4 hk
   go_wp2
   go_meet
   exact⟨HO5,HB5⟩
  ·
   have q1:(((x.kind:Nat):Int)==1)=false:=by rw[beq_eq_false_iff_ne];omega
   have q7:(((x.kind:Nat):Int)==7)=false:=by rw[beq_eq_false_iff_ne];omega
   have q2:(((x.kind:Nat):Int)==2)=false:=by rw[beq_eq_false_iff_ne];omega
   have q3:(((x.kind:Nat):Int)==3)=true:=by rw[beq_iff_eq];omega
   have q4:(((x.kind:Nat):Int)==4)=false:=by rw[beq_eq_false_iff_ne];omega
   have q5:(((x.kind:Nat):Int)==5)=false:=by rw[beq_eq_false_iff_ne];omega
   have q6:(((x.kind:Nat):Int)==6)=false:=by rw[beq_eq_false_iff_ne];omega
   have q8:(((x.kind:Nat):Int)==8)=false:=by rw[beq_eq_false_iff_ne];omega
   have HSZ:=Lib.hid (HN.out.same hk)
   have HNU:=Lib.hid (show Rt.nums x=Rt.cutTo x x.into.length by rw[Rt.cutTo_all HSZ.out];simp[Rt.nums,hk])
   have hli:=HN.out.li
   have HB4:=Lib.hid b4
   have HO4:Hid (W4.ownsRow W1.heap.size 3 1 (.slice (some ⟨w2.heap.size,0,none⟩) 1 1) (Rt.cutTo x 0).length ((Rt.cutTo x 0).flatMap encInt)):=Lib.hid o4
   have KX:=Lib.hid k1
   clear hk b4 o4 kx4 k1
   go_wp2
   go_loopw [5,47] (fun s i wr=> ∃j,j≤x.into.length∧i=.int .i64 j∧Hid (Below W1.heap.size W1 wr)∧Hid (wr.ownsRow W1.heap.size 3 1 s (Rt.cutTo x j).length ((Rt.cutTo x j).flatMap encInt))) (fun _ i _=>x.into.length-(intOf i).toNat)
   case atStart=>exact⟨0,by omega,rfl,HB4,HO4⟩
   case round=>
    obtain⟨j,hj,rfl,HBr,HOr⟩:=hrel
    by_cases hlt:j<x.into.length
    ·have hlt2:j<x.sizes.length:=by rw[HSZ.out];exact hlt
     have hbr:=HBr.out
     have hzr:=hbr.size
     have kxr:=(hbr.block _ (by omega)).trans KX.out
     obtain⟨hcr,hfr⟩:=blk_cells kxr
     have bw:Below w.heap.size w wr:=by
      have e:=HW1.out
      subst e
      exact(show Below w.heap.size w (w.alloc (oDl x A1 A2 c1 c2)) by go_grown).trans (hbr.mono (by omega))
     obtain⟨bi,oi,ei,hbi,q1⟩:=Ints.at1 (HX.out.into.below bw) hlt
     obtain⟨bz,oz,ez,hbz,q2⟩:=Ints.at1 (HX.out.sizes.below bw) hlt2
     have hnx:=Rt.cutTo_next hlt hlt2
     obtain⟨n,hn⟩: ∃n,x.into[j]=n:=⟨_,rfl⟩
     obtain⟨y,hy⟩: ∃y,x.sizes[j]=y:=⟨_,rfl⟩
     rw[hn]at q1 hnx
     rw[hy]at q2 hnx
     have hcl:=Rt.cutTo_len (x:=x) j
     obtain⟨v',w5,hrun,ho5,hb5⟩:=own_more layI (w1:=wr) HOr.out [n,y] (Rt.cutTo x (j+1)) 1 rfl #[.int .i64 n,.int .i64 y] rfl hnx (by omega) (by decide) hzr
     have HO5:=Lib.hid ho5
     have HB5:=Lib.hid (hbr.trans hb5)
     have hwx:(j:Int)<(x.sizes.length:Int):=by omega
     subst ei ez
     clear hn hy hnx ho5 hb5 kxr
     go_wp2
     go_roundw
     case rel=>exact⟨j+1,by omega,by go_num,HB5,HO5⟩
     case measure=>first|(simp[intOf];done)|(simp[intOf];omega)
    ·obtain rfl:j=x.into.length:=by omega
     go_wp2
     go_meet
     exact⟨by rw[HNU.out];exact HOr,HBr⟩
  ·
   have q1:(((x.kind:Nat):Int)==1)=false:=by rw[beq_eq_false_iff_ne];omega
   have q7:(((x.kind:Nat):Int)==7)=false:=by rw[beq_eq_false_iff_ne];omega
   have q2:(((x.kind:Nat):Int)==2)=false:=by rw[beq_eq_false_iff_ne];omega
   have q3:(((x.kind:Nat):Int)==3)=false:=by rw[beq_eq_false_iff_ne];omega
   have q4:(((x.kind:Nat):Int)==4)=true:=by rw[beq_iff_eq];omega
   have q5:(((x.kind:Nat):Int)==5)=false:=by rw[beq_eq_false_iff_ne];omega
   have q6:(((x.kind:Nat):Int)==6)=false:=by rw[beq_eq_false_iff_ne];omega
   have q8:(((x.kind:Nat):Int)==8)=false:=by rw[beq_eq_false_iff_ne];omega
   have bw:Below w.heap.size w W4:=by
    have e:=HW1.out
    subst e
    exact(show Below w.heap.size w (w.alloc (oDl x A1 A2 c1 c2)) by go_grown).trans (b4.mono (by omega))
   obtain⟨v',w5,hrun,ho5,hb5⟩:=own_cat layI (c:=c1) (l:=[x.lot]) (r:=x.into) o4 ((HX.out.into.below bw).more bw.size) (by have:=HN.out.li;simp;omega) (by decide) z4
   have HO5:Hid (w5.ownsRow W1.heap.size 3 1 v' (Rt.nums x).length ((Rt.nums x).flatMap encInt)):=by rw[show Rt.nums x=[x.lot]++x.into by simp[Rt.nums,hk]];exact Lib.hid ho5
   have HB5:=Lib.hid (b4.trans hb5)
   clear ho5 hb5 o4 hk bw
   go_wp2
   go_meet
   exact⟨HO5,HB5⟩
  ·
   have q1:(((x.kind:Nat):Int)==1)=false:=by rw[beq_eq_false_iff_ne];omega
   have q7:(((x.kind:Nat):Int)==7)=false:=by rw[beq_eq_false_iff_ne];omega
   have q2:(((x.kind:Nat):Int)==2)=false:=by rw[beq_eq_false_iff_ne];omega
   have q3:(((x.kind:Nat):Int)==3)=false:=by rw[beq_eq_false_iff_ne];omega
   have q4:(((x.kind:Nat):Int)==4)=false:=by rw[beq_eq_false_iff_ne];omega
   have q5:(((x.kind:Nat):Int)==5)=true:=by rw[beq_iff_eq];omega
   have q6:(((x.kind:Nat):Int)==6)=false:=by rw[beq_eq_false_iff_ne];omega
   have q8:(((x.kind:Nat):Int)==8)=false:=by rw[beq_eq_false_iff_ne];omega
   obtain⟨v',w5,hrun,ho5,hb5⟩:=own_more layI (w1:=W4) o4 [x.other] (Rt.nums x) 0 rfl #[.int .i64 x.other] (by rw[flatI];rfl) (by simp[Rt.nums,hk]) (by simp) (by decide) z4
   have HO5:=Lib.hid ho5
   have HB5:=Lib.hid (b4.trans hb5)
   have KX:=Lib.hid (kx4)
   clear ho5 hb5 o4 hk
   go_wp2
   go_meet
   exact⟨HO5,HB5⟩
  ·
   have q1:(((x.kind:Nat):Int)==1)=false:=by rw[beq_eq_false_iff_ne];omega
   have q7:(((x.kind:Nat):Int)==7)=false:=by rw[beq_eq_false_iff_ne];omega
   have q2:(((x.kind:Nat):Int)==2)=false:=by rw[beq_eq_false_iff_ne];omega
   have q3:(((x.kind:Nat):Int)==3)=false:=by rw[beq_eq_false_iff_ne];omega
   have q4:(((x.kind:Nat):Int)==4)=false:=by rw[beq_eq_false_iff_ne];omega
   have q5:(((x.kind:Nat):Int)==5)=false:=by rw[beq_eq_false_iff_ne];omega
   have q6:(((x.kind:Nat):Int)==6)=true:=by rw[beq_iff_eq];omega
   have q8:(((x.kind:Nat):Int)==8)=false:=by rw[beq_eq_false_iff_ne];omega
   obtain⟨v',w5,hrun,ho5,hb5⟩:=own_more layI (w1:=W4) o4 [x.other] (Rt.nums x) 0 rfl #[.int .i64 x.other] (by rw[flatI];rfl) (by simp[Rt.nums,hk]) (by simp) (by decide) z4
   have HO5:=Lib.hid ho5
   have HB5:=Lib.hid (b4.trans hb5)
   have KX:=Lib.hid (kx4)
   clear ho5 hb5 o4 hk
   go_wp2
   go_meet
   exact⟨HO5,HB5⟩
  ·
   have q1:(((x.kind:Nat):Int)==1)=false:=by rw[beq_eq_false_iff_ne];omega
   have q7:(((x.kind:Nat):Int)==7)=false:=by rw[beq_eq_false_iff_ne];omega
   have q2:(((x.kind:Nat):Int)==2)=false:=by rw[beq_eq_false_iff_ne];omega
   have q3:(((x.kind:Nat):Int)==3)=false:=by rw[beq_eq_false_iff_ne];omega
   have q4:(((x.kind:Nat):Int)==4)=false:=by rw[beq_eq_false_iff_ne];omega
   have q5:(((x.kind:Nat):Int)==5)=false:=by rw[beq_eq_false_iff_ne];omega
   have q6:(((x.kind:Nat):Int)==6)=false:=by rw[beq_eq_false_iff_ne];omega
   have q8:(((x.kind:Nat):Int)==8)=true:=by rw[beq_iff_eq];omega
   obtain⟨v',w5,hrun,ho5,hb5⟩:=own_more layI (w1:=W4) o4 [x.to] (Rt.nums x) 0 rfl #[.int .i64 x.to] (by rw[flatI];rfl) (by simp[Rt.nums,hk]) (by simp) (by decide) z4
   have HO5:=Lib.hid ho5
   have HB5:=Lib.hid (b4.trans hb5)
   have KX:=Lib.hid (kx4)
   clear ho5 hb5 o4 hk
   go_wp2
   go_meet
   exact⟨HO5,HB5⟩
 case rest=>
  obtain⟨HO,HB⟩:=hcut
  obtain⟨A5,c5,rfl,hs5,_,_⟩:=own_seg layI HO.out
  have HX1:=Lib.hid k1
  have HV:Hid (∀V:World,Below W1.heap.size W1 V→Env V∧V.cell? ⟨w.heap.size,0,none⟩=some (.int .i64 x.id)∧V.cell? ⟨w.heap.size,1,none⟩=some (.int .i64 x.day)∧V.cell? ⟨w.heap.size,2,none⟩=some (.int .u8 (x.kind:Int))):=Lib.hid fun V hV=>by
   have k:=(hV.block _ (by omega)).trans HX1.out
   have bw:Below w.heap.size w V:=by
    have e:=HW1.out
    subst e
    exact(show Below w.heap.size w (w.alloc (oDl x A1 A2 c1 c2)) by go_grown).trans (hV.mono (by omega))
   exact⟨HE.out.up bw,(blk_cells k).1 0,(blk_cells k).1 1,(blk_cells k).1 2⟩
  have HF:Hid (∀V:World,Below W1.heap.size W1 V→Below w.heap.size w V):=Lib.hid fun V hV=>by
   have e:=HW1.out
   subst e
   exact(show Below w.heap.size w (w.alloc (oDl x A1 A2 c1 c2)) by go_grown).trans (hV.mono (by omega))
  obtain⟨sI,hsI⟩: ∃s:ByteArray,(⟨(Lib.itoa x.id).toArray⟩:ByteArray)=s:=⟨_,rfl⟩
  obtain⟨sD,hsD⟩: ∃s:ByteArray,(⟨(Lib.itoa x.day).toArray⟩:ByteArray)=s:=⟨_,rfl⟩
  obtain⟨sW,hsW⟩: ∃s:ByteArray,(⟨(Rt.word x.kind).toArray⟩:ByteArray)=s:=⟨_,rfl⟩
  obtain⟨s1,hs1⟩: ∃s:ByteArray,(⟨(Lib.itoa x.id++[32]).toArray⟩:ByteArray)=s:=⟨_,rfl⟩
  obtain⟨s2,hs2⟩: ∃s:ByteArray,(⟨(Lib.itoa x.id++[32]++Lib.itoa x.day).toArray⟩:ByteArray)=s:=⟨_,rfl⟩
  obtain⟨s3,hs3⟩: ∃s:ByteArray,(⟨(Lib.itoa x.id++[32]++Lib.itoa x.day++[32]).toArray⟩:ByteArray)=s:=⟨_,rfl⟩
  obtain⟨T,hT⟩: ∃T:Nat→ByteArray,∀j,(⟨(Rt.rowTo x j).toArray⟩:ByteArray)=T j:=⟨_,fun _=>rfl⟩
  have li:(Lib.itoa x.id).length≤21:=Lib.itoa_length_le x.id (by have:=HN.out.id;omega) (by have:=HN.out.id;omega)
  have ld:(Lib.itoa x.day).length≤21:=Lib.itoa_length_le x.day (by have:=HN.out.day;omega) (by have:=HN.out.day;omega)
  have lw:=Rt.word_len x.kind
  have ha1: ∀W,(Op.stringOp .add sI ⟨#[32]⟩).run Tryz.prog W=.ok (.string s1) W:=fun W=>by rw[←hsI,←hs1];exact run_string_add_lists W _ [32] (by omega) (by decide)
  have ha2: ∀W,(Op.stringOp .add s1 sD).run Tryz.prog W=.ok (.string s2) W:=fun W=>by rw[←hsD,←hs1,←hs2];exact run_string_add_lists W _ _ (by simp;omega) (by omega)
  have ha3: ∀W,(Op.stringOp .add s2 ⟨#[32]⟩).run Tryz.prog W=.ok (.string s3) W:=fun W=>by rw[←hs2,←hs3];exact run_string_add_lists W _ [32] (by simp;omega) (by decide)
  have ha4: ∀W,(Op.stringOp .add s3 sW).run Tryz.prog W=.ok (.string (T 0)) W:=fun W=>by rw[←hs3,←hsW,←hT,Rt.rowTo_zero];exact run_string_add_lists W _ _ (by simp;omega) (by omega)
  have HI1:=Lib.hid (fun(V:World) (hV:Below W1.heap.size W1 V)=>itoa_a x.id V (HV.out V hV).1 (by have:=HN.out.id;omega) (by have:=HN.out.id;omega))
  have HI2:=Lib.hid (fun(V:World) (hV:Below W1.heap.size W1 V)=>itoa_a x.day V (HV.out V hV).1 (by have:=HN.out.day;omega) (by have:=HN.out.day;omega))
  have HI3:=Lib.hid (fun(V:World)=>word_a x.kind HN.out.k8 V)
  rw[hsI]at HI1
  rw[hsD]at HI2
  rw[hsW]at HI3
  have HTN:Hid ((⟨(Rt.row x).toArray⟩:ByteArray)=T (Rt.nums x).length):=Lib.hid (by rw[←hT,Rt.rowTo_all])
  have HT:Hid (∀j n,(Rt.nums x)[j]?=some n→ ∀W,(Op.stringOp .add (T j) ⟨([32]++Lib.itoa n).toArray⟩).run Tryz.prog W=.ok (.string (T (j+1))) W):=Lib.hid fun j n hj W=>by
   rw[←hT,←hT,Rt.rowTo_next hj]
   have h1:=HN.out.each n (List.mem_of_getElem? hj)
   have h2:=Lib.itoa_length_le n (by omega) (by omega)
   have h3:=Rt.rowTo_len HN.out j
   exact run_string_add_lists W _ _ (by omega) (by simp;omega)
  have HEa:Hid (∀n∈Rt.nums x,0≤n∧n≤10000000000):=Lib.hid HN.out.each
  have hln:=HN.out.len
  obtain⟨I,hI⟩: ∃I,Rt.nums x=I:=⟨_,rfl⟩
  rw[hI]at HT HEa hs5 hln HTN ⊢
  have HS5:=Lib.hid hs5
  obtain⟨N,hN2⟩: ∃N,I.length=N:=⟨_,rfl⟩
  rw[hN2]at hln HTN ⊢
  have HN2:=Lib.hid hN2
  clear hsI hsD hsW hs1 hs2 hs3 hT li ld lw hs5 HO kx4 hcx hfx k1 hN2 hI o4 b4 z4
  have b5:=HB.out
  have bb0:=below_drew b5
  go_wp2
  refine wp_region_held_drew (S:=fun V=>V.cell? ⟨w.heap.size,0,none⟩=some (.int .i64 x.id)∧V.cell? ⟨w.heap.size,1,none⟩=some (.int .i64 x.day)∧V.cell? ⟨w.heap.size,2,none⟩=some (.int .u8 (x.kind:Int))) (by kernel_rfl) (HV.out _ bb0).2 (fun hHeld=> ?_)
  refine takeH 0 (some 83) (v:= ?v0) rfl rfl (by kernel_rfl) (by kernel_rfl) (by kernel_rfl) (fun _ _ _ h=>h) (Or.inl ⟨by rfl,fun W hW=> ?hy0⟩) (by assumption) ?hr0
  case hy0=>obtain⟨hW1,hW2,hW3⟩:=hW;go_simp;try with_reducible rfl
  try simp only[Act.put,List.setIfInBounds_toArray,List.set_cons_zero,List.set_cons_succ]
  refine takeH 1 (some 84) (v:= ?v1) rfl rfl (by kernel_rfl) (by kernel_rfl) (by kernel_rfl) (fun _ _ _ h=>h) (Or.inl ⟨by rfl,fun W hW=> ?hy1⟩) (by assumption) ?hr1
  case hy1=>obtain⟨hW1,hW2,hW3⟩:=hW;go_simp;try with_reducible rfl
  try simp only[Act.put,List.setIfInBounds_toArray,List.set_cons_zero,List.set_cons_succ]
  refine takeH 4 (some 87) (v:= ?v4) rfl rfl (by kernel_rfl) (by kernel_rfl) (by kernel_rfl) (fun _ _ _ h=>h) (Or.inl ⟨by rfl,fun W hW=> ?hy4⟩) (by assumption) ?hr4
  case hy4=>obtain⟨hW1,hW2,hW3⟩:=hW;go_simp;try with_reducible rfl
  try simp only[Act.put,List.setIfInBounds_toArray,List.set_cons_zero,List.set_cons_succ]
  refine takeH 5 (some 88) (v:= ?v5) rfl rfl (by kernel_rfl) (by kernel_rfl) (by kernel_rfl) (fun _ _ _ h=>h) (Or.inl ⟨by rfl,fun W hW=> ?hy5⟩) (by assumption) ?hr5
  case hy5=>obtain⟨hW1,hW2,hW3⟩:=hW;go_simp;try with_reducible rfl
  try simp only[Act.put,List.setIfInBounds_toArray,List.set_cons_zero,List.set_cons_succ]
  refine takeH 9 (some 92) (v:= ?v9) rfl rfl (by kernel_rfl) (by kernel_rfl) (by kernel_rfl) (fun _ _ _ h=>h) (Or.inl ⟨by rfl,fun W hW=> ?hy9⟩) (by assumption) ?hr9
  case hy9=>obtain⟨hW1,hW2,hW3⟩:=hW;go_simp;try with_reducible rfl
  try simp only[Act.put,List.setIfInBounds_toArray,List.set_cons_zero,List.set_cons_succ]
  refine takeH 10 (some 93) (v:= ?v10) rfl rfl (by kernel_rfl) (by kernel_rfl) (by kernel_rfl) (fun _ _ _ h=>h) (Or.inl ⟨by rfl,fun W hW=> ?hy10⟩) (by assumption) ?hr10
  case hy10=>obtain⟨hW1,hW2,hW3⟩:=hW;go_simp;try with_reducible rfl
  try simp only[Act.put,List.setIfInBounds_toArray,List.set_cons_zero,List.set_cons_succ]
  refine wpAnyH_ready (rs:=[2]) (by kernel_rfl) (by simp) ?_
  refine readyH (some 85) rfl rfl (fun K hK=> ?_) AllReadyH.nil
  go_simp
  refine(HI1.out _ bb0).mono ?_
  rintro e w6 ⟨rfl,g1⟩
  have bb1:=bb0.trans (g1.mono bb0.size)
  refine hK _ _ (HV.out _ bb1).2 (fun hHeld=> ?_)
  clear hK K
  try simp only[Act.put,List.setIfInBounds_toArray,List.set_cons_zero,List.set_cons_succ]
  refine takeH 3 (some 86) (v:= ?v3) rfl rfl (by kernel_rfl) (by kernel_rfl) (by kernel_rfl) (fun _ _ _ h=>h) (Or.inl ⟨by rfl,fun W hW=> ?hy3⟩) (by assumption) ?hr3
  case hy3=>obtain⟨hW1,hW2,hW3⟩:=hW;go_simp;try with_reducible rfl
  try simp only[Act.put,List.setIfInBounds_toArray,List.set_cons_zero,List.set_cons_succ]
  refine wpAnyH_ready (rs:=[6]) (by kernel_rfl) (by simp) ?_
  refine readyH (some 89) rfl rfl (fun K hK=> ?_) AllReadyH.nil
  go_simp
  refine(HI2.out _ bb1).mono ?_
  rintro e w7 ⟨rfl,g2⟩
  have bb2:=bb1.trans (g2.mono bb1.size)
  refine hK _ _ (HV.out _ bb2).2 (fun hHeld=> ?_)
  clear hK K
  try simp only[Act.put,List.setIfInBounds_toArray,List.set_cons_zero,List.set_cons_succ]
  refine takeH 7 (some 90) (v:= ?v7) rfl rfl (by kernel_rfl) (by kernel_rfl) (by kernel_rfl) (fun _ _ _ h=>h) (Or.inl ⟨by rfl,fun W hW=> ?hy7⟩) (by assumption) ?hr7
  case hy7=>obtain⟨hW1,hW2,hW3⟩:=hW;go_simp;try with_reducible rfl
  try simp only[Act.put,List.setIfInBounds_toArray,List.set_cons_zero,List.set_cons_succ]
  refine takeH 8 (some 91) (v:= ?v8) rfl rfl (by kernel_rfl) (by kernel_rfl) (by kernel_rfl) (fun _ _ _ h=>h) (Or.inl ⟨by rfl,fun W hW=> ?hy8⟩) (by assumption) ?hr8
  case hy8=>obtain⟨hW1,hW2,hW3⟩:=hW;go_simp;try with_reducible rfl
  try simp only[Act.put,List.setIfInBounds_toArray,List.set_cons_zero,List.set_cons_succ]
  refine wpAnyH_ready (rs:=[11]) (by kernel_rfl) (by simp) ?_
  refine readyH (some 94) rfl rfl (fun K hK=> ?_) AllReadyH.nil
  go_simp
  refine(HI3.out _).mono ?_
  rintro e w8 ⟨rfl,e8⟩
  have bb3:Below W1.heap.size W1 w8:=by rw[e8];exact bb2
  have HS8:Hid (Seg encInt 1 w8 w8.heap.size A5 I):=Lib.hid (by
   have h1:Below wc.heap.size wc w8:=by rw[e8];exact(below_drew (Below.refl _ _)).trans (g1.trans (g2.mono g1.size))
   exact(HS5.out.below h1).more h1.size)
  clear e8
  refine hK _ _ (HV.out _ bb3).2 (fun hHeld=> ?_)
  clear hK K
  try simp only[Act.put,List.setIfInBounds_toArray,List.set_cons_zero,List.set_cons_succ]
  refine takeH 12 (some 95) (v:= ?v12) rfl rfl (by kernel_rfl) (by kernel_rfl) (by kernel_rfl) (fun _ _ _ h=>h) (Or.inl ⟨by rfl,fun W hW=> ?hy12⟩) (by assumption) ?hr12
  case hy12=>obtain⟨hW1,hW2,hW3⟩:=hW;go_simp;try with_reducible rfl
  try simp only[Act.put,List.setIfInBounds_toArray,List.set_cons_zero,List.set_cons_succ]
  refine takeH 13 (some 8) (v:= ?v13) rfl rfl (by kernel_rfl) (by kernel_rfl) (by kernel_rfl) (fun _ _ _ h=>h) (Or.inl ⟨by rfl,fun W hW=> ?hy13⟩) (by assumption) ?hr13
  case hy13=>obtain⟨hW1,hW2,hW3⟩:=hW;go_simp;try with_reducible rfl
  try simp only[Act.put,List.setIfInBounds_toArray,List.set_cons_zero,List.set_cons_succ]
  refine wpAnyH_done (by kernel_rfl) ?_ _
  clear ha1 ha2 ha3 ha4 HI1 HI2 HI3 hHeld
  have HB8:=Lib.hid bb3
  have HB0:=Lib.hid (Below.refl w8.heap.size w8)
  clear g1 g2 bb0 bb1 bb2 bb3 b5
  go_wp2
  go_loopw [8,98] (fun s i wr=> ∃j,j≤N∧i=.int .i64 j∧s=.string (T j)∧Hid (Below w8.heap.size w8 wr)) (fun _ i _=>N-(intOf i).toNat)
  case atStart=>exact⟨0,by omega,rfl,rfl,HB0⟩
  case round=>
   obtain⟨j,hj,rfl,rfl,HBr⟩:=hrel
   by_cases hlt:j<N
   ·have hbr:=HBr.out
    have hb1:Below W1.heap.size W1 wr:=HB8.out.trans (hbr.mono HB8.out.size)
    have hlI:j<I.length:=by rw[HN2.out];exact hlt
    obtain⟨bi,oi,ei,hbi,q1⟩:=Ints.at1 (HS8.out.below hbr) hlI
    have hTn:=HT.out j I[j] (List.getElem?_eq_getElem hlI)
    have hEn:=HEa.out I[j] (List.getElem_mem hlI)
    obtain⟨n,hn⟩: ∃n,I[j]=n:=⟨_,rfl⟩
    rw[hn]at q1 hTn hEn
    have hla:=Lib.itoa_length_le n (by omega) (by omega)
    have ha: ∀W,(Op.stringOp .add ⟨#[32]⟩ ⟨(Lib.itoa n).toArray⟩).run Tryz.prog W=.ok (.string ⟨([32]++Lib.itoa n).toArray⟩) W:=fun W=>run_string_add_lists W [32] _ (by decide) (by omega)
    have hit:=itoa_a n wr (HV.out _ hb1).1 (by omega) (by omega)
    obtain⟨sN,hsN⟩: ∃s:ByteArray,(⟨(Lib.itoa n).toArray⟩:ByteArray)=s:=⟨_,rfl⟩
    obtain⟨sM,hsM⟩: ∃s:ByteArray,(⟨([32]++Lib.itoa n).toArray⟩:ByteArray)=s:=⟨_,rfl⟩
    rw[hsN]at ha hit
    rw[hsM]at ha hTn
    obtain⟨t0,ht0⟩: ∃t,T j=t:=⟨_,rfl⟩
    obtain⟨t1,ht1⟩: ∃t,T (j+1)=t:=⟨_,rfl⟩
    rw[ht0,ht1]at hTn
    rw[ht0]
    have HT1:=Lib.hid ht1
    subst ei
    clear hn hsN hsM hla hEn ht0 ht1
    go_wp2_with fail
    refine hit.mono ?_
    clear hit
    rintro e w9 ⟨rfl,g9⟩
    have HB9:=Lib.hid (hbr.trans (g9.mono hbr.size))
    clear g9
    go_wp2
    go_roundw
    case rel=>exact⟨j+1,by omega,by go_num,by rw[HT1.out],HB9⟩
    case measure=>first|(simp[intOf];done)|(simp[intOf];omega)
   ·obtain rfl:j=N:=by omega
    go_wp2
    refine bodyPost_ret (v:=.tuple #[.string (T j),.int .i64 0]) (by simp[results,Tryz.results23,go_sem]) rfl ?_
    exact⟨by rw[HTN.out],HF.out _ (HB8.out.trans (HBr.out.mono HB8.out.size))⟩
end Go.Proofs.YtcffonnijhhhiaaGreatDoor
namespace Go.Proofs.Rt
def cut (s:ByteArray):List ByteArray:=Go.Lib.splitB ⟨#[32]⟩ 0 (Go.Lib.countB s ⟨#[32]⟩) s
def dat (l : List ByteArray) : List (List UInt8) := l.map (·.data.toList)
theorem cut_dat (s:ByteArray):dat (cut s)=Go.Lib.split s.data.toList [32]:=Go.Lib.splitB_data _ _ _ _
theorem cut_len (s:ByteArray):(cut s).length=Go.Lib.countB s ⟨#[32]⟩+1:=Go.Lib.splitB_all ⟨#[32]⟩ (by decide) 0 _ s rfl
theorem cut_size (sep:ByteArray)(save:Nat): ∀(k:Nat) (s:ByteArray),∀x∈Go.Lib.splitB sep save k s,x.size≤s.size:=by
 intro k
 induction k with
 |zero=>intro s x hx;rw[Go.Lib.splitB_zero]at hx;simp at hx;subst hx;exact Nat.le_refl _
 |succ k ih=>
  intro s x hx
  unfold Go.Lib.splitB at hx
  split at hx
  ·simp at hx;subst hx;exact Nat.le_refl _
  ·rcases List.mem_cons.1 hx with rfl|hx
   ·rw[ByteArray.size_extract];omega
   ·have:=ih _ x hx
    rw[ByteArray.size_extract]at this
    omega
theorem read_len {s:ByteArray}(h: ¬(4≤(cut s).length∧(cut s).length≤24)):read s.data.toList=(noDeal,4):=by
 have h1:(Go.Lib.split s.data.toList [32]).length=(cut s).length:=by rw[←cut_dat];simp[dat]
 unfold read
 rw[if_neg]
 unfold readOk
 rw[h1]
 simp only[Bool.and_eq_true,decide_eq_true_eq]
 rintro⟨⟨⟨⟨a,b⟩,_⟩,_⟩,_⟩
 exact h ⟨a,b⟩
theorem read_fine {s:ByteArray}(h:fine (dat (cut s))=false):read s.data.toList=(noDeal,4):=by
 unfold read
 rw[if_neg]
 unfold readOk
 rw[←cut_dat,h]
 simp
theorem read_yes {s:ByteArray}(h4:4≤(cut s).length)(h24:(cut s).length≤24)(h:fine (dat (cut s))=true):
  read s.data.toList=if formed (readW (dat (cut s)))=true∧row (readW (dat (cut s)))=s.data.toList then (readW (dat (cut s)),0)else (noDeal,4):=by
 have h1:(dat (cut s)).length=(cut s).length:=by simp[dat]
 unfold read readOk
 rw[←cut_dat,h,h1]
 simp[h4,h24]
def NsOk (w:List (List UInt8))(ns:List Int)(j:Nat):Prop:=ns.length=j∧ ∀i,i<j→i≠2→isNum (w.getD i [])=ns[i]?
theorem NsOk.zero (w:List (List UInt8)):NsOk w [] 0:=⟨rfl,fun i h=>by omega⟩
theorem NsOk.next {w:List (List UInt8)}{ns:List Int}{j:Nat}{v:Int}(h:NsOk w ns j)(hv:j≠2→isNum (w.getD j [])=some v):NsOk w (ns++[v]) (j+1):=by
 refine⟨by simp[h.1],fun i hi h2=> ?_⟩
 by_cases e:i=j
 ·subst e
  rw[hv h2,←h.1]
  simp
 ·rw[h.2 i (by omega) h2,List.getElem?_append_left (by rw[h.1];omega)]
theorem NsOk.same {w:List (List UInt8)}{ns:List Int}(h:NsOk w ns w.length)(k:Nat):made ns k=made (w.map num) k:=by
 refine made_congr (fun i hi=> ?_) k
 by_cases hw:i<w.length
 ·have h1:=h.2 i hw hi
  have h2:i<ns.length:=by rw[h.1];exact hw
  rw[List.getElem?_eq_getElem h2]at h1 ⊢
  rw[List.getElem?_map,List.getElem?_eq_getElem hw]
  simp only[Option.map_some,Option.some.injEq]
  unfold num
  rw[List.getD_eq_getElem?_getD,List.getElem?_eq_getElem hw]at h1
  simp only[Option.getD_some]at h1
  rw[h1]
  rfl
 ·rw[List.getElem?_eq_none (by rw[h.1];omega),List.getElem?_eq_none (by simp;omega)]
end Go.Proofs.Rt
namespace Go.Proofs.YtcffonnijhhhiaaGreatDoor
open Go Go.RowKit Go.Maps Mp
attribute [-simp] Prod.forall Prod.exists
attribute [-go_sem] loadVar storeVar Builtin.append_
attribute [local go_sem] lk_int lk_u8 lk_ints
theorem lk_str (a:Addr)(w:World):(loadVar 9 a).run Tryz.prog w=(load a).run Tryz.prog w:=lv_scalar Tryz.underlying9 rfl a w
def encStr (b:ByteArray):List Value:=[.string b]
abbrev Strs := @Seg ByteArray encStr 1
theorem Strs.at1 {w:World}{B:Nat}{A:Option Addr}{l:List ByteArray}(h:Strs w B A l){k:Nat}(hk:k<l.length):
  ∃b off,A=some ⟨b,off,none⟩∧b<B∧w.cell? ⟨b,off+k,none⟩=some (.string l[k]):=by
 obtain⟨b,off,hA,hb,hc⟩:=Seg.at_ h hk
 exact⟨b,off,hA,hb,by have:=hc 0 _ rfl;simpa using this⟩
theorem split_a (s:ByteArray)(w:World)(hE:Env w)(hs:s.size≤1000000):
  Calls Tryz.prog 91 #[.string s,.string ⟨#[32]⟩] w fun e w'=>e=.returned (.slice (some ⟨w.heap.size,0,none⟩) (Rt.cut s).length (Rt.cut s).length)∧Below w.heap.size w w'∧w.heap.size<w'.heap.size∧ ∀k,k<(Rt.cut s).length→w'.cell? ⟨w.heap.size,k,none⟩=some (.string ((Rt.cut s).getD k ⟨#[]⟩)):=by
 obtain⟨m,hm⟩:=hE.maxLen
 refine(Tryz.strings_Split s ⟨#[32]⟩ m w (by omega) hm (by decide)).mono ?_
 rintro e w' ⟨rfl,rfl⟩
 refine⟨by rw[Rt.cut_len],((Below.refl _ w).alloc (Nat.le_refl _) _),by simp,fun k hk=> ?_⟩
 rw[(blk_cells (World.alloc_heap_new w _)).1]
 have:(Lib.splitB ⟨#[32]⟩ 0 (Lib.countB s ⟨#[32]⟩) s)[k]?=some (Rt.cut s)[k]:=List.getElem?_eq_getElem hk
 rw[List.getD_eq_getElem?_getD,List.getElem?_eq_getElem hk]
 simp[this]
def EndRd (w:World)(s:ByteArray)(e:Ending)(w':World):Prop:= ∃(y:Dl) (E:Int) (A1 A2:Option Addr) (c1 c2:Nat),Rt.read s.data.toList=(y,E)∧e=.returned (.tuple #[.agg (xcs y A1 A2 c1 c2),.int .i64 E])∧DS w' w'.heap.size A1 A2 y∧y.into.length≤c1∧y.sizes.length≤c2∧Below w.heap.size w w'
theorem EndRd.no {w w':World}{s:ByteArray}(h:Rt.read s.data.toList=(Rt.noDeal,4))(hb:Below w.heap.size w w'):EndRd w s (.returned (.tuple #[.agg zcs,.int .i64 4])) w':=
 ⟨Rt.noDeal,4,none,none,0,0,h,rfl,⟨.inl rfl,.inl rfl,by decide,by decide⟩,by decide,by decide,hb⟩
set_option maxRecDepth 100000 in
set_option maxHeartbeats 4000000 in
theorem read_no1 (s:ByteArray)(w:World)(hE:Env w)(hs:s.size≤1000000)(h: ¬(4≤(Rt.cut s).length∧(Rt.cut s).length≤24)):Calls Tryz.prog 25 #[.string s] w (EndRd w s):=by
 have hR:=Lib.hid (Rt.read_len h)
 have hin:Rt.inR ((Rt.cut s).length:Int) 4 24=false:=by
  unfold Rt.inR
  simp only[Bool.and_eq_false_iff,decide_eq_false_iff_not]
  omega
 have b1:Below w.heap.size w (w.alloc (.cells zcs 24)):=by go_grown
 have k1:=heap_alloc_new w (.cells zcs 24)
 obtain⟨W1,hW1⟩: ∃W1,W1=w.alloc (.cells zcs 24):=⟨_,rfl⟩
 have hWz:W1.heap.size=w.heap.size+1:=by rw[hW1];simp
 rw[←hW1]at b1 k1
 have hsp:=split_a s W1 (hE.up b1) hs
 obtain⟨n,hn⟩: ∃n,(Rt.cut s).length=n:=⟨_,rfl⟩
 rw[hn]at hin hsp
 clear h hn
 have HWz:=Lib.hid hWz
 clear hWz
 go_enter Tryz.func25,Tryz.ntmps25
 go_wp2_with fail
 rw[←hW1]
 clear hW1
 refine hsp.mono ?_
 clear hsp
 rintro e w2 ⟨rfl,b2,_,_⟩
 have k2:=(b2.block _ (by have:=HWz.out;omega)).trans k1
 obtain⟨w3,st,k3,g3⟩:=st_row w2 w.heap.size 24 24 zcs zcs k2 info_deal rfl (by simp[Value.oneCell'])
 have l3:=ld_row k3 Tryz.underlying24 rfl info_deal
 have HB:=Lib.hid ((b1.trans (b2.mono b1.size)).grown g3 (by have:=(Array.getElem?_eq_some_iff.1 k2).1;omega) (by intro k e;cases e;exact Nat.le_refl _))
 clear b1 b2 g3 k1
 go_wp2_with (go_at_call 92;refine(within_a _ _ _ _).mono ?_;rintro e w' ⟨rfl,rfl⟩)
 refine bodyPost_ret (v:=.tuple #[.agg zcs,.int .i64 4]) (by simp[results,Tryz.results25,go_sem,l3]) rfl ?_
 exact EndRd.no hR.out HB.out
end Go.Proofs.YtcffonnijhhhiaaGreatDoor
namespace Go.Proofs.YtcffonnijhhhiaaGreatDoor
open Go
section
variable {P : Program} {ops : Array Oper} {Q : Exit → Act → World → Prop} {md : Region.Mode} {S T : World → Prop} {k : Nat}
def wpAnyK (P:Program)(md:Region.Mode)(ops:Array Oper)(Q:Exit→Act→World→Prop)(S T:World→Prop)(k:Nat):Nat→Array Bool→Act→World→Prop
 |0,listed,a,w=>Region.ready md ops listed=[]∧Q .normal a w
 |fuel+1,listed,a,w=>
  (Region.ready md ops listed=[]→Q .normal a w)∧
  ∀i∈Region.ready md ops listed,wpOp P ops Q i (fun a' w'=>(S w'∧((listed.setIfInBounds i true).getD k true=false→T w'))∧wpAnyK P md ops Q S T k fuel (listed.setIfInBounds i true) a' w') a w
theorem wpAny_of_K : ∀(fuel:Nat) (listed:Array Bool) (a:Act) (w:World),wpAnyK P md ops Q S T k fuel listed a w→wpAny P md ops Q fuel listed a w
 |0,_,_,_,h=>h
 |fuel+1,_,_,_,h=>⟨h.1,fun i hi=>wpOp_mono (fun a' w' h'=>wpAny_of_K fuel _ a' w' h'.2) (h.2 i hi)⟩
theorem firstK (b:Bool){i:Nat}{oi:Oper}{v:Value}(hik:i≠k)(hi:ops[i]?=some oi)(hsel: ∀(j:Nat) (o:Oper) cs b,ops[j]?=some o→o.op≠ .select cs b)
  (hQ: ∀c a w,Q (.panic c) (a.put oi.dst v) w→Q (.panic c) a w) (hk:b=true→ ∀o,ops[k]?=some o→ ∃e∈o.after,Region.binds md e=true∧e.on=i):
  ∀(fuel:Nat) (listed:Array Bool) (a:Act) (w:World),
   (∀j oj,ops[j]?=some oj→j≠i→listed.getD j true=false→(∀e∈oj.after,Region.binds md e=true→e.on≠i)→oi.apart ops oj=true)→
   i∈Region.ready md ops listed→(b=true→listed.getD k true=false)→YieldsIf P ops (fun w=>S w∧(b=true→T w)) oi v a→S w→(listed.getD k true=false→T w)→
   wpAnyK P md ops Q S T k fuel (listed.setIfInBounds i true) (a.put oi.dst v) w→wpAnyK P md ops Q S T k (fuel+1) listed a w:=by
 intro fuel
 have low: ∀ {l:Array Bool} {w:World},((l.setIfInBounds i true).getD k true=false→T w)→l.getD k true=false→T w:=fun h h2=>h (by rw[getD_set_ne true hik];exact h2)
 induction fuel with
 |zero=>
  intro listed a w _ hr hkl hy hS hT H
  refine⟨fun h=>(by rw[h]at hr;cases hr),fun j hj=> ?_⟩
  by_cases hji:j=i
  ·subst hji
   exact hy.wpOp hi ⟨hS,fun hb=>hT (hkl hb)⟩ ⟨⟨hS,fun h=>hT (by rw[getD_set_ne true hik]at h;exact h)⟩,H⟩
  ·have:=ready_mono hj hji
   rw[H.1]at this
   cases this
 |succ fuel ih=>
  intro listed a w hfree hr hkl hy hS hT H
  refine⟨fun h=>(by rw[h]at hr;cases hr),fun j hj=> ?_⟩
  by_cases hji:j=i
  ·subst hji
   exact hy.wpOp hi ⟨hS,fun hb=>hT (hkl hb)⟩ ⟨⟨hS,fun h=>hT (by rw[getD_set_ne true hik]at h;exact h)⟩,H⟩
  ·have h1:=H.2 j (ready_mono hj hji)
   obtain⟨hjun,oj,hoj,hall⟩:=mem_ready.1 hj
   have hi0:=(mem_ready.1 hr).1
   have hnot: ∀e∈oj.after,Region.binds md e=true→e.on≠i:=fun e he hb heq=>by
    have h1:=hall e he hb
    rw[heq]at h1
    rcases Nat.lt_or_ge i listed.size with h'|h'
    ·simp[h']at hi0 h1;rw[hi0]at h1;cases h1
    ·simp[Array.getElem?_eq_none h']at h1
   have h2:=wpOp_putIf hoj (hfree j oj hoj hji hjun hnot) (fun cs b=>hsel i oi cs b hi) (fun cs b=>hsel j oj cs b hoj) hQ hy h1
   have hfree': ∀k ok,ops[k]?=some ok→k≠i→(listed.setIfInBounds j true).getD k true=false→
     (∀e∈ok.after,Region.binds md e=true→e.on≠i)→oi.apart ops ok=true:=fun k ok hk hki hun hno=>by
    refine hfree k ok hk hki ?_ hno
    by_cases hjk:j=k
    ·subst hjk;exact hjun
    ·rw[getD_set_ne true hjk]at hun;exact hun
   have hkl':b=true→(listed.setIfInBounds j true).getD k true=false:=fun hb=>by
    have hjk:j≠k:=by
     rintro rfl
     obtain⟨e,he,hbi,hon⟩:=hk hb oj hoj
     exact hnot e he hbi hon
    rw[getD_set_ne true hjk]
    exact hkl hb
   refine wpOp_mono (fun a' w' h3=> ?_) h2
   obtain⟨h4,⟨h5,h6⟩,h7⟩:=h3
   have h6':(listed.setIfInBounds j true).getD k true=false→T w':=fun h=>h6 (by
    by_cases hjk:j=k
    ·subst hjk
     rw[Array.setIfInBounds_comm _ _ (Ne.symm hji),getD_set_ne true hik]
     exact h
    ·rw[getD_set_ne true hjk,getD_set_ne true hik]
     rw[getD_set_ne true hjk]at h
     exact h)
   refine⟨⟨h5,h6'⟩,ih (listed.setIfInBounds j true) a' w' hfree' (ready_mono hr (Ne.symm hji)) hkl' h4 h5 h6' ?_⟩
   rw[Array.setIfInBounds_comm _ _ hji]
   exact h7
def Region.waits (md:Region.Mode)(ops:Array Oper)(k i:Nat):Bool:=
 match ops[k]? with
 |none=>false
 |some o=>o.after.any fun e=>Region.binds md e&&e.on==i
theorem takeK {oi:Oper}{v:Value}{fuel:Nat}{listed:Array Bool}{a:Act}{w:World}(i:Nat)(d:Option Tmp)(hik:i≠k)(hi:ops[i]?=some oi)(hd:oi.dst=d)(hs:Region.noSelect ops=true)(hf:Region.free md ops listed i=true)(hr:(Region.ready md ops listed).contains i=true)
  (hQ: ∀c a w,Q (.panic c) (a.put d v) w→Q (.panic c) a w) (hy:YieldsIf P ops S oi v a) (hS:S w) (hT:T w) (h:wpAnyK P md ops Q S T k fuel (listed.setIfInBounds i true) (a.put d v) w):wpAnyK P md ops Q S T k (fuel+1) listed a w:=by
 subst hd
 refine firstK false hik hi (Region.noSelect_spec hs) hQ (by intro h;cases h) fuel listed a w (Region.free_spec hi hf) (by simpa using hr) (by intro h;cases h) ?_ hS (fun _=>hT) h
 rcases hy with ⟨h1,h2⟩|h1
 ·exact .inl ⟨h1,fun w hw=>h2 w hw.1⟩
 ·exact .inr h1
theorem takeT {oi:Oper}{v:Value}{fuel:Nat}{listed:Array Bool}{a:Act}{w:World}(i:Nat)(d:Option Tmp)(hik:i≠k)(hi:ops[i]?=some oi)(hd:oi.dst=d)(hs:Region.noSelect ops=true)(hf:Region.free md ops listed i=true)(hr:(Region.ready md ops listed).contains i=true)
  (hk:Region.waits md ops k i=true) (hl:listed.getD k true=false) (hQ: ∀c a w,Q (.panic c) (a.put d v) w→Q (.panic c) a w) (hy:YieldsIf P ops (fun w=>S w∧T w) oi v a) (hS:S w) (hT:T w)
  (h:wpAnyK P md ops Q S T k fuel (listed.setIfInBounds i true) (a.put d v) w):wpAnyK P md ops Q S T k (fuel+1) listed a w:=by
 subst hd
 refine firstK true hik hi (Region.noSelect_spec hs) hQ ?_ fuel listed a w (Region.free_spec hi hf) (by simpa using hr) (fun _=>hl) ?_ hS (fun _=>hT) h
 ·intro _ o ho
  unfold Region.waits at hk
  rw[ho]at hk
  obtain⟨e,he,h2⟩:=Array.any_eq_true'.1 hk
  simp only[Bool.and_eq_true,beq_iff_eq]at h2
  exact⟨e,he,h2.1,h2.2⟩
 ·rcases hy with ⟨h1,h2⟩|h1
  ·exact .inl ⟨h1,fun w hw=>h2 w ⟨hw.1,hw.2 rfl⟩⟩
  ·exact .inr h1
def AllK (P:Program)(md:Region.Mode)(ops:Array Oper)(Q:Exit→Act→World→Prop)(S T:World→Prop)(k fuel:Nat)(listed:Array Bool)(a:Act)(w:World)(rs:List Nat):Prop:=
 ∀i∈rs,wpOp P ops Q i (fun a' w'=>(S w'∧((listed.setIfInBounds i true).getD k true=false→T w'))∧wpAnyK P md ops Q S T k fuel (listed.setIfInBounds i true) a' w') a w
theorem AllK.nil {fuel:Nat}{listed:Array Bool}{a:Act}{w:World}:AllK P md ops Q S T k fuel listed a w []:=fun _ h=>by cases h
theorem AllK.cons {fuel:Nat}{listed:Array Bool}{a:Act}{w:World}{i:Nat}{o:Oper}{rs:List Nat}(d:Option Tmp)(ho:ops[i]?=some o)(hd:o.dst=d)
  (h: ∀K':Act→World→Prop,Shut (∀a w,S w→T w→(S w→T w→wpAnyK P md ops Q S T k fuel (listed.setIfInBounds i true) a w)→K' a w)→if Region.wanted o (yielded ops a.tmps)=true then Oper.wp P o a w K' Q else K' (a.put d undef) w)
  (hs:AllK P md ops Q S T k fuel listed a w rs):AllK P md ops Q S T k fuel listed a w (i::rs):=fun j hj=>by
 subst hd
 rcases List.mem_cons.1 hj with rfl|hj
 ·exact wpOp_step ho (fun K' hK=>h K' (fun a w hS hT hW=>hK a w ⟨⟨hS,fun _=>hT⟩,hW hS hT⟩))
 ·exact hs j hj
theorem AllK.late {fuel:Nat}{listed:Array Bool}{a:Act}{w:World}{i:Nat}{o:Oper}{rs:List Nat}(d:Option Tmp)(ho:ops[i]?=some o)(hd:o.dst=d)(hl:(listed.setIfInBounds i true).getD k true=true)
  (h: ∀K':Act→World→Prop,Shut (∀a w,S w→(S w→wpAnyK P md ops Q S T k fuel (listed.setIfInBounds i true) a w)→K' a w)→if Region.wanted o (yielded ops a.tmps)=true then Oper.wp P o a w K' Q else K' (a.put d undef) w)
  (hs:AllK P md ops Q S T k fuel listed a w rs):AllK P md ops Q S T k fuel listed a w (i::rs):=fun j hj=>by
 subst hd
 rcases List.mem_cons.1 hj with rfl|hj
 ·exact wpOp_step ho (fun K' hK=>h K' (fun a w hS hW=>hK a w ⟨⟨hS,fun h=>(by rw[hl]at h;cases h)⟩,hW hS⟩))
 ·exact hs j hj
theorem readyK {rs:List Nat}{fuel:Nat}{listed:Array Bool}{a:Act}{w:World}(hr:Region.ready md ops listed=rs)(hne:rs≠ [])(h:AllK P md ops Q S T k fuel listed a w rs):wpAnyK P md ops Q S T k (fuel+1) listed a w:=
 ⟨fun h0=>absurd (hr▸h0) hne,hr▸h⟩
theorem doneK {listed:Array Bool}{a:Act}{w:World}(hr:Region.ready md ops listed=[])(h:Q .normal a w): ∀fuel,wpAnyK P md ops Q S T k fuel listed a w
 |0=>⟨hr,h⟩
 |_+1=>⟨fun _=>h,by rw[hr];simp⟩
theorem region_K {id:Nat}{a:Act}{w:World}(hm:P.follows .mixedOrders=true)(h:wpAnyK P .any ops Q S T k ops.size (Array.replicate ops.size false) a w.drew):(Code.region id ops true).wp P Q a w:=
 wp_region_any hm (wpAny_of_K _ _ _ _ h)
end
end Go.Proofs.YtcffonnijhhhiaaGreatDoor
