/- Walks of the law DeedCalls in one text, part 1: GA to Qa. -/
import Derived.Test.YtgbpekeoegfjpaaGreatDoorProg
import Derived.WalkKit
import Derived.WalkLawsBesides
import Derived.WalkSpells
import Derived.Handy
import Derived.Lib.Hide
import Derived.Great.BuildSlice
import Derived.Deep.QuietTactic
import Derived.BigQuiet
import Derived.Deep.RegionHeld3
import Derived.Deep.DeepCutAuto
import Derived.Deep.Upon
import Derived.Test.YtgbpekeoegfjpaaGreatDoorZ10
import Derived.Test.YtgbpekeoegfjpaaGreatDoorZ05
import Derived.Test.YtgbpekeoegfjpaaGreatDoorZ24
import Derived.Test.YtgbpekeoegfjpaaGreatDoorZ09
import Derived.Test.YtgbpekeoegfjpaaGreatDoorZ22
import Derived.Lib.SlicesCompact
import Derived.Lib.Small
import Derived.Test.YtgbpekeoegfjpaaGreatDoorZ02
import Derived.Test.YtgbpekeoegfjpaaGreatDoorZ06
import Derived.Test.YtgbpekeoegfjpaaGreatDoorZ01
import Derived.Test.YtgbpekeoegfjpaaGreatDoorZ00
import Derived.Test.YtgbpekeoegfjpaaGreatDoorZ04
import Derived.Test.YtgbpekeoegfjpaaGreatDoorZ23
import Derived.Shelf.Sort.Plain
import Derived.Ground.NamesProg
import Derived.Shelf.SlicesE.DeleteFunc
import Derived.Test.YtgbpekeoegfjpaaGreatDoorShelf
import Derived.Test.YtgbpekeoegfjpaaGreatDoorZ14
set_option maxRecDepth 100000
namespace Go.Proofs.YtgbpekeoegfjpaaGreatDoor
open Go.RowKit Go.Deep
variable (A1 A2 A3 A4 : Option Addr) (c1 c2 c3 c4 : Nat) (f : Pl.Fld)
attribute [-go_sem] Builtin.append_
theorem flat_inv {α:Type}(enc:α->List Value)(size:Nat)(hs:0<size)(hsz: ∀x,(enc x).length=size){l:List α}{j:Nat}{u:Value}(h:(l.flatMap enc)[j]?=some u): ∃k x m,l[k]?=some x∧(enc x)[m]?=some u∧j=k*size+m:=by
 have hj:j<l.length*size:=by rw[<-flat_len enc size hsz];exact(List.getElem?_eq_some_iff.1 h).1
 have hk:j/size<l.length:=by rw[Nat.div_lt_iff_lt_mul hs];exact hj
 have hm:j%size<size:=Nat.mod_lt _ hs
 have he:j=j/size*size+j%size:=by have:=Nat.div_add_mod j size;rw[Nat.mul_comm];omega
 refine⟨j/size,l[j/size],j%size,List.getElem?_eq_getElem hk,?_,he⟩
 obtain⟨v,hv⟩: ∃v,(enc l[j/size])[j%size]?=some v:=⟨_,List.getElem?_eq_getElem (show j%size<(enc l[j/size]).length by rw[hsz];exact hm)⟩
 have:=flat_at enc size hsz (List.getElem?_eq_getElem hk) hv
 rw[<-he,h]at this
 rw[hv,this]
section
variable {α : Type} {enc : α -> List Value} {ST ET : TypeId} {z : Value} {size bytes : Nat}
theorem own_app_seg (L:Lay enc ST ET z size bytes){n₀ k:Nat}{w1:World}{v:Value}{l:List α}(hr:w1.ownsRow n₀ ET size v k (l.flatMap enc))(A:Option Addr)(c:Nat)(r:List α)(hs:Seg enc size w1 w1.heap.size A r)
  (h63:k+r.length<=maxLen) (hb:(k+r.length)*bytes<=140737488355328) (hn:n₀<=w1.heap.size):
  ∃v' w2,(Builtin.append_ #[ST,ST] ST #[v,.slice A r.length c]).run Tryz.prog w1=.ok v' w2∧w2.ownsRow n₀ ET size v' (k+r.length) ((l++r).flatMap enc)∧Below n₀ w1 w2:=by
 obtain⟨i0,hi0,hz0,hz1,hz2⟩:=info_parts L.hi
 cases A with
 | none=>
  obtain rfl:r=[]:=by
   rcases hs with h|⟨b,off,h,_⟩
   ·exact h
   ·cases h
  refine⟨v,w1,?_,by simpa using hr,Below.refl _ _⟩
  have hsrc:Src Tryz.prog i0.size ST (.slice none 0 c) 0 [] w1:=Src.ofNil w1 L.ht c
  rcases hr.2 with ⟨rfl,_⟩|⟨g,cap,cur,rfl,_,_,hle,_⟩
  ·exact run_append_nothing w1 ST ST ST ET i0 L.ht hi0 none 0 0 (Nat.le_refl _) _ hsrc
  ·exact run_append_nothing w1 ST ST ST ET i0 L.ht hi0 (some ⟨g,0,none⟩) k cap hle _ hsrc
 | some a=>
  have hcell: ∀j u,(r.flatMap enc)[j]?=some u->w1.cell? (a.add j)=some u:=by
   intro j u hj
   rcases hs with h|⟨b,off,h,hlt,hc⟩
   ·subst h;simp at hj
   ·obtain⟨k',x,m,h1,h2,rfl⟩:=flat_inv enc size L.hs L.henc hj
    cases h
    rw[Go.WideShapes.add_plain,<-Nat.add_assoc]
    exact hc k' x h1 m u h2
  have hone: ∀u∈r.flatMap enc,u.oneCell'=true:=by
   intro u hu
   obtain⟨x,_,hx⟩:=List.mem_flatMap.1 hu
   exact L.hone x u hx
  obtain⟨v',w2,hrun,hown,hgrow,hn2⟩:=run_append_own (P:=Tryz.prog) (w:=w1) n₀ ST ST ET i0 _ size bytes L.ht hi0 hz0 hz1 hz2 L.hz L.hs v k (l.flatMap enc) hr a r.length c (r.flatMap enc)
   (by rw[flat_len enc size L.henc]) hcell hone h63 hb hn
  exact⟨v',w2,hrun,by rw[List.flatMap_append];exact hown,(Below.refl n₀ w1).grown hgrow hn fun j ej=>(hr.lt j ej).1⟩
end
def Pl.nms (f:Pl.Fld)(k:Nat):List ByteArray:=if k=0 then f.sn else if k=1 then f.li else f.pn
set_option maxHeartbeats 2000000 in
theorem names_b0 (w:World)(hf:FldS w w.heap.size A1 A2 A3 A4 f)(hm:Small f):
  Calls Tryz.prog 113 #[.agg (fq A1 A2 A3 A4 c1 c2 c3 c4 f),.int .i64 0] w (NewNms f.sn w):=by
 have kb:=heap_alloc_new w (.cells (fq A1 A2 A3 A4 c1 c2 c3 c4 f) 28)
 have hall:Below w.heap.size w (w.alloc (.cells (fq A1 A2 A3 A4 c1 c2 c3 c4 f) 28)):=by go_grown
 have hst:=hm.st
 go_enter Tryz.func113,Tryz.ntmps113
 go_wp2
 go_loopw [5,6] (fun o i wr=> ∃(k:Nat),k<=f.st.length∧i=.int .i64 k∧wr.ownsRow (w.heap.size+1) 9 1 o k (((f.st.take k).map Prod.fst).flatMap encNm)∧wr.heap[w.heap.size]?=some (.cells (fq A1 A2 A3 A4 c1 c2 c3 c4 f) 28 (0,0))∧Below w.heap.size w wr) (fun _ i _=>f.st.length-(intOf i).toNat)
 case atStart=>exact⟨0,by omega,rfl,World.ownsRow_nil _ _ _ _,kb,hall⟩
 case round=>
  clear kb hall
  obtain⟨k,hk,rfl,hown,kb,hall⟩:=hrel
  obtain⟨hckb,hfkb⟩:=blk_cells kb
  have hlt0:=(lO kb)
  by_cases hlt:k<f.st.length
  ·obtain⟨b,off,rfl,hbB,q0,q1⟩:=Stas.at2 (hf.st.below hall) hlt
   obtain⟨g',cap',w2,hrun,hown2,hb2⟩:=own_app lay_nm hown [f.st[k].1] 0 rfl #[.string f.st[k].1] (by simp[encNm]) (by unfold maxLen;omega) (by omega) (show w.heap.size+1<=wr.heap.size by omega)
   have kb2:=(hb2.block w.heap.size (by omega)).trans kb
   go_wp2
   go_roundw
   case rel=>exact⟨k+1,by omega,by go_num,by rw[List.take_succ_eq_append_getElem hlt,List.map_append];exact hown2,kb2,hall.trans (hb2.mono (by omega))⟩
   case measure=>simp[intOf];try omega
  ·obtain rfl:k=f.st.length:=by omega
   rw[List.take_length]at hown
   have hq:f.st.length=f.sn.length:=by unfold Pl.Fld.sn;simp
   rw[hq]at hown
   obtain⟨A',c',hv,hN,hc,hF⟩:=own_seg lay_nm hown
   subst hv
   go_wp2
   go_ret
   exact⟨A',c',rfl,hN,hc,fun a ha=>Nat.le_of_succ_le (hF a ha),hall⟩
set_option maxHeartbeats 2000000 in
theorem names_b1 (w:World)(hf:FldS w w.heap.size A1 A2 A3 A4 f)(hm:Small f):
  Calls Tryz.prog 113 #[.agg (fq A1 A2 A3 A4 c1 c2 c3 c4 f),.int .i64 1] w (NewNms f.li w):=by
 have kb:=heap_alloc_new w (.cells (fq A1 A2 A3 A4 c1 c2 c3 c4 f) 28)
 have hall:Below w.heap.size w (w.alloc (.cells (fq A1 A2 A3 A4 c1 c2 c3 c4 f) 28)):=by go_grown
 have hli:=hm.li
 obtain⟨W,hW⟩: ∃W,w.alloc (.cells (fq A1 A2 A3 A4 c1 c2 c3 c4 f) 28)=W:=⟨_,rfl⟩
 have hsz:W.heap.size=w.heap.size+1:=by rw[<-hW];simp
 rw[hW]at kb hall
 obtain⟨v',w2,hrun,hown,hb2⟩:=own_app_seg lay_nm (k:=0) (l:=([]:List ByteArray)) (World.ownsRow_nil W (w.heap.size+1) 9 1) A2 c2 f.li (hf.li.up hall) (by unfold maxLen;omega) (by omega) (by omega)
 simp only[List.nil_append,Nat.zero_add]at hown
 obtain⟨A',c',hv,hN,hc,hF⟩:=own_seg lay_nm hown
 subst hv
 obtain⟨hckb,hfkb⟩:=blk_cells kb
 go_enter Tryz.func113,Tryz.ntmps113
 go_wp2
 go_ret
 exact⟨A',c',rfl,hN,hc,fun a ha=>Nat.le_of_succ_le (hF a ha),hall.trans (hb2.mono (by omega))⟩
set_option maxHeartbeats 2000000 in
theorem names_b2 (w:World)(hf:FldS w w.heap.size A1 A2 A3 A4 f)(hm:Small f):
  Calls Tryz.prog 113 #[.agg (fq A1 A2 A3 A4 c1 c2 c3 c4 f),.int .i64 2] w (NewNms f.pn w):=by
 have kb:=heap_alloc_new w (.cells (fq A1 A2 A3 A4 c1 c2 c3 c4 f) 28)
 have hall:Below w.heap.size w (w.alloc (.cells (fq A1 A2 A3 A4 c1 c2 c3 c4 f) 28)):=by go_grown
 have hst:=hm.pa
 go_enter Tryz.func113,Tryz.ntmps113
 go_wp2
 go_loopw [5,7] (fun o i wr=> ∃(k:Nat),k<=f.pa.length∧i=.int .i64 k∧wr.ownsRow (w.heap.size+1) 9 1 o k (((f.pa.take k).map Pl.Par.name).flatMap encNm)∧wr.heap[w.heap.size]?=some (.cells (fq A1 A2 A3 A4 c1 c2 c3 c4 f) 28 (0,0))∧Below w.heap.size w wr) (fun _ i _=>f.pa.length-(intOf i).toNat)
 case atStart=>exact⟨0,by omega,rfl,World.ownsRow_nil _ _ _ _,kb,hall⟩
 case round=>
  clear kb hall
  obtain⟨k,hk,rfl,hown,kb,hall⟩:=hrel
  obtain⟨hckb,hfkb⟩:=blk_cells kb
  have hlt0:=(lO kb)
  by_cases hlt:k<f.pa.length
  ·obtain⟨b,off,rfl,hbB,q0,q1,q2,q3⟩:=Pars.at4 (hf.pa.below hall) hlt
   obtain⟨g',cap',w2,hrun,hown2,hb2⟩:=own_app lay_nm hown [f.pa[k].name] 0 rfl #[.string f.pa[k].name] (by simp[encNm]) (by unfold maxLen;omega) (by omega) (show w.heap.size+1<=wr.heap.size by omega)
   have kb2:=(hb2.block w.heap.size (by omega)).trans kb
   go_wp2
   go_roundw
   case rel=>exact⟨k+1,by omega,by go_num,by rw[List.take_succ_eq_append_getElem hlt,List.map_append];exact hown2,kb2,hall.trans (hb2.mono (by omega))⟩
   case measure=>simp[intOf];try omega
  ·obtain rfl:k=f.pa.length:=by omega
   rw[List.take_length]at hown
   have hq:f.pa.length=f.pn.length:=by unfold Pl.Fld.pn;simp
   rw[hq]at hown
   obtain⟨A',c',hv,hN,hc,hF⟩:=own_seg lay_nm hown
   subst hv
   go_wp2
   go_ret
   exact⟨A',c',rfl,hN,hc,fun a ha=>Nat.le_of_succ_le (hF a ha),hall⟩
theorem names_b (k:Nat)(hk:k<3)(w:World)(hf:FldS w w.heap.size A1 A2 A3 A4 f)(hm:Small f):
  Calls Tryz.prog 113 #[.agg (fq A1 A2 A3 A4 c1 c2 c3 c4 f),.int .i64 (k:Int)] w (NewNms (Pl.nms f k) w):=by
 match k,hk with
 |0,_=>exact names_b0 A1 A2 A3 A4 c1 c2 c3 c4 f w hf hm
 |1,_=>exact names_b1 A1 A2 A3 A4 c1 c2 c3 c4 f w hf hm
 |2,_=>exact names_b2 A1 A2 A3 A4 c1 c2 c3 c4 f w hf hm
end Go.Proofs.YtgbpekeoegfjpaaGreatDoor
namespace Go.Proofs.YtgbpekeoegfjpaaGreatDoor
open Go.RowKit
variable (A1 A2 A3 A4 : Option Addr) (c1 c2 c3 c4 : Nat) (f : Pl.Fld)
theorem comD_h (p q:Pl.Par)(M:Int)(w:World)(hM:Hid (max 0 (Pl.com2 p q+1)=M))(hp:Pl.parIn 12 10 p=true)(hq:Pl.parIn 12 10 q=true):
  Calls Tryz.prog 127 #[.agg #[.string p.name,.int .i64 p.south,.int .i64 p.fr,.int .i64 p.till],.agg #[.string q.name,.int .i64 q.south,.int .i64 q.fr,.int .i64 q.till]] w fun e w'=>e=.returned (.int .i64 M)∧Below w.heap.size w w':=by
 have h1:=Pl.parIn_ok hp
 have h2:=Pl.parIn_ok hq
 rw[<-hM.out]
 exact comD_b p q w (by have:=h1.f0;omega) (by have:=h1.f1;omega) (by have:=h1.t0;omega) (by have:=h1.t1;omega) (by have:=h2.f0;omega) (by have:=h2.f1;omega) (by have:=h2.t0;omega) (by have:=h2.t1;omega)
theorem any_take {α:Type}{p:α->Bool}{l:List α}{k j:Nat}(hk:k<=l.length)(hj:j<k)(h:p (l[j]'(by omega))=true):(l.take k).any p=true:=by
 rw[List.any_eq_true]
 exact⟨_,List.mem_take_iff_getElem.2 ⟨j,by omega,rfl⟩,h⟩
theorem none_take {α:Type}{p:α->Bool}{l:List α}{k:Nat}(h: ∀j (hj:j<l.length),j<k->p l[j]=false):(l.take k).any p=false:=by
 rw[List.any_eq_false]
 intro x hx
 obtain⟨j,hj,rfl⟩:=List.mem_take_iff_getElem.1 hx
 rw[h j (by omega) (by omega)]
 simp
theorem cell_keep {W w1:World}(hx:Below W.drew.heap.size W.drew w1){b o:Nat}{v:Value}(hb:b<W.heap.size)(h:W.cell? ⟨b,o,none⟩=some v):w1.cell? ⟨b,o,none⟩=some v:=(hx.cell (p:=⟨b,o,none⟩) hb).trans h
set_option maxHeartbeats 8000000 in
theorem ordered_b (B:Bool) (w:World) (hf:FldS w w.heap.size A1 A2 A3 A4 f) (_hm:Small f) (_hc:Caps c1 c2 c3 c4 f) (k1:f.st.length<=12) (k3:f.pa.length<=40) (hS: ∀p∈f.pa,Pl.parIn 12 10 p=true) (hB:Hid (B=true↔f.N7)):
  Calls Tryz.prog 116 #[.agg (fq A1 A2 A3 A4 c1 c2 c3 c4 f)] w fun e w'=>e=.returned (.bool B)∧Below w.heap.size w w':=by
 have kb:=heap_alloc_new w (.cells (fq A1 A2 A3 A4 c1 c2 c3 c4 f) 28)
 have hall:Below w.heap.size w (w.alloc (.cells (fq A1 A2 A3 A4 c1 c2 c3 c4 f) 28)):=by go_grown
 have hno:Hid (¬f.N7->false=B):=Lib.hid fun h=>by cases B with|false=>rfl|true=>exact absurd (hB.out.1 rfl) h
 have hyes:Hid (f.N7->true=B):=Lib.hid fun h=>(hB.out.2 h).symm
 go_enter Tryz.func116,Tryz.ntmps116
 go_wp2
 go_loopw [3] (fun i wr=> ∃(k:Nat),1<=k∧k<=f.st.length+1∧i=.int .i64 k∧Hid (∀j (h:j+1<f.st.length),j+1<k->f.st[j].2<f.st[j+1].2)∧wr.heap[w.heap.size]?=some (.cells (fq A1 A2 A3 A4 c1 c2 c3 c4 f) 28 (0,0))∧Below w.heap.size w wr) (fun i _=>f.st.length+1-(intOf i).toNat)
 case atStart=>exact⟨1,by omega,by omega,rfl,Lib.hid fun j _ h=>by omega,kb,hall⟩
 case round=>
  clear kb hall
  obtain⟨k,hk1,hk,rfl,hg,kb,hall⟩:=hrel
  obtain⟨hckb,hfkb⟩:=blk_cells kb
  have hltkb:=(lO kb)
  have hsz:=hall.size
  by_cases hlt:k<f.st.length
  ·obtain⟨m,hmk⟩: ∃m,k=m+1:=⟨k-1,by omega⟩
   have hltm:m<f.st.length:=by omega
   obtain⟨b,off,hA,hbB,q0,q1⟩:=Stas.at2 (hf.st.below hall) hlt
   obtain⟨b',off',hA',_,r0,r1⟩:=Stas.at2 (hf.st.below hall) hltm
   rw[hA]at hA'
   obtain⟨rfl,rfl⟩:b=b'∧off=off':=by simpa using hA'
   clear hA' q0 r0
   subst hA
   have hc0:wr.cell? ⟨w.heap.size,0,none⟩=some (.slice (some ⟨b,off,none⟩) f.st.length c1):=hckb 0
   have e1:IntKind.i64.wrap ((k:Int)-1)=(m:Int):=by rw[IntWalk.i64_in _ (by omega)];omega
   have e2:(0:Int)<=(m:Int):=by omega
   have e4:(m:Int)<(f.st.length:Int):=by omega
   have e5:(0:Int)<=(k:Int):=by omega
   have e6:(k:Int)<(f.st.length:Int):=by omega
   have hbad:Hid (f.st[k].2<=f.st[m].2->false=B):=Lib.hid fun h=>hno.out (Pl.N7_rise (k:=m) (by omega) (by subst hmk;exact h))
   have hgood:Hid (f.st[m].2<f.st[k].2-> ∀j (h:j+1<f.st.length),j+1<k+1->f.st[j].2<f.st[j+1].2):=Lib.hid fun h j hj hjk=>by
    by_cases e:j+1=k
    ·subst hmk
     obtain rfl:j=m:=by omega
     exact h
    ·exact hg.out j hj (by omega)
   obtain⟨x,hx⟩: ∃x,f.st[k].2=x:=⟨_,rfl⟩
   obtain⟨y,hy⟩: ∃y,f.st[m].2=y:=⟨_,rfl⟩
   rw[hx]at q1 hbad hgood
   rw[hy]at r1 hbad hgood
   have HMK:=Lib.hid hmk
   clear hx hy hg hmk
   by_cases hxy:x<=y
   ·go_wp2
    go_region_held3 (fun W=>W.cell? ⟨w.heap.size,0,none⟩=some (.slice (some ⟨b,off,none⟩) f.st.length c1)∧W.cell? ⟨b,off+m*2+1,none⟩=some (.int .i64 y)∧W.cell? ⟨b,off+k*2+1,none⟩=some (.int .i64 x)) (exact⟨hc0,r1,q1⟩) (fail)
    all_goals go_wp2
    all_goals go_ret
    all_goals exact⟨ret_bool (by rw[<-hbad.out hxy]),by first|(go_grown;done)|exact below_drewN hall _⟩
   ·have hxy':y<x:=by omega
    go_wp2
    go_region_held3 (fun W=>W.cell? ⟨w.heap.size,0,none⟩=some (.slice (some ⟨b,off,none⟩) f.st.length c1)∧W.cell? ⟨b,off+m*2+1,none⟩=some (.int .i64 y)∧W.cell? ⟨b,off+k*2+1,none⟩=some (.int .i64 x)) (exact⟨hc0,r1,q1⟩) (fail)
    all_goals go_wp2
    all_goals (
     go_roundw
     case rel=>exact⟨k+1,by omega,by omega,by go_num,Lib.hid (hgood.out hxy'),kb,by first|(go_grown;done)|exact below_drewN hall _⟩
     case measure=>simp[intOf];try omega)
  ·have hri:=Lib.hid (fun j (h:j+1<f.st.length)=>hg.out j h (by omega))
   clear hg
   go_wp2
   go_loopw [4] (fun i wr=> ∃(k:Nat),k<=f.pa.length∧i=.int .i64 k∧Hid (Pl.apart [] (f.pa.take k)=true)∧wr.heap[w.heap.size]?=some (.cells (fq A1 A2 A3 A4 c1 c2 c3 c4 f) 28 (0,0))∧Below w.heap.size w wr) (fun i _=>f.pa.length-(intOf i).toNat)
   case atStart=>exact⟨0,by omega,rfl,Lib.hid rfl,kb,hall⟩
   case round=>
    clear kb hall hckb hfkb hltkb hsz
    obtain⟨i,hi,rfl,hap,kb,hall⟩:=hrel
    obtain⟨hckb,hfkb⟩:=blk_cells kb
    have hltkb:=(lO kb)
    have hsz:=hall.size
    by_cases hlt:i<f.pa.length
    ·obtain⟨b,off,hA,hbB,q0,q1,q2,q3⟩:=Pars.at4 (hf.pa.below hall) hlt
     have hc2:wr.cell? ⟨w.heap.size,2,none⟩=some (.slice A3 f.pa.length c3):=hckb 2
     rw[hA]at hc2
     have e5:(0:Int)<=(i:Int):=by omega
     have e6:(i:Int)<(f.pa.length:Int):=by omega
     by_cases hft:f.pa[i].fr<f.pa[i].till
     ·have n1: ¬f.pa[i].till<=f.pa[i].fr:=by omega
      subst hA
      go_wp2
      go_region_held3 (fun W=>W.cell? ⟨w.heap.size,2,none⟩=some (.slice (some ⟨b,off,none⟩) f.pa.length c3)∧W.cell? ⟨b,off+i*4+2,none⟩=some (.int .i64 f.pa[i].fr)∧W.cell? ⟨b,off+i*4+3,none⟩=some (.int .i64 f.pa[i].till)) (exact⟨hc2,q2,q3⟩) (fail)
      all_goals go_wp2
      all_goals (
       go_loopw [5] (fun z wr=> ∃(k:Nat),k<=i∧z=.int .i64 k∧Hid (∀j (h:j<f.pa.length),j<k->Pl.over f.pa[i] f.pa[j]=false)∧wr.heap[w.heap.size]?=some (.cells (fq A1 A2 (some ⟨b,off,none⟩) A4 c1 c2 c3 c4 f) 28 (0,0))∧Below w.heap.size w wr) (fun z _=>i-(intOf z).toNat)
       case atStart=>exact⟨0,by omega,rfl,Lib.hid fun j _ h=>by omega,kb,by first|(go_grown;done)|exact below_drewN hall _⟩
       case round=>
        clear kb hall hckb hfkb hltkb hsz q0 q1 q2 q3 hc2
        obtain⟨k,hk,rfl,hov,kb,hall⟩:=hrel
        obtain⟨hckb,hfkb⟩:=blk_cells kb
        have hltkb:=(lO kb)
        have hsz:=hall.size
        by_cases hki:k<i
        ·have hltk:k<f.pa.length:=by omega
         obtain⟨b1,off1,hA1,_,r0,r1,r2,r3⟩:=Pars.at4 (hf.pa.below hall) hltk
         obtain⟨b2,off2,hA2,hbB2,q0,q1,q2,q3⟩:=Pars.at4 (hf.pa.below hall) hlt
         obtain⟨rfl,rfl⟩:b=b1∧off=off1:=by simpa using hA1
         obtain⟨rfl,rfl⟩:b=b2∧off=off2:=by simpa using hA2
         clear hA1 hA2
         have hc2:wr.cell? ⟨w.heap.size,2,none⟩=some (.slice (some ⟨b,off,none⟩) f.pa.length c3):=hckb 2
         have hbw:b<wr.heap.size:=by omega
         have g1:(0:Int)<=(k:Int):=by omega
         have g2:(k:Int)<(f.pa.length:Int):=by omega
         have hnext:Hid (Pl.over f.pa[i] f.pa[k]=false-> ∀j (h:j<f.pa.length),j<k+1->Pl.over f.pa[i] f.pa[j]=false):=Lib.hid fun h0 j h hj=>by
          by_cases e:j=k
          ·subst e;exact h0
          ·exact hov.out j h (by omega)
         have hbad:Hid (Pl.over f.pa[i] f.pa[k]=true->false=B):=Lib.hid fun h0=>hno.out (Pl.N7_apart hlt (fun h=>by rw[any_take (by omega) hki h0]at h;cases h.2))
         have P1:=hS _ (List.getElem_mem hlt)
         have P2:=hS _ (List.getElem_mem hltk)
         obtain⟨M,hM⟩: ∃M,max 0 (Pl.com2 f.pa[i] f.pa[k]+1)=M:=⟨_,rfl⟩
         have HM:=Lib.hid hM
         have hov2:Pl.over f.pa[i] f.pa[k]=(decide (f.pa[i].south=f.pa[k].south)&&decide (1<M)):=by
          unfold Pl.over
          rw[<-hM]
          congr 1
          exact decide_eq_decide.2 (by omega)
         rw[hov2]at hnext hbad
         have CM:=fun W=>comD_h f.pa[i] f.pa[k] M W HM P1 P2
         clear hov hov2 hM P1 P2 HM
         obtain⟨⟨pn,ps,pf,pt⟩,hp⟩: ∃p,f.pa[i]=p:=⟨_,rfl⟩
         obtain⟨⟨qn,qs,qf,qt⟩,hq⟩: ∃p,f.pa[k]=p:=⟨_,rfl⟩
         rw[hp,hq]at hnext hbad CM
         rw[hp]at q0 q1 q2 q3
         rw[hq]at r0 r1 r2 r3
         simp only at hnext hbad CM q0 q1 q2 q3 r0 r1 r2 r3
         have HPI:=Lib.hid hp
         clear hp hq
         by_cases hs:ps=qs
         ·subst hs
          by_cases hm1:1<M
          ·have hv:=Lib.hid (hbad.out (by simp[hm1]))
           go_wp2
           go_region_held3 (fun W=>W.cell? ⟨w.heap.size,2,none⟩=some (.slice (some ⟨b,off,none⟩) f.pa.length c3)∧(W.cell? ⟨b,off+i*4,none⟩=some (.string pn)∧W.cell? ⟨b,off+i*4+1,none⟩=some (.int .i64 ps)∧W.cell? ⟨b,off+i*4+2,none⟩=some (.int .i64 pf)∧W.cell? ⟨b,off+i*4+3,none⟩=some (.int .i64 pt))∧W.cell? ⟨b,off+k*4,none⟩=some (.string qn)∧W.cell? ⟨b,off+k*4+1,none⟩=some (.int .i64 ps)∧W.cell? ⟨b,off+k*4+2,none⟩=some (.int .i64 qf)∧W.cell? ⟨b,off+k*4+3,none⟩=some (.int .i64 qt)) (first|exact⟨z0,⟨z1,z2,z3,z4⟩,z5,z6,z7,z8⟩|exact⟨hc2,⟨q0,q1,q2,q3⟩,r0,r1,r2,r3⟩) ((go_at_call 127;refine(CM _).mono ?_;rintro e w1 ⟨rfl,hx⟩;have z0:=cell_keep hx hltkb hc2;have z1:=cell_keep hx hbw q0;have z2:=cell_keep hx hbw q1;have z3:=cell_keep hx hbw q2;have z4:=cell_keep hx hbw q3;have z5:=cell_keep hx hbw r0;have z6:=cell_keep hx hbw r1;have z7:=cell_keep hx hbw r2;have z8:=cell_keep hx hbw r3;have kb1:=(hx.block w.heap.size hltkb).trans kb;have hall1:Below w.heap.size w w1:=hall.drew.trans (hx.mono hsz)))
           all_goals go_wp2
           all_goals go_ret
           all_goals exact⟨ret_bool (by rw[<-hv.out]),hall1⟩
          ·have hv:=Lib.hid (hnext.out (by simp[hm1]))
           go_wp2
           go_region_held3 (fun W=>W.cell? ⟨w.heap.size,2,none⟩=some (.slice (some ⟨b,off,none⟩) f.pa.length c3)∧(W.cell? ⟨b,off+i*4,none⟩=some (.string pn)∧W.cell? ⟨b,off+i*4+1,none⟩=some (.int .i64 ps)∧W.cell? ⟨b,off+i*4+2,none⟩=some (.int .i64 pf)∧W.cell? ⟨b,off+i*4+3,none⟩=some (.int .i64 pt))∧W.cell? ⟨b,off+k*4,none⟩=some (.string qn)∧W.cell? ⟨b,off+k*4+1,none⟩=some (.int .i64 ps)∧W.cell? ⟨b,off+k*4+2,none⟩=some (.int .i64 qf)∧W.cell? ⟨b,off+k*4+3,none⟩=some (.int .i64 qt)) (first|exact⟨z0,⟨z1,z2,z3,z4⟩,z5,z6,z7,z8⟩|exact⟨hc2,⟨q0,q1,q2,q3⟩,r0,r1,r2,r3⟩) ((go_at_call 127;refine(CM _).mono ?_;rintro e w1 ⟨rfl,hx⟩;have z0:=cell_keep hx hltkb hc2;have z1:=cell_keep hx hbw q0;have z2:=cell_keep hx hbw q1;have z3:=cell_keep hx hbw q2;have z4:=cell_keep hx hbw q3;have z5:=cell_keep hx hbw r0;have z6:=cell_keep hx hbw r1;have z7:=cell_keep hx hbw r2;have z8:=cell_keep hx hbw r3;have kb1:=(hx.block w.heap.size hltkb).trans kb;have hall1:Below w.heap.size w w1:=hall.drew.trans (hx.mono hsz)))
           all_goals go_wp2
           all_goals exact⟨⟨k+1,by omega,by go_num,Lib.hid (by rw[HPI.out];exact hv.out),kb1,hall1⟩,by simp[intOf];omega⟩
         ·have hv:=Lib.hid (hnext.out (by simp[hs]))
          have hs2:(ps==qs)=false:=by rw[beq_eq_false_iff_ne];exact hs
          go_wp2
          refine wp_region_held_drew (S:=fun W=>W.cell? ⟨w.heap.size,2,none⟩=some (.slice (some ⟨b,off,none⟩) f.pa.length c3)∧W.cell? ⟨b,off+i*4+1,none⟩=some (.int .i64 ps)∧W.cell? ⟨b,off+k*4+1,none⟩=some (.int .i64 qs)) (by kernel_rfl) ⟨hc2,q1,r1⟩ (fun hHeld=> ?_)
          refine tH 0 (some 52) (v:= ?v1) rfl rfl (fun W hW=> ?hy1) ?hr1
          case hy1=>(try dsimp only at hW);obtain⟨y0,y1,y2⟩:=hW;go_simp;try with_reducible rfl
          try simp only[Act.put,List.setIfInBounds_toArray,List.set_cons_zero,List.set_cons_succ]
          refine tH 1 (some 53) (v:= ?v2) rfl rfl (fun W hW=> ?hy2) ?hr2
          case hy2=>(try dsimp only at hW);obtain⟨y0,y1,y2⟩:=hW;go_simp;try with_reducible rfl
          try simp only[Act.put,List.setIfInBounds_toArray,List.set_cons_zero,List.set_cons_succ]
          refine tH 2 (some 54) (v:= ?v3) rfl rfl (fun W hW=> ?hy3) ?hr3
          case hy3=>(try dsimp only at hW);obtain⟨y0,y1,y2⟩:=hW;go_simp;try with_reducible rfl
          try simp only[Act.put,List.setIfInBounds_toArray,List.set_cons_zero,List.set_cons_succ]
          refine tH 3 (some 55) (v:= ?v4) rfl rfl (fun W hW=> ?hy4) ?hr4
          case hy4=>(try dsimp only at hW);obtain⟨y0,y1,y2⟩:=hW;go_simp;try with_reducible rfl
          try simp only[Act.put,List.setIfInBounds_toArray,List.set_cons_zero,List.set_cons_succ]
          refine tH 4 (some 56) (v:= ?v5) rfl rfl (fun W hW=> ?hy5) ?hr5
          case hy5=>(try dsimp only at hW);obtain⟨y0,y1,y2⟩:=hW;go_simp;try with_reducible rfl
          try simp only[Act.put,List.setIfInBounds_toArray,List.set_cons_zero,List.set_cons_succ]
          refine tH 5 (some 57) (v:= ?v6) rfl rfl (fun W hW=> ?hy6) ?hr6
          case hy6=>(try dsimp only at hW);obtain⟨y0,y1,y2⟩:=hW;go_simp;try with_reducible rfl
          try simp only[Act.put,List.setIfInBounds_toArray,List.set_cons_zero,List.set_cons_succ]
          refine tH 6 (some 58) (v:= ?v7) rfl rfl (fun W hW=> ?hy7) ?hr7
          case hy7=>(try dsimp only at hW);obtain⟨y0,y1,y2⟩:=hW;go_simp;try with_reducible rfl
          try simp only[Act.put,List.setIfInBounds_toArray,List.set_cons_zero,List.set_cons_succ]
          refine tH 7 (some 59) (v:= ?v8) rfl rfl (fun W hW=> ?hy8) ?hr8
          case hy8=>(try dsimp only at hW);obtain⟨y0,y1,y2⟩:=hW;go_simp;try with_reducible rfl
          try simp only[Act.put,List.setIfInBounds_toArray,List.set_cons_zero,List.set_cons_succ]
          refine tH 8 (some 60) (v:= ?v9) rfl rfl (fun W hW=> ?hy9) ?hr9
          case hy9=>(try dsimp only at hW);obtain⟨y0,y1,y2⟩:=hW;go_simp;try with_reducible rfl
          try simp only[Act.put,List.setIfInBounds_toArray,List.set_cons_zero,List.set_cons_succ]
          refine tH 9 (some 61) (v:= ?v10) rfl rfl (fun W hW=> ?hy10) ?hr10
          case hy10=>(try dsimp only at hW);obtain⟨y0,y1,y2⟩:=hW;go_simp;try with_reducible rfl
          try simp only[Act.put,List.setIfInBounds_toArray,List.set_cons_zero,List.set_cons_succ]
          refine tH 10 (some 62) (v:= ?v11) rfl rfl (fun W hW=> ?hy11) ?hr11
          case hy11=>(try dsimp only at hW);obtain⟨y0,y1,y2⟩:=hW;go_simp;try with_reducible rfl
          try simp only[Act.put,List.setIfInBounds_toArray,List.set_cons_zero,List.set_cons_succ]
          refine tH 11 (some 63) (v:= ?v12) rfl rfl (fun W hW=> ?hy12) ?hr12
          case hy12=>(try dsimp only at hW);obtain⟨y0,y1,y2⟩:=hW;go_simp;try with_reducible rfl
          try simp only[Act.put,List.setIfInBounds_toArray,List.set_cons_zero,List.set_cons_succ]
          refine tH 12 (some 64) (v:= ?v13) rfl rfl (fun W hW=> ?hy13) ?hr13
          case hy13=>(try dsimp only at hW);obtain⟨y0,y1,y2⟩:=hW;go_simp;try with_reducible rfl
          try simp only[Act.put,List.setIfInBounds_toArray,List.set_cons_zero,List.set_cons_succ]
          refine tH 13 (some 65) (v:= ?v14) rfl rfl (fun W hW=> ?hy14) ?hr14
          case hy14=>(try dsimp only at hW);obtain⟨y0,y1,y2⟩:=hW;go_simp;try with_reducible rfl
          try simp only[Act.put,List.setIfInBounds_toArray,List.set_cons_zero,List.set_cons_succ]
          refine takeH 14 (some 66) (v:=undef) rfl rfl (by kernel_rfl) (by kernel_rfl) (by kernel_rfl) (fun _ _ _ h=>h) (Or.inr ⟨by rfl,rfl⟩) (by assumption) ?_
          try simp only[Act.put,List.setIfInBounds_toArray,List.set_cons_zero,List.set_cons_succ]
          refine takeH 15 (some 67) (v:=undef) rfl rfl (by kernel_rfl) (by kernel_rfl) (by kernel_rfl) (fun _ _ _ h=>h) (Or.inr ⟨by rfl,rfl⟩) (by assumption) ?_
          try simp only[Act.put,List.setIfInBounds_toArray,List.set_cons_zero,List.set_cons_succ]
          refine takeH 16 (some 68) (v:=undef) rfl rfl (by kernel_rfl) (by kernel_rfl) (by kernel_rfl) (fun _ _ _ h=>h) (Or.inr ⟨by rfl,rfl⟩) (by assumption) ?_
          try simp only[Act.put,List.setIfInBounds_toArray,List.set_cons_zero,List.set_cons_succ]
          refine takeH 17 (some 69) (v:=undef) rfl rfl (by kernel_rfl) (by kernel_rfl) (by kernel_rfl) (fun _ _ _ h=>h) (Or.inr ⟨by rfl,rfl⟩) (by assumption) ?_
          try simp only[Act.put,List.setIfInBounds_toArray,List.set_cons_zero,List.set_cons_succ]
          refine takeH 18 (some 70) (v:=undef) rfl rfl (by kernel_rfl) (by kernel_rfl) (by kernel_rfl) (fun _ _ _ h=>h) (Or.inr ⟨by rfl,rfl⟩) (by assumption) ?_
          try simp only[Act.put,List.setIfInBounds_toArray,List.set_cons_zero,List.set_cons_succ]
          refine takeH 19 (some 71) (v:=undef) rfl rfl (by kernel_rfl) (by kernel_rfl) (by kernel_rfl) (fun _ _ _ h=>h) (Or.inr ⟨by rfl,rfl⟩) (by assumption) ?_
          try simp only[Act.put,List.setIfInBounds_toArray,List.set_cons_zero,List.set_cons_succ]
          refine takeH 20 (some 72) (v:=undef) rfl rfl (by kernel_rfl) (by kernel_rfl) (by kernel_rfl) (fun _ _ _ h=>h) (Or.inr ⟨by rfl,rfl⟩) (by assumption) ?_
          try simp only[Act.put,List.setIfInBounds_toArray,List.set_cons_zero,List.set_cons_succ]
          refine takeH 21 (some 73) (v:=undef) rfl rfl (by kernel_rfl) (by kernel_rfl) (by kernel_rfl) (fun _ _ _ h=>h) (Or.inr ⟨by rfl,rfl⟩) (by assumption) ?_
          try simp only[Act.put,List.setIfInBounds_toArray,List.set_cons_zero,List.set_cons_succ]
          refine takeH 22 (some 74) (v:=undef) rfl rfl (by kernel_rfl) (by kernel_rfl) (by kernel_rfl) (fun _ _ _ h=>h) (Or.inr ⟨by rfl,rfl⟩) (by assumption) ?_
          try simp only[Act.put,List.setIfInBounds_toArray,List.set_cons_zero,List.set_cons_succ]
          refine takeH 23 (some 75) (v:=undef) rfl rfl (by kernel_rfl) (by kernel_rfl) (by kernel_rfl) (fun _ _ _ h=>h) (Or.inr ⟨by rfl,rfl⟩) (by assumption) ?_
          try simp only[Act.put,List.setIfInBounds_toArray,List.set_cons_zero,List.set_cons_succ]
          refine takeH 24 (some 76) (v:=undef) rfl rfl (by kernel_rfl) (by kernel_rfl) (by kernel_rfl) (fun _ _ _ h=>h) (Or.inr ⟨by rfl,rfl⟩) (by assumption) ?_
          try simp only[Act.put,List.setIfInBounds_toArray,List.set_cons_zero,List.set_cons_succ]
          refine takeH 25 (some 77) (v:=undef) rfl rfl (by kernel_rfl) (by kernel_rfl) (by kernel_rfl) (fun _ _ _ h=>h) (Or.inr ⟨by rfl,rfl⟩) (by assumption) ?_
          try simp only[Act.put,List.setIfInBounds_toArray,List.set_cons_zero,List.set_cons_succ]
          refine tH 26 (some 78) (v:= ?v15) rfl rfl (fun W hW=> ?hy15) ?hr15
          case hy15=>(try dsimp only at hW);obtain⟨y0,y1,y2⟩:=hW;go_simp;try with_reducible rfl
          try simp only[Act.put,List.setIfInBounds_toArray,List.set_cons_zero,List.set_cons_succ]
          refine wpAnyH_done (by kernel_rfl) ?_ _
          go_wp2
          exact⟨⟨k+1,by omega,by go_num,Lib.hid (by rw[HPI.out];exact hv.out),kb,by first|exact hall.drew|exact below_drewN hall _⟩,by simp[intOf];omega⟩
        ·obtain rfl:k=i:=by omega
         have hv:=Lib.hid (Pl.apart_step hlt hap.out hft (none_take hov.out))
         go_wp2
         exact⟨⟨k+1,by omega,by go_num,hv,kb,hall⟩,by simp[intOf];omega⟩)
     ·have n1:f.pa[i].till<=f.pa[i].fr:=by omega
      have hv:=Lib.hid (hno.out (Pl.N7_apart hlt (fun h=>hft h.1)))
      subst hA
      go_wp2
      go_region_held3 (fun W=>W.cell? ⟨w.heap.size,2,none⟩=some (.slice (some ⟨b,off,none⟩) f.pa.length c3)∧W.cell? ⟨b,off+i*4+2,none⟩=some (.int .i64 f.pa[i].fr)∧W.cell? ⟨b,off+i*4+3,none⟩=some (.int .i64 f.pa[i].till)) (exact⟨hc2,q2,q3⟩) (fail)
      all_goals go_wp2
      all_goals go_ret
      all_goals exact⟨ret_bool (by rw[<-hv.out]),by first|(go_grown;done)|exact below_drewN hall _⟩
    ·have hv:=Lib.hid (hyes.out (Pl.N7_ok hri.out (by have:=hap.out;rw[List.take_of_length_le (by omega)]at this;exact this)))
     go_wp2
     go_ret
     exact⟨ret_bool (by rw[<-hv.out]),hall⟩
end Go.Proofs.YtgbpekeoegfjpaaGreatDoor
namespace Go.Proofs.YtgbpekeoegfjpaaGreatDoor
open Go.RowKit
variable (A1 A2 A3 A4 : Option Addr) (c1 c2 c3 c4 : Nat) (f : Pl.Fld)
namespace Pl
variable (A1 A2 A3 A4 : Option Addr) (c1 c2 c3 c4 : Nat) (f : Pl.Fld)
theorem idx_le {α:Type}{p:α->Bool}: ∀ {l:List α} {j:Nat} (hj:j<l.length),p l[j]=true-> ∃m,m<=j∧idx p l=some m
 | a::l,j,hj,hp=>by
  unfold idx
  cases h:p a with
  |true=>exact⟨0,by omega,by simp⟩
  | false=>
   cases j with
   |zero=>simp only[List.getElem_cons_zero]at hp;rw[hp]at h;cases h
   |succ j=>
    obtain⟨m,hm,he⟩:=idx_le (l:=l) (j:=j) (by simpa using hj) (by simpa using hp)
    exact⟨m+1,by omega,by simp[he]⟩
theorem place_lt {l:List ByteArray}{i:Nat}(h:i<l.length)(hm:l[i]∈l.take i):pos (idx (fun x=>decide (x=l[i])) l)<(i:Int):=by
 obtain⟨j,hj,hjk⟩:=List.mem_take_iff_getElem.1 hm
 obtain⟨m,hm,he⟩:=idx_le (p:=fun x=>decide (x=l[i])) (l:=l) (j:=j) (by omega) (by simpa using hjk)
 rw[he]
 show((m:Nat):Int)<(i:Int)
 omega
theorem place_eq {l:List ByteArray}{i:Nat}(h:i<l.length)(hm:l[i]∉l.take i):pos (idx (fun x=>decide (x=l[i])) l)=(i:Int):=by
 rw[idx_hit (p:=fun x=>decide (x=l[i])) h (fun j hj=>decide_eq_false fun e=>hm (List.mem_take_iff_getElem.2 ⟨j,by omega,e⟩)) (by simp)]
 rfl
theorem nms_all {f:Fld}{P:List ByteArray->Prop}(h: ∀k,k<3->P (nms f k)):P f.sn∧P f.li∧P f.pn:=⟨h 0 (by omega),h 1 (by omega),h 2 (by omega)⟩
theorem nms_one {f:Fld}{P:List ByteArray->Prop}{k:Nat}(hk:k<3)(h:P (nms f k)):P f.sn∨P f.li∨P f.pn:=by
 match k,hk with
 |0,_=>exact .inl h
 |1,_=>exact .inr (.inl h)
 |2,_=>exact .inr (.inr h)
theorem nms_N4 {f:Fld}(h: ∀k,k<3->(nms f k).all isName=true):f.N4:=by
 obtain⟨a,b,c⟩:=nms_all (P:=fun l=>l.all isName=true) h
 unfold Fld.N4;rw[a,b,c];rfl
theorem nms_N4_no {f:Fld}{k j:Nat}(hk:k<3)(hj:j<(nms f k).length)(h:isName (nms f k)[j]=false): ¬f.N4:=by
 have hall:(nms f k).all isName=false:=by
  rw[List.all_eq_false];exact⟨_,List.getElem_mem hj,by simp[h]⟩
 unfold Fld.N4
 rcases nms_one (P:=fun l=>l.all isName=false) hk hall with e|e|e<;>rw[e]<;>simp
theorem nms_N5 {f:Fld}(h: ∀k,k<3->twice (nms f k)=false):f.N5:=by
 obtain⟨a,b,c⟩:=nms_all (P:=fun l=>twice l=false) h
 unfold Fld.N5;rw[a,b,c];rfl
theorem nms_N5_no {f:Fld}{k:Nat}(hk:k<3)(h:twice (nms f k)=true): ¬f.N5:=by
 unfold Fld.N5
 rcases nms_one (P:=fun l=>twice l=true) hk h with e|e|e<;>rw[e]<;>simp
end Pl
theorem nms_size {f:Pl.Fld}(hm:Small f){k:Nat}: ∀s∈Pl.nms f k,s.size<=100000:=by
 intro s hs
 unfold Pl.nms at hs
 split at hs
 ·obtain⟨x,hx,rfl⟩:=List.mem_map.1 hs;exact hm.sn x hx
 ·split at hs
  ·exact hm.ln s hs
  ·obtain⟨x,hx,rfl⟩:=List.mem_map.1 hs;exact hm.pn x hx
theorem nms_len {f:Pl.Fld}(hm:Small f){k:Nat}:(Pl.nms f k).length<=100000:=by
 unfold Pl.nms
 split
 ·unfold Pl.Fld.sn;simp;exact hm.st
 ·split
  ·exact hm.li
  ·unfold Pl.Fld.pn;simp;exact hm.pa
set_option maxHeartbeats 8000000 in
theorem checkFieldB_rest (w:World) (hf:FldS w w.heap.size A1 A2 A3 A4 f) (hm:Small f) (hc:Caps c1 c2 c3 c4 f) (h1:f.N1) (h2:f.N2) (h3:Pl.vars f.va=0):
  Calls Tryz.prog 43 #[.agg (fq A1 A2 A3 A4 c1 c2 c3 c4 f)] w fun e w'=>e=.returned (.int .i64 (Pl.fieldE f))∧Below w.heap.size w w':=by
 have h1':f.st.length<=12∧f.li.length<=10∧f.pa.length<=40:=by unfold Pl.Fld.N1 at h1;omega
 have h2':2<=f.st.length∧1<=f.li.length:=by unfold Pl.Fld.N2 at h2;omega
 obtain⟨k1,k2,k3⟩:=h1'
 obtain⟨k4,k5⟩:=h2'
 have hml:f.va.length<=maxLen:=by have:=hm.va;unfold maxLen;omega
 have H1:=Lib.hid h1;have H2:=Lib.hid h2;have H3:=Lib.hid h3
 clear h1 h2 h3
 have vb:=fun W (a:Vars W W.heap.size A4 f.va)=>vars_b A4 c4 f.va W a hml
 rw[H3.out]at vb
 have kb:=heap_alloc_new w (.cells (fq A1 A2 A3 A4 c1 c2 c3 c4 f) 28)
 go_enter Tryz.func43,Tryz.ntmps43
 go_wp2_with (go_at_call 112;refine(vb _ (hf.va.up (by go_grown))).mono ?_;rintro e w1 ⟨rfl,hx⟩;obtain⟨kb,hckb,hfkb,hltkb⟩:=kB hx kb;have hall:Below w.heap.size w w1:=Below.trans (by go_grown) (hx.mono (by go_size));have hsz:w.heap.size<=w1.heap.size:=hall.size;clear hx)
 clear vb
 go_loopw [4] (fun z wr=> ∃(k:Nat),k<=3∧z=.int .i64 k∧Hid (∀j,j<k->(Pl.nms f j).all Pl.isName=true)∧wr.heap[w.heap.size]?=some (.cells (fq A1 A2 A3 A4 c1 c2 c3 c4 f) 28 (0,0))∧Below w.heap.size w wr) (fun z _=>3-(intOf z).toNat)
 case atStart=>exact⟨0,by omega,rfl,Lib.hid fun j h=>by omega,kb,by go_grown⟩
 case round=>
  clear kb hckb hfkb hltkb hall hsz
  obtain⟨k,hk,rfl,hg,kb,hall⟩:=hrel
  obtain⟨hckb,hfkb⟩:=blk_cells kb
  have hltkb:=(lO kb)
  have hsz:=hall.size
  by_cases hlt:k<3
  ·have g1:(k:Int)<3:=by omega
   go_wp2_with (go_at_call 113;refine(names_b A1 A2 A3 A4 c1 c2 c3 c4 f k hlt _ (hf.up hall) hm).mono ?_;rintro e w2 ⟨B,d,rfl,hN,hd,hF,hx⟩;have kb2:=(hx.block w.heap.size hltkb).trans kb;have hall2:Below w.heap.size w w2:=hall.trans (hx.mono hsz))
   have hnl:=nms_len (k:=k) hm
   go_loopw [6] (fun z W=> ∃(i:Nat),i<=(Pl.nms f k).length∧z=.int .i64 i∧Hid (∀j (h:j<(Pl.nms f k).length),j<i->Pl.isName (Pl.nms f k)[j]=true)∧w2=W) (fun z _=>(Pl.nms f k).length-(intOf z).toNat)
   case atStart=>exact⟨0,by omega,rfl,Lib.hid fun j _ h=>by omega,rfl⟩
   case round=>
    obtain⟨i,hi,rfl,hq,rfl⟩:=hrel
    by_cases hlti:i<(Pl.nms f k).length
    ·obtain⟨b,off,rfl,hbB,q0⟩:=Nms.at1 hN hlti
     have hsz1:=nms_size hm _ (List.getElem_mem hlti)
     cases hb:Pl.isName (Pl.nms f k)[i]with
     | true=>
      have HB:=Lib.hid hb
      have ib:=fun W=>isName_b (Pl.nms f k)[i] W hsz1
      rw[hb]at ib
      clear hb
      go_wp2_with (go_at_call 114;refine(ib _).mono ?_;rintro e w3 ⟨rfl,rfl⟩)
      go_roundw
      case rel=>exact⟨i+1,by omega,by go_num,Lib.hid fun j h hj=>by
       by_cases e:j=i
       ·subst e;exact HB.out
       ·exact hq.out j h (by omega),by trivial⟩
      case measure=>simp[intOf];try omega
     |false=>
      have hE:=Lib.hid (Pl.fieldE_4 H1.out H2.out H3.out (Pl.nms_N4_no hlt hlti hb))
      have ib:=fun W=>isName_b (Pl.nms f k)[i] W hsz1
      rw[hb]at ib
      clear hb
      go_wp2_with (go_at_call 114;refine(ib _).mono ?_;rintro e w3 ⟨rfl,rfl⟩)
      go_ret
      exact⟨ret_int (by rw[hE.out]),hall2⟩
    ·have hn:Hid ((Pl.nms f k).all Pl.isName=true):=Lib.hid (by
      rw[List.all_eq_true];intro s hs
      obtain⟨j,hj,rfl⟩:=List.getElem_of_mem hs
      exact hq.out j hj (by omega))
     have hn2:Hid (∀j,j<k+1->(Pl.nms f j).all Pl.isName=true):=Lib.hid fun j hj=>by
      by_cases e:j=k
      ·subst e;exact hn.out
      ·exact hg.out j (by omega)
     go_wp2
     exact⟨⟨k+1,by omega,by go_num,hn2,kb2,hall2⟩,by simp[intOf];omega⟩
  ·have g3 : ¬(k:Int)<3:=by omega
   have N4:=Lib.hid (Pl.nms_N4 (f:=f) fun j hj=>hg.out j (by omega))
   clear hg
   go_wp2
   go_loopw [7] (fun z wr=> ∃(k:Nat),k<=3∧z=.int .i64 k∧Hid (∀j,j<k->Pl.twice (Pl.nms f j)=false)∧wr.heap[w.heap.size]?=some (.cells (fq A1 A2 A3 A4 c1 c2 c3 c4 f) 28 (0,0))∧Below w.heap.size w wr) (fun z _=>3-(intOf z).toNat)
   case atStart=>exact⟨0,by omega,rfl,Lib.hid fun j h=>by omega,kb,by go_grown⟩
   case round=>
    clear kb hckb hfkb hltkb hall hsz
    obtain⟨k,hk,rfl,hg,kb,hall⟩:=hrel
    obtain⟨hckb,hfkb⟩:=blk_cells kb
    have hltkb:=(lO kb)
    have hsz:=hall.size
    by_cases hlt:k<3
    ·have g1:(k:Int)<3:=by omega
     go_wp2_with (go_at_call 113;refine(names_b A1 A2 A3 A4 c1 c2 c3 c4 f k hlt _ (hf.up hall) hm).mono ?_;rintro e w2 ⟨B,d,rfl,hN,hd,hF,hx⟩;have kb2:=(hx.block w.heap.size hltkb).trans kb;have hall2:Below w.heap.size w w2:=hall.trans (hx.mono hsz))
     have hnl:=nms_len (k:=k) hm
     go_loopw [9] (fun z W=> ∃(i:Nat),i<=(Pl.nms f k).length∧z=.int .i64 i∧Hid (∀j (h:j<(Pl.nms f k).length),j<i->(Pl.nms f k)[j]∉(Pl.nms f k).take j)∧w2=W) (fun z _=>(Pl.nms f k).length-(intOf z).toNat)
     case atStart=>exact⟨0,by omega,rfl,Lib.hid fun j _ h=>by omega,rfl⟩
     case round=>
      obtain⟨i,hi,rfl,hq,rfl⟩:=hrel
      by_cases hlti:i<(Pl.nms f k).length
      ·have pb:=fun W (a:Nms W W.heap.size B (Pl.nms f k))=>place_b B d (Pl.nms f k) (Pl.nms f k)[i] W a (by have:=nms_len (k:=k) hm;omega)
       obtain⟨P,hP⟩: ∃P,Pl.pos (Pl.idx (fun x=>decide (x=(Pl.nms f k)[i])) (Pl.nms f k))=P:=⟨_,rfl⟩
       rw[hP]at pb
       obtain⟨b,off,hB,hbB,q0⟩:=Nms.at1 hN hlti
       have hN':=hN
       subst hB
       by_cases hmem:(Pl.nms f k)[i]∈(Pl.nms f k).take i
       ·have hE:=Lib.hid (Pl.fieldE_6 H1.out H2.out H3.out N4.out (Pl.nms_N5_no hlt (Pl.twice_hit hlti hmem)))
        have hPi:P<(i:Int):=by rw[<-hP];exact Pl.place_lt hlti hmem
        clear hmem hP
        go_wp2_with (go_at_call 115;refine(pb _ hN').mono ?_;rintro e w3 ⟨rfl,rfl⟩)
        go_ret
        exact⟨ret_int (by rw[hE.out]),hall2⟩
       ·have hPi: ¬P<(i:Int):=by rw[<-hP,Pl.place_eq hlti hmem];omega
        have HM:=Lib.hid hmem
        clear hmem hP
        go_wp2_with (go_at_call 115;refine(pb _ hN').mono ?_;rintro e w3 ⟨rfl,rfl⟩)
        go_roundw
        case rel=>exact⟨i+1,by omega,by go_num,Lib.hid fun j h hj=>by
         by_cases e:j=i
         ·subst e;exact HM.out
         ·exact hq.out j h (by omega),by trivial⟩
        case measure=>simp[intOf];try omega
      ·have hn:=Lib.hid (Pl.twice_none (l:=Pl.nms f k) fun j hj=>hq.out j hj (by omega))
       have hn2:Hid (∀j,j<k+1->Pl.twice (Pl.nms f j)=false):=Lib.hid fun j hj=>by
        by_cases e:j=k
        ·subst e;exact hn.out
        ·exact hg.out j (by omega)
       go_wp2
       exact⟨⟨k+1,by omega,by go_num,hn2,kb2,hall2⟩,by simp[intOf];omega⟩
    ·have g4: ¬(k:Int)<3:=by omega
     have N5:=Lib.hid (Pl.nms_N5 (f:=f) fun j hj=>hg.out j (by omega))
     clear hg
     go_wp2
     go_loopw [10] (fun z wr=> ∃(k:Nat),k<=f.st.length∧z=.int .i64 k∧Hid (∀j (h:j<f.st.length),j<k->0<=f.st[j].2∧f.st[j].2<=100000)∧wr.heap[w.heap.size]?=some (.cells (fq A1 A2 A3 A4 c1 c2 c3 c4 f) 28 (0,0))∧Below w.heap.size w wr) (fun z _=>f.st.length-(intOf z).toNat)
     case atStart=>exact⟨0,by omega,rfl,Lib.hid fun j _ h=>by omega,kb,hall⟩
     case round=>
      clear kb hckb hfkb hltkb hall hsz
      obtain⟨k,hk,rfl,hg,kb,hall⟩:=hrel
      obtain⟨hckb,hfkb⟩:=blk_cells kb
      have hltkb:=(lO kb)
      have hsz:=hall.size
      by_cases hlt:k<f.st.length
      ·obtain⟨b,off,rfl,hbB,q0,q1⟩:=Stas.at2 (hf.st.below hall) hlt
       cases hin:Pl.inB f.st[k].2 0 100000 with
       | true=>
        have hok:Hid (0<=f.st[k].2∧f.st[k].2<=100000):=Lib.hid (by simpa [Pl.inB]using hin)
        go_wp2_with (go_at_call 102;refine(within_b _ _ _ _).mono ?_;rintro e w' ⟨rfl,rfl⟩)
        go_roundw
        case rel=>exact⟨k+1,by omega,by go_num,Lib.hid fun j h hj=>by
         by_cases e:j=k
         ·subst e;exact hok.out
         ·exact hg.out j h (by omega),kb,hall⟩
        case measure=>simp[intOf];try omega
       |false=>
        have hE:=Lib.hid (Pl.fieldE_1 H1.out H2.out H3.out N4.out N5.out (Pl.N6_st hlt (fun h=>by simp[Pl.inB,h.1,h.2]at hin)))
        go_wp2_with (go_at_call 102;refine(within_b _ _ _ _).mono ?_;rintro e w' ⟨rfl,rfl⟩)
        go_ret
        exact⟨ret_int (by rw[hE.out]),hall⟩
      ·have hst:=Lib.hid (fun j h=>hg.out j h (by omega))
       clear hg
       go_wp2
       go_loopw [11] (fun z wr=> ∃(k:Nat),k<=f.pa.length∧z=.int .i64 k∧Hid (∀j (h:j<f.pa.length),j<k->Pl.parIn f.st.length f.li.length f.pa[j]=true)∧wr.heap[w.heap.size]?=some (.cells (fq A1 A2 A3 A4 c1 c2 c3 c4 f) 28 (0,0))∧Below w.heap.size w wr) (fun z _=>f.pa.length-(intOf z).toNat)
       case atStart=>exact⟨0,by omega,rfl,Lib.hid fun j _ h=>by omega,kb,hall⟩
       case round=>
        clear kb hckb hfkb hltkb hall hsz
        obtain⟨k,hk,rfl,hg,kb,hall⟩:=hrel
        obtain⟨hckb,hfkb⟩:=blk_cells kb
        have hltkb:=(lO kb)
        have hsz:=hall.size
        by_cases hlt:k<f.pa.length
        ·obtain⟨b,off,rfl,hbB,q0,q1,q2,q3⟩:=Pars.at4 (hf.pa.below hall) hlt
         have hpi:Pl.parIn f.st.length f.li.length f.pa[k]=(Pl.inB f.pa[k].south 0 ((f.li.length:Int)-2)&&Pl.inB f.pa[k].fr 0 ((f.st.length:Int)-1)&&Pl.inB f.pa[k].till 0 ((f.st.length:Int)-1)):=by
          simp[Pl.parIn,Pl.inB]
         cases i1:Pl.inB f.pa[k].south 0 ((f.li.length:Int)-2)with
         |false=>
          have hE:=Lib.hid (Pl.fieldE_1 H1.out H2.out H3.out N4.out N5.out (Pl.N6_pa hlt (by rw[hpi,i1];rfl)))
          clear hpi
          go_wp2_with (go_at_call 102;refine(within_b _ _ _ _).mono ?_;rintro e w' ⟨rfl,rfl⟩)
          go_ret
          exact⟨ret_int (by rw[hE.out]),by go_grown⟩
         |true=>
         cases i2:Pl.inB f.pa[k].fr 0 ((f.st.length:Int)-1)with
         |false=>
          have hE:=Lib.hid (Pl.fieldE_1 H1.out H2.out H3.out N4.out N5.out (Pl.N6_pa hlt (by rw[hpi,i1,i2];rfl)))
          clear hpi
          go_wp2_with (go_at_call 102;refine(within_b _ _ _ _).mono ?_;rintro e w' ⟨rfl,rfl⟩)
          go_ret
          exact⟨ret_int (by rw[hE.out]),by go_grown⟩
         |true=>
         cases i3:Pl.inB f.pa[k].till 0 ((f.st.length:Int)-1)with
         |false=>
          have hE:=Lib.hid (Pl.fieldE_1 H1.out H2.out H3.out N4.out N5.out (Pl.N6_pa hlt (by rw[hpi,i1,i2,i3];rfl)))
          clear hpi
          go_wp2_with (go_at_call 102;refine(within_b _ _ _ _).mono ?_;rintro e w' ⟨rfl,rfl⟩)
          go_ret
          exact⟨ret_int (by rw[hE.out]),by go_grown⟩
         | true=>
          have hok:Hid (Pl.parIn f.st.length f.li.length f.pa[k]=true):=Lib.hid (by rw[hpi,i1,i2,i3];rfl)
          clear hpi
          go_wp2_with (go_at_call 102;refine(within_b _ _ _ _).mono ?_;rintro e w' ⟨rfl,rfl⟩)
          go_roundw
          case rel=>exact⟨k+1,by omega,by go_num,Lib.hid fun j h hj=>by
           by_cases e:j=k
           ·subst e;exact hok.out
           ·exact hg.out j h (by omega),(Below.heap_alloc _ _ _ hltkb).trans kb,by go_grown⟩
          case measure=>simp[intOf];try omega
        ·have hpa:=Lib.hid (fun j h=>hg.out j h (by omega))
         have N6:=Lib.hid (Pl.N6_ok hst.out hpa.out)
         have hS: ∀p∈f.pa,Pl.parIn 12 10 p=true:=fun q hq=>by
          obtain⟨j,hj,rfl⟩:=List.getElem_of_mem hq
          have:=hpa.out j hj
          unfold Pl.parIn at this ⊢
          simp at this ⊢
          omega
         clear hg hst
         by_cases h7:f.N7
         ·have hE:=Lib.hid (Pl.fieldE_0 H1.out H2.out H3.out N4.out N5.out N6.out h7)
          have hB7:Hid (true=true↔f.N7):=Lib.hid (by simp[h7])
          clear h7
          go_wp2_with (go_at_call 116;refine(ordered_b A1 A2 A3 A4 c1 c2 c3 c4 f true _ (hf.up hall) hm hc k1 k3 hS hB7).mono ?_;rintro e w3 ⟨rfl,hx⟩;have hall3:Below w.heap.size w w3:=hall.trans (hx.mono hsz))
          go_ret
          exact⟨ret_int (by rw[hE.out]),hall3⟩
         ·have hE:=Lib.hid (Pl.fieldE_30 H1.out H2.out H3.out N4.out N5.out N6.out h7)
          have hB7:Hid (false=true↔f.N7):=Lib.hid (by simp[h7])
          clear h7
          go_wp2_with (go_at_call 116;refine(ordered_b A1 A2 A3 A4 c1 c2 c3 c4 f false _ (hf.up hall) hm hc k1 k3 hS hB7).mono ?_;rintro e w3 ⟨rfl,hx⟩;have hall3:Below w.heap.size w w3:=hall.trans (hx.mono hsz))
          go_ret
          exact⟨ret_int (by rw[hE.out]),hall3⟩
end Go.Proofs.YtgbpekeoegfjpaaGreatDoor
namespace Go.Proofs.YtgbpekeoegfjpaaGreatDoor
open Go.RowKit
variable (A1 A2 A3 A4 : Option Addr) (c1 c2 c3 c4 : Nat) (f : Pl.Fld)
set_option maxHeartbeats 2000000 in
theorem checkFieldB_big (w:World)(_hf:FldS w w.heap.size A1 A2 A3 A4 f)(hm:Small f)(_hc:Caps c1 c2 c3 c4 f)(h1: ¬f.N1):
  Calls Tryz.prog 43 #[.agg (fq A1 A2 A3 A4 c1 c2 c3 c4 f)] w fun e w'=>e=.returned (.int .i64 (Pl.fieldE f))∧Below w.heap.size w w':=by
 have hE:=Lib.hid (Pl.fieldE_2 h1)
 have h1':12<f.st.length∨(f.st.length<=12∧10<f.li.length)∨(f.st.length<=12∧f.li.length<=10∧40<f.pa.length):=by unfold Pl.Fld.N1 at h1;omega
 obtain⟨m1,m2,m3,m4⟩:=hm
 clear h1
 rcases h1' with h|⟨h,h'⟩|⟨h,h',h''⟩
 all_goals
  go_enter Tryz.func43,Tryz.ntmps43
  go_wp2
  go_ret
  exact⟨ret_int (by rw[hE.out]),by go_grown⟩
set_option maxHeartbeats 4000000 in
theorem checkFieldB_few (w:World)(_hf:FldS w w.heap.size A1 A2 A3 A4 f)(_hm:Small f)(_hc:Caps c1 c2 c3 c4 f)(h1:f.N1)(h2: ¬f.N2):
  Calls Tryz.prog 43 #[.agg (fq A1 A2 A3 A4 c1 c2 c3 c4 f)] w fun e w'=>e=.returned (.int .i64 (Pl.fieldE f))∧Below w.heap.size w w':=by
 have hE:=Lib.hid (Pl.fieldE_5 h1 h2)
 have h1':f.st.length<=12∧f.li.length<=10∧f.pa.length<=40:=by unfold Pl.Fld.N1 at h1;omega
 have h2':f.st.length<2∨(2<=f.st.length∧f.li.length<1):=by unfold Pl.Fld.N2 at h2;omega
 obtain⟨k1,k2,k3⟩:=h1'
 clear h1 h2
 rcases h2' with h|⟨h,h'⟩
 all_goals
  go_enter Tryz.func43,Tryz.ntmps43
  go_wp2
  go_ret
  exact⟨ret_int (by rw[hE.out]),by go_grown⟩
set_option maxHeartbeats 4000000 in
theorem checkFieldB_vars (w:World)(hf:FldS w w.heap.size A1 A2 A3 A4 f)(hm:Small f)(_hc:Caps c1 c2 c3 c4 f)(h1:f.N1)(h2:f.N2)(h3:Pl.vars f.va≠0):
  Calls Tryz.prog 43 #[.agg (fq A1 A2 A3 A4 c1 c2 c3 c4 f)] w fun e w'=>e=.returned (.int .i64 (Pl.fieldE f))∧Below w.heap.size w w':=by
 have hE:=Lib.hid (Pl.fieldE_v h1 h2 h3)
 have h1':f.st.length<=12∧f.li.length<=10∧f.pa.length<=40:=by unfold Pl.Fld.N1 at h1;omega
 have h2':2<=f.st.length∧1<=f.li.length:=by unfold Pl.Fld.N2 at h2;omega
 obtain⟨k1,k2,k3⟩:=h1'
 obtain⟨k4,k5⟩:=h2'
 obtain⟨V,hV⟩: ∃V,Pl.vars f.va=V:=⟨_,rfl⟩
 have vb:=fun W (a:Vars W W.heap.size A4 f.va)=>vars_b A4 c4 f.va W a (by have:=hm.va;unfold maxLen;omega)
 rw[hV]at vb h3 hE
 have q0:(V !=0)=true:=by simpa using h3
 clear h1 h2 hV h3
 have kb:=heap_alloc_new w (.cells (fq A1 A2 A3 A4 c1 c2 c3 c4 f) 28)
 go_enter Tryz.func43,Tryz.ntmps43
 go_wp2_with (go_at_call 112;refine(vb _ (hf.va.up (by go_grown))).mono ?_;rintro e w1 ⟨rfl,hx⟩;obtain⟨kb,hckb,hfkb,hltkb⟩:=kB hx kb;have hall:Below w.heap.size w w1:=Below.trans (by go_grown) (hx.mono (by go_size));have hsz:w.heap.size<=w1.heap.size:=hall.size;clear hx)
 go_ret
 exact⟨ret_int (by rw[hE.out]),by go_grown⟩
theorem checkFieldB_h (E:Int)(w:World)(hE:Hid (Pl.fieldE f=E))(hf:FldS w w.heap.size A1 A2 A3 A4 f)(hm:Small f)(hc:Caps c1 c2 c3 c4 f):
  Calls Tryz.prog 43 #[.agg (fq A1 A2 A3 A4 c1 c2 c3 c4 f)] w fun e w'=>e=.returned (.int .i64 E)∧Below w.heap.size w w':=by
 rw[<-hE.out]
 by_cases h1:f.N1
 ·by_cases h2:f.N2
  ·by_cases h3:Pl.vars f.va=0
   ·exact checkFieldB_rest A1 A2 A3 A4 c1 c2 c3 c4 f w hf hm hc h1 h2 h3
   ·exact checkFieldB_vars A1 A2 A3 A4 c1 c2 c3 c4 f w hf hm hc h1 h2 h3
  ·exact checkFieldB_few A1 A2 A3 A4 c1 c2 c3 c4 f w hf hm hc h1 h2
 ·exact checkFieldB_big A1 A2 A3 A4 c1 c2 c3 c4 f w hf hm hc h1
theorem PointsB_h (P:Int)(w:World)(h:Hid ((if Pl.fieldE f=0 then 1+((f.li.length:Nat):Int)*(f.st.length:Nat)else 0)=P))(hf:FldS w w.heap.size A1 A2 A3 A4 f)(hm:Small f)(hc:Caps c1 c2 c3 c4 f):
  Calls Tryz.prog 46 #[.agg (fq A1 A2 A3 A4 c1 c2 c3 c4 f)] w fun e w'=>e=.returned (.int .i64 P)∧Below w.heap.size w w':=by
 have kb:=heap_alloc_new w (.cells (fq A1 A2 A3 A4 c1 c2 c3 c4 f) 28)
 obtain⟨E,hE⟩: ∃E,Pl.fieldE f=E:=⟨_,rfl⟩
 have HE:=Lib.hid hE
 by_cases h0:E=0
 ·subst h0
  have hok:=Pl.fieldE_ok hE
  have b1:=hok.li10
  have b2:=hok.st12
  obtain⟨m0,m1⟩:=mul_bd (l:=(f.li.length:Int)) (S:=(f.st.length:Int)) (by omega) (by omega) (by omega) (by omega)
  have hP:Hid (1+((f.li.length:Nat):Int)*(f.st.length:Nat)=P):=Lib.hid (by have:=h.out;rw[if_pos hE]at this;exact this)
  clear hE hok h
  go_enter Tryz.func46,Tryz.ntmps46
  go_wp2_with (go_at_call 43;refine(checkFieldB_h A1 A2 A3 A4 c1 c2 c3 c4 f 0 _ HE (hf.up (by go_grown)) hm hc).mono ?_;rintro e w1 ⟨rfl,hx⟩;obtain⟨kb,hckb,hfkb,hltkb⟩:=kB hx kb;have hall:Below w.heap.size w w1:=Below.trans (by go_grown) (hx.mono (by go_size));have hsz:w.heap.size<=w1.heap.size:=hall.size;clear hx)
  go_ret
  exact⟨by rw[hP.out];try rfl,hall⟩
 ·have q0:(E !=0)=true:=by simpa using h0
  have hP:Hid (0=P):=Lib.hid (by have:=h.out;rw[hE,if_neg h0]at this;exact this)
  clear hE h
  go_enter Tryz.func46,Tryz.ntmps46
  go_wp2_with (go_at_call 43;refine(checkFieldB_h A1 A2 A3 A4 c1 c2 c3 c4 f E _ HE (hf.up (by go_grown)) hm hc).mono ?_;rintro e w1 ⟨rfl,hx⟩;obtain⟨kb,hckb,hfkb,hltkb⟩:=kB hx kb;have hall:Below w.heap.size w w1:=Below.trans (by go_grown) (hx.mono (by go_size));have hsz:w.heap.size<=w1.heap.size:=hall.size;clear hx)
  go_ret
  exact⟨by rw[hP.out];try rfl,hall⟩
end Go.Proofs.YtgbpekeoegfjpaaGreatDoor
namespace Go.Proofs.YtgbpekeoegfjpaaGreatDoor
open Go.RowKit
variable (A1 A2 A3 A4 : Option Addr) (c1 c2 c3 c4 : Nat) (f : Pl.Fld)
def Pl.vast (f:Pl.Fld):Bool:=(decide (20<f.st.length)||decide (20<f.li.length)||decide (60<f.pa.length)||decide (60<f.va.length))||(f.st.any (fun s=>decide (100<s.1.size))||f.li.any (fun s=>decide (100<s.size))||f.pa.any (fun p=>decide (100<p.name.size)))
set_option maxHeartbeats 2000000 in
theorem vast_many (w:World)(h:20<f.st.length∨20<f.li.length∨60<f.pa.length∨60<f.va.length):
  Calls Tryz.prog 23 #[.agg (fq A1 A2 A3 A4 c1 c2 c3 c4 f)] w fun e w'=>e=.returned (.bool (Pl.vast f))∧Below w.heap.size w w':=by
 have hv:Hid (Pl.vast f=true):=Lib.hid (by unfold Pl.vast;simp;omega)
 by_cases h1:20<f.st.length
 ·have e1:(20:Int)<(f.st.length:Int):=by omega
  go_enter Tryz.func23,Tryz.ntmps23
  go_wp2
  go_ret
  exact⟨ret_bool hv.out.symm,by go_grown⟩
 have n1: ¬(20:Int)<(f.st.length:Int):=by omega
 by_cases h2:20<f.li.length
 ·have e1:(20:Int)<(f.li.length:Int):=by omega
  go_enter Tryz.func23,Tryz.ntmps23
  go_wp2
  go_ret
  exact⟨ret_bool hv.out.symm,by go_grown⟩
 have n2: ¬(20:Int)<(f.li.length:Int):=by omega
 by_cases h3:60<f.pa.length
 ·have e1:(60:Int)<(f.pa.length:Int):=by omega
  go_enter Tryz.func23,Tryz.ntmps23
  go_wp2
  go_ret
  exact⟨ret_bool hv.out.symm,by go_grown⟩
 have n3: ¬(60:Int)<(f.pa.length:Int):=by omega
 ·have e1:(60:Int)<(f.va.length:Int):=by omega
  go_enter Tryz.func23,Tryz.ntmps23
  go_wp2
  go_ret
  exact⟨ret_bool hv.out.symm,by go_grown⟩
set_option maxHeartbeats 4000000 in
theorem vast_few (w:World) (hf:FldS w w.heap.size A1 A2 A3 A4 f) (h1:f.st.length<=20) (h2:f.li.length<=20) (h3:f.pa.length<=60) (h4:f.va.length<=60):
  Calls Tryz.prog 23 #[.agg (fq A1 A2 A3 A4 c1 c2 c3 c4 f)] w fun e w'=>e=.returned (.bool (Pl.vast f))∧Below w.heap.size w w':=by
 have n1: ¬(20:Int)<(f.st.length:Int):=by omega
 have n2: ¬(20:Int)<(f.li.length:Int):=by omega
 have n3: ¬(60:Int)<(f.pa.length:Int):=by omega
 have n4: ¬(60:Int)<(f.va.length:Int):=by omega
 have kb:=heap_alloc_new w (.cells (fq A1 A2 A3 A4 c1 c2 c3 c4 f) 28)
 have hall:Below w.heap.size w (w.alloc (.cells (fq A1 A2 A3 A4 c1 c2 c3 c4 f) 28)):=by go_grown
 go_enter Tryz.func23,Tryz.ntmps23
 go_wp2
 go_loopw [3] (fun p wr=> ∃k:Nat,k<=f.st.length∧p=.int .i64 k∧(∀s∈f.st.take k,s.1.size<=100)∧wr.heap[w.heap.size]?=some (.cells (fq A1 A2 A3 A4 c1 c2 c3 c4 f) 28 (0,0))∧Below w.heap.size w wr) (fun p _=>f.st.length-(intOf p).toNat)
 case atStart=>exact⟨0,by omega,rfl,by simp,kb,hall⟩
 clear kb hall
 case round=>
  obtain⟨k,hk,rfl,hs,kb,hb1⟩:=hrel
  obtain⟨hckb,hfkb⟩:=blk_cells kb
  by_cases hlt:k<f.st.length
  ·obtain⟨b,off,rfl,hbB,q0,q1⟩:=Stas.at2 (hf.st.below hb1) hlt
   by_cases hz:100<f.st[k].1.size
   ·have hv:Hid (Pl.vast f=true):=Lib.hid (by unfold Pl.vast;simp only[Bool.or_eq_true,List.any_eq_true,decide_eq_true_eq];exact .inr (.inl (.inl ⟨_,List.getElem_mem hlt,hz⟩)))
    go_wp2
    go_ret
    exact⟨ret_bool hv.out.symm,hb1⟩
   ·go_wp2
    go_roundw
    case rel=>exact⟨k+1,by omega,by go_num,by intro s hs';rw[List.take_succ_eq_append_getElem hlt,List.mem_append]at hs';rcases hs' with h|h;exact hs _ h;simp at h;subst h;omega,kb,hb1⟩
    case measure=>simp[intOf];try omega
  ·obtain rfl:k=f.st.length:=by omega
   go_wp2
   go_loopw [4] (fun p wr=> ∃k:Nat,k<=f.li.length∧p=.int .i64 k∧(∀s∈f.li.take k,s.size<=100)∧wr.heap[w.heap.size]?=some (.cells (fq A1 A2 A3 A4 c1 c2 c3 c4 f) 28 (0,0))∧Below w.heap.size w wr) (fun p _=>f.li.length-(intOf p).toNat)
   case atStart=>exact⟨0,by omega,rfl,by simp,kb,hb1⟩
   case round=>
    clear hckb hfkb kb hb1
    obtain⟨k,hk,rfl,hs2,kb,hb1⟩:=hrel
    obtain⟨hckb,hfkb⟩:=blk_cells kb
    by_cases hlt:k<f.li.length
    ·obtain⟨b,off,rfl,hbB,q0⟩:=Nms.at1 (hf.li.below hb1) hlt
     by_cases hz:100<f.li[k].size
     ·have hv:Hid (Pl.vast f=true):=Lib.hid (by unfold Pl.vast;simp only[Bool.or_eq_true,List.any_eq_true,decide_eq_true_eq];exact .inr (.inl (.inr ⟨_,List.getElem_mem hlt,hz⟩)))
      go_wp2
      go_ret
      exact⟨ret_bool hv.out.symm,hb1⟩
     ·go_wp2
      go_roundw
      case rel=>exact⟨k+1,by omega,by go_num,by intro s hs';rw[List.take_succ_eq_append_getElem hlt,List.mem_append]at hs';rcases hs' with h|h;exact hs2 _ h;simp at h;subst h;omega,kb,hb1⟩
      case measure=>simp[intOf];try omega
    ·obtain rfl:k=f.li.length:=by omega
     go_wp2
     go_loopw [5] (fun p wr=> ∃k:Nat,k<=f.pa.length∧p=.int .i64 k∧(∀s∈f.pa.take k,s.name.size<=100)∧wr.heap[w.heap.size]?=some (.cells (fq A1 A2 A3 A4 c1 c2 c3 c4 f) 28 (0,0))∧Below w.heap.size w wr) (fun p _=>f.pa.length-(intOf p).toNat)
     case atStart=>exact⟨0,by omega,rfl,by simp,kb,hb1⟩
     case round=>
      clear hckb hfkb kb hb1
      obtain⟨k,hk,rfl,hs3,kb,hb1⟩:=hrel
      obtain⟨hckb,hfkb⟩:=blk_cells kb
      by_cases hlt:k<f.pa.length
      ·obtain⟨b,off,rfl,hbB,q0,q1,q2,q3⟩:=Pars.at4 (hf.pa.below hb1) hlt
       by_cases hz:100<f.pa[k].name.size
       ·have hv:Hid (Pl.vast f=true):=Lib.hid (by unfold Pl.vast;simp only[Bool.or_eq_true,List.any_eq_true,decide_eq_true_eq];exact .inr (.inr ⟨_,List.getElem_mem hlt,hz⟩))
        go_wp2
        go_ret
        exact⟨ret_bool hv.out.symm,hb1⟩
       ·go_wp2
        go_roundw
        case rel=>exact⟨k+1,by omega,by go_num,by intro s hs';rw[List.take_succ_eq_append_getElem hlt,List.mem_append]at hs';rcases hs' with h|h;exact hs3 _ h;simp at h;subst h;omega,kb,hb1⟩
        case measure=>simp[intOf];try omega
      ·obtain rfl:k=f.pa.length:=by omega
       rw[List.take_length]at hs hs2 hs3
       have hv:Hid (Pl.vast f=false):=Lib.hid (by
        unfold Pl.vast
        simp only[Bool.or_eq_false_iff,List.any_eq_false,decide_eq_true_eq,decide_eq_false_iff_not]
        exact⟨⟨⟨⟨by omega,by omega⟩,by omega⟩,by omega⟩,⟨fun s hs'=>by have:=hs s hs';omega,fun s hs'=>by have:=hs2 s hs';omega⟩,fun s hs'=>by have:=hs3 s hs';omega⟩)
       go_wp2
       go_ret
       exact⟨ret_bool hv.out.symm,hb1⟩
end Go.Proofs.YtgbpekeoegfjpaaGreatDoor
namespace Go.Proofs.YtgbpekeoegfjpaaGreatDoor
open Go.RowKit
variable (A1 A2 A3 A4 : Option Addr) (c1 c2 c3 c4 : Nat) (f : Pl.Fld)
attribute [-go_sem] run_equalIn_agg storeVar loadVar
attribute [local go_sem] lv_int lv_bool lv_u8 lv_string lv_strings lv_stas lv_pars lv_vars
end Go.Proofs.YtgbpekeoegfjpaaGreatDoor
namespace Go.Proofs.YtgbpekeoegfjpaaGreatDoor
open Go.RowKit
variable (A1 A2 A3 A4 : Option Addr) (c1 c2 c3 c4 : Nat) (f : Pl.Fld)
attribute [-go_sem] run_equalIn_agg storeVar loadVar
attribute [local go_sem] lv_int lv_bool lv_u8 lv_string lv_strings lv_stas lv_pars lv_vars
theorem Pl.vast_few {f:Pl.Fld}(h:Pl.vast f=false):f.st.length<=20∧f.li.length<=20∧f.pa.length<=60∧f.va.length<=60∧(∀s∈f.st,s.1.size<=100)∧(∀s∈f.li,s.size<=100)∧ ∀p∈f.pa,p.name.size<=100:=by
 unfold Pl.vast at h
 simp only[Bool.or_eq_false_iff,List.any_eq_false,decide_eq_true_eq,decide_eq_false_iff_not]at h
 obtain⟨⟨⟨⟨a,b⟩,c⟩,d⟩,⟨e,g⟩,k⟩:=h
 exact⟨by omega,by omega,by omega,by omega,fun s hs=>by have:=e s hs;omega,fun s hs=>by have:=g s hs;omega,fun s hs=>by have:=k s hs;omega⟩
theorem Pl.vast_small {f:Pl.Fld}(h:Pl.vast f=false):Small f:=by
 obtain⟨a,b,c,d,e,g,k⟩:=Pl.vast_few h
 exact⟨by omega,by omega,by omega,by omega,fun s hs=>by have:=e s hs;omega,fun s hs=>by have:=g s hs;omega,fun s hs=>by have:=k s hs;omega⟩
theorem vast_a (w:World)(hf:FldS w w.heap.size A1 A2 A3 A4 f)(b:Bool)(hb:Hid (Pl.vast f=b)):
  Calls Tryz.prog 23 #[.agg (fq A1 A2 A3 A4 c1 c2 c3 c4 f)] w fun e w'=>e=.returned (.bool b)∧Below w.heap.size w w':=by
 rw[<-hb.out]
 by_cases h:f.st.length<=20∧f.li.length<=20∧f.pa.length<=60∧f.va.length<=60
 ·exact vast_few A1 A2 A3 A4 c1 c2 c3 c4 f w hf h.1 h.2.1 h.2.2.1 h.2.2.2
 ·exact vast_many A1 A2 A3 A4 c1 c2 c3 c4 f w (by omega)
end Go.Proofs.YtgbpekeoegfjpaaGreatDoor
namespace Go.Proofs.YtgbpekeoegfjpaaGreatDoor
open Go.RowKit
variable (A1 A2 A3 A4 : Option Addr) (c1 c2 c3 c4 : Nat) (f : Pl.Fld)
attribute [-go_sem] run_equalIn_agg storeVar loadVar
attribute [local go_sem] lv_int lv_bool lv_u8 lv_string lv_strings lv_stas lv_pars lv_vars
theorem Bounds_h (c:Pl.Cal)(r:Int)(l:List Pl.Bd)(E:Int)(w:World)(h1:Hid (Pl.boundsV f c r=l))(h2:Hid (Pl.boundsE f c r=E))(hf:FldS w w.heap.size A1 A2 A3 A4 f)(hm:Small f)(hc:Caps c1 c2 c3 c4 f)(hk:c.kind<=255):
  Calls Tryz.prog 27 #[.agg (fq A1 A2 A3 A4 c1 c2 c3 c4 f),.agg (kq c),.int .i64 r] w (EndBd l E w):=by
 have:=Bounds_a A1 A2 A3 A4 c1 c2 c3 c4 f c r w hf hm hc hk
 rw[h1.out,h2.out]at this
 exact this
end Go.Proofs.YtgbpekeoegfjpaaGreatDoor
namespace Go.Proofs.YtgbpekeoegfjpaaGreatDoor
open Go.RowKit
variable (A1 A2 A3 A4 : Option Addr) (c1 c2 c3 c4 : Nat) (f : Pl.Fld)
end Go.Proofs.YtgbpekeoegfjpaaGreatDoor
namespace Go.Proofs.YtgbpekeoegfjpaaGreatDoor
variable (A1 A2 A3 A4 : Option Addr) (c1 c2 c3 c4 : Nat) (f : Pl.Fld)
namespace Pl
variable (A1 A2 A3 A4 : Option Addr) (c1 c2 c3 c4 : Nat) (f : Pl.Fld)
theorem ptC_lt {f:Fld}{l s:Int}(hl:inN l f.li.length)(hs:inN s f.st.length):ptC f l s<1+f.li.length*f.st.length:=by
 unfold inN at hl hs
 exact point_lt (by omega) (by omega)
theorem spans_pts {f:Fld}{c:Cal}(ht:c.tab f.st.length f.li.length): ∀x∈spans f c,x.fr<1+f.li.length*f.st.length∧x.till<1+f.li.length*f.st.length:=by
 obtain⟨hl,hs,h⟩:=ht
 have hl':=hl
 have hs':=hs
 unfold inN at hl' hs'
 have k0:=ptC_lt hl hs
 intro x hx
 unfold spans at hx
 split at hx<;>rename_i hk
 ·simp at hx;subst hx;exact⟨Nat.lt_of_lt_of_le Nat.zero_lt_one (Nat.le_add_right _ _),k0⟩
 ·simp at hx;subst hx
  have k1:ptC f c.oth c.fr<1+f.li.length*f.st.length:=ptC_lt (by unfold inN;rcases h with h|h|h|h|h<;>omega) hs
  exact⟨k0,k1⟩
 ·simp at hx;subst hx
  have k1:ptC f c.lim c.till<1+f.li.length*f.st.length:=ptC_lt hl (by rcases h with h|h|h|h|h<;>first|exact h.2.2.2.2.1|omega)
  exact⟨k0,k1⟩
 ·obtain⟨k,hk',rfl⟩:=List.mem_map.1 hx
  rw[List.mem_range]at hk'
  exact⟨ptC_lt hl (by unfold inN;rcases h with h|h|h|h|h<;>omega),ptC_lt (by unfold inN;rcases h with h|h|h|h|h<;>omega) (by unfold inN;rcases h with h|h|h|h|h<;>omega)⟩
 ·simp at hx;subst hx
  have k1:ptC f c.lim c.till<1+f.li.length*f.st.length:=ptC_lt hl (by rcases h with h|h|h|h|h<;>first|exact h.2.2.2.1|omega)
  exact⟨k0,k1⟩
 ·cases hx
theorem flat_spB (r:Int)(l:List Sp):(l.flatMap (spB r)).length=2*l.length:=by
 induction l with
 |nil=>rfl
 |cons a l ih=>rw[List.flatMap_cons,List.length_append,ih];simp[spB];omega
theorem boundsC_len (f:Fld)(c:Cal)(r:Int):(boundsC f c r).length=2*(spans f c).length:=flat_spB r _
end Pl
end Go.Proofs.YtgbpekeoegfjpaaGreatDoor
namespace Go.Proofs.YtgbpekeoegfjpaaGreatDoor
variable (A1 A2 A3 A4 : Option Addr) (c1 c2 c3 c4 : Nat) (f : Pl.Fld)
namespace Pl
variable (A1 A2 A3 A4 : Option Addr) (c1 c2 c3 c4 : Nat) (f : Pl.Fld)
section
variable {α : Type} [Inhabited α] [DecidableEq α]
theorem cu_mem (d:Array α)(x:α): ∀m,x∈Lib.compactUpTo d m↔ ∃j,j<m∧d[j]! =x
 |0=>by simp[Lib.compactUpTo]
 | m+1=>by
  rw[Lib.compactUpTo_succ,List.mem_append,cu_mem d x m]
  by_cases hk:Lib.keeps d m=true
  ·rw[if_pos hk,List.mem_singleton]
   constructor
   ·rintro(⟨j,hj,e⟩|e)
    ·exact⟨j,by omega,e⟩
    ·exact⟨m,by omega,e.symm⟩
   ·rintro⟨j,hj,e⟩
    by_cases h:j=m
    ·subst h;exact .inr e.symm
    ·exact .inl ⟨j,by omega,e⟩
  ·rw[if_neg hk]
   have hk':m≠0∧d[m]! =d[m-1]!:=by
    unfold Lib.keeps at hk
    simpa using hk
   constructor
   ·rintro(⟨j,hj,e⟩|e)
    ·exact⟨j,by omega,e⟩
    ·cases e
   ·rintro⟨j,hj,e⟩
    by_cases h:j=m
    ·subst h;exact .inl ⟨j-1,by omega,by rw[<-hk'.2];exact e⟩
    ·exact .inl ⟨j,by omega,e⟩
theorem compact_mem (zs:List α)(x:α):x∈Lib.compact zs↔x∈zs:=by
 unfold Lib.compact
 rw[cu_mem]
 constructor
 ·rintro⟨j,hj,rfl⟩
  rw[getElem!_pos zs.toArray j (by simpa using hj)]
  simp
 ·intro h
  obtain⟨j,hj,rfl⟩:=List.getElem_of_mem h
  exact⟨j,hj,by rw[getElem!_pos zs.toArray j (by simpa using hj)];simp⟩
theorem cu_sorted (le:α->α->Prop)(htr: ∀a b c,le a b->le b c->le a c)(has: ∀a b,le a b->le b a->a=b)(d:Array α)(hs: ∀i j,i<=j->j<d.size->le d[i]! d[j]!): ∀m,m<=d.size->(Lib.compactUpTo d m).Pairwise fun x y=>le x y∧x≠y
 |0,_=>by simp[Lib.compactUpTo]
 | m+1,hm=>by
  rw[Lib.compactUpTo_succ]
  by_cases hk:Lib.keeps d m=true
  ·rw[if_pos hk,List.pairwise_append]
   refine⟨cu_sorted le htr has d hs m (by omega),by simp,fun x hx y hy=> ?_⟩
   rw[List.mem_singleton]at hy
   subst hy
   obtain⟨j,hj,rfl⟩:=(cu_mem d x m).1 hx
   refine⟨hs j m (by omega) (by omega),fun e=> ?_⟩
   have hk':d[m]!≠d[m-1]!:=by
    unfold Lib.keeps at hk
    simp only[decide_eq_true_eq]at hk
    rcases hk with h|h
    ·omega
    ·exact h
   have h1:=hs j (m-1) (by omega) (by omega)
   have h2:=hs (m-1) m (by omega) (by omega)
   rw[e]at h1
   exact hk' (has _ _ h1 h2)
  ·rw[if_neg hk,List.append_nil]
   exact cu_sorted le htr has d hs m (by omega)
theorem compact_sorted (le:α->α->Prop)(hrf: ∀a,le a a)(htr: ∀a b c,le a b->le b c->le a c)(has: ∀a b,le a b->le b a->a=b)(zs:List α)(hs:zs.Pairwise le):(Lib.compact zs).Pairwise fun x y=>le x y∧x≠y:=by
 unfold Lib.compact
 refine cu_sorted le htr has _ (fun i j hij hj=> ?_) _ (by simp)
 have hj':j<zs.length:=by simpa using hj
 rw[getElem!_pos zs.toArray i (by simp;omega),getElem!_pos zs.toArray j hj]
 simp only[List.getElem_toArray]
 by_cases e:i=j
 ·subst e;exact hrf _
 ·exact List.pairwise_iff_getElem.1 hs i j (by omega) hj' (by omega)
end
theorem strict_eq {α:Type}{R:α->α->Prop}(hir: ∀a,¬R a a)(has: ∀a b,R a b-> ¬R b a): ∀ {l m:List α},l.Pairwise R->m.Pairwise R->(∀x,x∈l↔x∈m)->l=m
 | [],[],_,_,_=>rfl
 | [],b::m,_,_,h=>by have:=(h b).2 List.mem_cons_self;cases this
 |a::l,[],_,_,h=>by have:=(h a).1 List.mem_cons_self;cases this
 | a::l,b::m,hl,hm,h=>by
  rw[List.pairwise_cons]at hl hm
  have e:a=b:=by
   rcases List.mem_cons.1 ((h a).1 List.mem_cons_self)with e|e
   ·exact e
   ·rcases List.mem_cons.1 ((h b).2 List.mem_cons_self)with e'|e'
    ·exact e'.symm
    ·exact absurd (hm.1 a e) (has _ _ (hl.1 b e'))
  subst e
  congr 1
  refine strict_eq hir has hl.2 hm.2 fun x=>⟨fun hx=> ?_,fun hx=> ?_⟩
  ·rcases List.mem_cons.1 ((h x).1 (List.mem_cons_of_mem _ hx))with e|e
   ·subst e;exact absurd (hl.1 x hx) (hir x)
   ·exact e
  ·rcases List.mem_cons.1 ((h x).2 (List.mem_cons_of_mem _ hx))with e|e
   ·subst e;exact absurd (hm.1 x hx) (hir x)
   ·exact e
theorem int_sorted (l:List Int):(l.mergeSort fun x y=>decide (x<=y)).Pairwise (·<= ·):=by
 have:=List.pairwise_mergeSort (le:=fun x y:Int=>decide (x<=y)) (by intro a b c;simp;omega) (by intro a b;simp;omega) l
 exact this.imp (by intro a b h;simpa using h)
def spPts (l:List Sp):List Int:=l.flatMap fun x=>[(x.fr:Int),(x.till:Int)]
def concP (l:List Int):List Int:=Lib.compact ((l.filter fun p=> !(p==0)).mergeSort fun x y=>decide (x<=y))
def touches (l:List Bd)(p:Int):Bool:=l.any fun b=>decide ((b.fr:Int)=p)||decide ((b.till:Int)=p)
def concR (n:Nat)(l:List Bd):List Int:=((List.range n).map fun k:Nat=>(k:Int)+1).filter (touches l)
theorem conc_eq {f:Fld}{c:Cal}(ht:c.tab f.st.length f.li.length)(r:Int):concP (spPts (spans f c))=concR (f.li.length*f.st.length) (boundsC f c r):=by
 have h1:(concP (spPts (spans f c))).Pairwise fun x y=>x<=y∧x≠y:=compact_sorted (·<= ·) (fun a=>Int.le_refl a) (fun a b c=>Int.le_trans) (fun a b=>Int.le_antisymm) _ (int_sorted _)
 have h2:(concR (f.li.length*f.st.length) (boundsC f c r)).Pairwise fun x y=>x<=y∧x≠y:=by
  unfold concR
  refine List.Pairwise.filter _ ?_
  rw[List.pairwise_map]
  exact List.pairwise_lt_range.imp (by intro a b h;omega)
 refine strict_eq (R:=fun x y:Int=>x<=y∧x≠y) (fun a h=>h.2 rfl) (fun a b h k=>h.2 (Int.le_antisymm h.1 k.1)) h1 h2 fun p=> ?_
 unfold concP concR
 rw[compact_mem,List.mem_mergeSort,List.mem_filter,List.mem_filter,List.mem_map]
 unfold touches
 rw[List.any_eq_true]
 constructor
 ·rintro⟨hp,h0⟩
  obtain⟨x,hx,hp⟩:=List.mem_flatMap.1 hp
  obtain⟨k1,k2⟩:=spans_pts ht x hx
  have h0':p≠0:=by simpa using h0
  have hb:(⟨x.fr,x.till,x.hi,r⟩:Bd)∈boundsC f c r:=List.mem_flatMap.2 ⟨x,hx,by simp[spB]⟩
  simp only[List.mem_cons,List.not_mem_nil,or_false]at hp
  rcases hp with rfl|rfl
  ·exact⟨⟨x.fr-1,List.mem_range.2 (by omega),by omega⟩,_,hb,by simp⟩
  ·exact⟨⟨x.till-1,List.mem_range.2 (by omega),by omega⟩,_,hb,by simp⟩
 ·rintro⟨⟨k,hk,rfl⟩,b,hb,hp⟩
  refine⟨?_,by simp;omega⟩
  unfold boundsC at hb
  obtain⟨x,hx,hb⟩:=List.mem_flatMap.1 hb
  refine List.mem_flatMap.2 ⟨x,hx,?_⟩
  simp only[spB,List.mem_cons,List.not_mem_nil,or_false]at hb
  simp only[Bool.or_eq_true,decide_eq_true_eq]at hp
  simp only[List.mem_cons,List.not_mem_nil,or_false]
  rcases hb with rfl|rfl<;>simp only at hp<;>omega
theorem concR_len (n:Nat)(l:List Bd):(concR n l).length<=n:=by
 unfold concR
 exact Nat.le_trans (List.length_filter_le _ _) (by simp)
theorem concR_succ (n:Nat)(l:List Bd):concR (n+1) l=concR n l++(if touches l ((n:Int)+1)=true then [(n:Int)+1]else []):=by
 unfold concR
 rw[List.range_succ,List.map_append,List.filter_append]
 congr 1
 cases h:touches l ((n:Int)+1)<;>simp[h]
end Pl
end Go.Proofs.YtgbpekeoegfjpaaGreatDoor
namespace Go.Proofs.YtgbpekeoegfjpaaGreatDoor
variable (A1 A2 A3 A4 : Option Addr) (c1 c2 c3 c4 : Nat) (f : Pl.Fld)
namespace Pl
variable (A1 A2 A3 A4 : Option Addr) (c1 c2 c3 c4 : Nat) (f : Pl.Fld)
instance : Inhabited Bd := ⟨⟨0, 0, 0, 0⟩⟩
/-! ### The way back -/
theorem callE_three {f:Fld}{c:Cal}(h:callE f c=0)(hk:c.kind=3):c.crs.ok=true∧comE f.va [c.crs] (runC f.st c)=0∧(com f.va [c.crs] (runC f.st c)).2.2=true:=by
 unfold callE at h
 split at h
 ·cases h
 rename_i ht
 rw[if_neg (by simpa using hk)]at h
 split at h
 ·cases h
 rename_i h1
 split at h
 ·exact absurd h ‹_›
 rename_i h2
 split at h
 ·rename_i h3
  exact⟨by simpa using h1,by simpa using h2,h3⟩
 ·cases h
theorem callE_tab {f:Fld}{c:Cal}(h:callE f c=0):c.tab f.st.length f.li.length:=by
 unfold callE at h
 split at h
 ·cases h
 ·rename_i h1;exact Classical.not_not.1 h1
end Pl
end Go.Proofs.YtgbpekeoegfjpaaGreatDoor
namespace Go.Proofs.YtgbpekeoegfjpaaGreatDoor
variable (A1 A2 A3 A4 : Option Addr) (c1 c2 c3 c4 : Nat) (f : Pl.Fld)
namespace Pl
variable (A1 A2 A3 A4 : Option Addr) (c1 c2 c3 c4 : Nat) (f : Pl.Fld)
def cornB (S L:Nat)(l s:Int):Bool:=inB l 0 ((L:Int)-1)&&inB s 0 ((S:Int)-1)
def othB (L:Nat)(c:Cal):Bool:=decide (c.lim<c.oth)&&decide (c.oth<(L:Int))
def tabR (S L:Nat)(c:Cal):Bool:=
 cornB S L c.lim c.fr&&(inB c.er 0 100000&&
 (if c.kind=1 then c.crs.isZ&&(c.oth==0&&(c.till==0&&inB c.size 0 100000))
 else if c.kind=2 then c.crs.isZ&&(othB L c&&(c.till==0&&inB c.size 0 100000))
 else if c.kind=3 then c.oth==0&&(c.size==0&&(c.er==0&&(inB c.till 0 ((S:Int)-1)&&c.till !=c.fr)))
 else if c.kind=4 then c.crs.isZ&&(othB L c&&(c.size==0&&(c.er==0&&(decide (c.fr<c.till)&&decide (c.till<(S:Int))))))
 else if c.kind=5 then c.crs.isZ&&(c.oth==0&&(inB c.till 0 ((S:Int)-1)&&(c.till !=c.fr&&inB c.size (-100000) 100000)))
 else false))
theorem tabR_iff {S L:Nat}{c:Cal}:tabR S L c=true↔c.tab S L:=by
 unfold tabR Cal.tab cornB othB inB inN
 by_cases h1:c.kind=1
 ·simp[h1,Crs.isZ_iff]
  grind
 rw[if_neg h1]
 by_cases h2:c.kind=2
 ·simp[h2,Crs.isZ_iff]
  grind
 rw[if_neg h2]
 by_cases h3:c.kind=3
 ·simp[h3]
  grind
 rw[if_neg h3]
 by_cases h4:c.kind=4
 ·simp[h4,Crs.isZ_iff]
  grind
 rw[if_neg h4]
 by_cases h5:c.kind=5
 ·simp[h5,Crs.isZ_iff]
  grind
 ·rw[if_neg h5]
  simp[h1,h2,h3,h4,h5]
def checkR (f:Fld)(c:Cal):Int:=
 if tabR f.st.length f.li.length c=false then 1
 else if c.kind≠3 then 0
 else if c.crs.ok=false then 1
 else if comE f.va [c.crs] (runC f.st c)≠0 then comE f.va [c.crs] (runC f.st c)
 else if (com f.va [c.crs] (runC f.st c)).2.2=true then 0 else 5
theorem checkR_eq (f:Fld)(c:Cal):checkR f c=callE f c:=by
 unfold checkR callE
 by_cases ht:c.tab f.st.length f.li.length
 ·have:tabR f.st.length f.li.length c=true:=tabR_iff.2 ht
  simp[this,ht]
 ·have:tabR f.st.length f.li.length c=false:=by
   cases h:tabR f.st.length f.li.length c with
   |false=>rfl
   |true=>exact absurd (tabR_iff.1 h) ht
  simp[this,ht]
end Pl
end Go.Proofs.YtgbpekeoegfjpaaGreatDoor
namespace Go.Proofs.YtgbpekeoegfjpaaGreatDoor
open Go.RowKit
variable (A1 A2 A3 A4 : Option Addr) (c1 c2 c3 c4 : Nat) (f : Pl.Fld)
theorem eq_crsZ (c:Pl.Cal)(W:World):(Op.equalIn 10000 46 (.agg (cq c.crs)) (.agg z6)).run Tryz.prog W=.ok c.crs.isZ W:=by
 unfold Pl.Crs.isZ
 simp[go_sem]
 repeat' split
 all_goals simp_all
theorem ld_crsC {w:World}{g:Nat}{a0 a1 a2 a3 a4 a5 a6 b n l y x s:Value}(hg:w.heap[g]?=some (.cells #[a0,a1,a2,a3,a4,a5,a6,b,n,l,y,x,s] 48 (0,0))):
  (loadVar 46 ⟨g,7,none⟩).run Tryz.prog w=.ok (.agg #[b,n,l,y,x,s]) w:=
 run_loadVar_mid w g 7 _ _ _ (mid_of (n:=6) hg rfl) Tryz.underlying46 rfl (by kernel_rfl)
end Go.Proofs.YtgbpekeoegfjpaaGreatDoor
