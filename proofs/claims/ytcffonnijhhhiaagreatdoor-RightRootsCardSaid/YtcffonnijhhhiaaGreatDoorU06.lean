/- Part U06 of the proof: Dv Dn. -/
import Derived.Test.YtcffonnijhhhiaaGreatDoorProg
import Derived.WalkKit
import Derived.WalkLawsBesides
import Derived.WalkSpells
import Derived.Handy
import Derived.Lib.Hide
import Derived.Great.BuildSlice
import Derived.Deep.QuietTactic
import Derived.BigQuiet
import Derived.Deep.RegionHeld3
import Derived.Deep.DeepCutAuto
import Derived.Test.YtcffonnijhhhiaaGreatDoorU05
set_option linter.all false
set_option linter.unusedSimpArgs false
set_option linter.unusedVariables false
set_option linter.unusedSectionVars false
namespace Go.Proofs.YtcffonnijhhhiaaGreatDoor
open Go Go.RowKit Mp
attribute [-simp] Prod.forall Prod.exists
def FS.puts (F:FS)(L:List (Int×Int))(p:Int→Option Int):FS:=L.foldl (fun F q=>F.put q.1 q.2 p) F
theorem FS.puts_snoc (F:FS)(L:List (Int×Int))(q:Int×Int)(p:Int→Option Int):F.puts (L++[q]) p=(F.puts L p).put q.1 q.2 p:=by
 unfold FS.puts
 rw[List.foldl_append]
 rfl
theorem zip_take {l m:List Int}{k:Nat}(h1:k<l.length)(h2:k<m.length):(l.zip m).take (k+1)=(l.zip m).take k++[(l[k],m[k])]:=by
 rw[List.take_succ_eq_append_getElem (by simp;omega)]
 simp
theorem EndU.ok {E:Int}{w w':World}{e:Ending}(h:EndU false E w e w'):e=.returned (.tuple #[])∧Below w.heap.size w w':=⟨h.1,h.2⟩
def stS (lot:Int)(into:List Int)(E:Int×Int→Option (Int×Int))(e:(Int×Int)×(Int×Int)):Int×Int→Option (Int×Int):=
 if e.1.1=lot then into.foldl (fun E n k=>if k=(n,e.1.2)then some e.2 else E k) E else E
def stE1 (lot:Int)(e:(Int×Int)×Int)(E:Int×Int→Option Int)(n:Int):Int×Int→Option Int:=
 let E1:=if e.1.1=lot then fun k=>if k=(n,e.1.2)then some e.2 else E k else E
 if e.1.2=lot then fun k=>if k=(e.1.1,n)then some e.2 else E1 k else E1
theorem stE1_over {lot:Int}{k:Int×Int}{d:Int}(h1:k.1=lot)(h2:k.2≠lot)(E:Int×Int→Option Int)(m:Int):stE1 lot (k,d) E m=fun q=>if q=(m,k.2)then some d else E q:=by
 unfold stE1;simp only[if_pos h1,if_neg h2]
theorem stE1_for {lot:Int}{k:Int×Int}{d:Int}(h1:k.1≠lot)(h2:k.2=lot)(E:Int×Int→Option Int)(m:Int):stE1 lot (k,d) E m=fun q=>if q=(k.1,m)then some d else E q:=by
 unfold stE1;simp only[if_neg h1,if_pos h2]
theorem stE1_no {lot:Int}{k:Int×Int}{d:Int}(h1:k.1≠lot)(h2:k.2≠lot)(E:Int×Int→Option Int)(m:Int):stE1 lot (k,d) E m=E:=by
 unfold stE1;simp only[if_neg h1,if_neg h2]
def stE (lot:Int)(into:List Int)(E:Int×Int→Option Int)(e:(Int×Int)×Int):Int×Int→Option Int:=into.foldl (stE1 lot e) E
theorem FS.puts_ne (F:FS)(L:List (Int×Int))(p:Int→Option Int){m:Int}(h: ∀q∈L,q.1≠m):(F.puts L p).lots m=F.lots m:=by
 unfold FS.puts
 induction L generalizing F with
 |nil=>rfl
 |cons q L ih=>
  rw[List.foldl_cons,ih _ fun r hr=>h r (by simp[hr])]
  unfold FS.put
  simp[(h q (by simp)).symm]
theorem FS.puts_same (F:FS)(L:List (Int×Int))(p:Int→Option Int):(F.puts L p).eases=F.eases∧(F.puts L p).stints=F.stints:=by
 unfold FS.puts
 induction L generalizing F with
 |nil=>exact⟨rfl,rfl⟩
 |cons q L ih=>rw[List.foldl_cons];exact ih _
section
variable {w : World} {B sb bu bl be bs : Nat} {ad : Int → Option (Nat × Nat)} {F : FS}
theorem SM.size (h:SM w B sb bu bl be bs ad F){n:Int}{p:Nat×Nat}{L:LotF}(hp:ad n=some p)(hL:F.lots n=some L):w.heap[p.1]?=some (oLt L.size p.2)∧FM ekI okI w p.2 (fI L.parts):=by
 obtain⟨M,h5,_,_,h8,h9⟩:=h.each n p hp
 rw[hL]at h5
 cases h5
 exact⟨h8,h9⟩
theorem SM.kept {w':World}{r:Nat}(h:SM w B sb bu bl be bs ad F)(g:w.grownBy w' (some r))(hs:sb<r)(ha: ∀n p,ad n=some p→p.1<r∧p.2<r):SM w' B sb bu bl be bs ad F:=by
 obtain⟨o1,o2,o3,o4,o5⟩:=h.ord
 have hz:=h.lt
 have keep: ∀i,i<w.heap.size→i≠r→w'.heap[i]?=w.heap[i]?:=fun i hi h5=>g.block i hi (by simpa using h5)
 refine⟨h.ord,(keep _ hz (by omega)).trans h.blk,h.used.same (keep _ h.used.lt (by omega)),h.lots.same (keep _ h.lots.lt (by omega)),h.eases.same (keep _ h.eases.lt (by omega)),h.stints.same (keep _ h.stints.lt (by omega)),fun n p hp=> ?_,h.no,h.apart⟩
 obtain⟨L,h1,h2,h3,h4,h5⟩:=h.each n p hp
 obtain⟨a1,a2⟩:=ha n p hp
 exact⟨L,h1,h2,h3,(keep _ (Array.getElem?_eq_some_iff.1 h4).1 (by omega)).trans h4,h5.same (keep _ h5.lt (by omega))⟩
theorem take_fold {α β:Type}(f:β→α→β)(b:β){l:List α}{k:Nat}(h:k<l.length):(l.take (k+1)).foldl f b=f ((l.take k).foldl f b) l[k]:=by
 rw[List.take_succ_eq_append_getElem h,List.foldl_append]
 rfl
set_option maxRecDepth 100000 in
set_option maxHeartbeats 4000000 in
theorem divide_a (h:SM w B sb bu bl be bs ad F)(x:Dl)(A1 A2:Option Addr)(c1 c2:Nat){L:LotF}(h1:okI x.lot)(hL:F.lots x.lot=some L)
  (hi: ∀n∈x.into,okI n) (hl:x.into.length≤10) (hz:x.sizes.length=x.into.length) (hzs: ∀z∈x.sizes,1≤z∧z≤10000000000) (hA1:Ints w B A1 x.into) (hA2:Ints w B A2 x.sizes)
  (hnew:(x.into.any fun n=>F.used n)=false) (hsum:Rt.sumI x.sizes=L.size) (hlot: ∀n∈x.into,n≠x.lot) (hea: ∀k d,F.eases k=some d→k.1≠k.2) (F':FS)
  (hF: ∀D D2,Visit F.stints D→Visit F.eases D2→F'=FS.gone {F.puts (x.into.zip x.sizes) L.parts with stints:=D.foldl (stS x.lot x.into) F.stints,eases:=D2.foldl (stE x.lot x.into) F.eases} x.lot):
  Calls Tryz.prog 259 #[.pointer (some ⟨sb,0,none⟩),.agg (xcs x A1 A2 c1 c2)] w (EndK w B sb bu bl be bs ad F' 0):=by
 have hz0:=h.lt
 have ho:=h.ord
 cases hp:ad x.lot with
 |none=>rw[h.no _ hp]at hL;cases hL
 |some p=>
 obtain⟨l1,l2,l3,l4,l5⟩:=h.lotlt hp
 obtain⟨z,bm⟩:=p
 simp only at l1 l2 l3 l4 l5
 have kx:=Below.heap_alloc (w.alloc (oDl x A1 A2 c1 c2)) (.cells #[.int .i64 x.lot] 3) _ (by simp)|>.trans (heap_alloc_new w (oDl x A1 A2 c1 c2))
 have ka:=heap_at (w:=w.alloc (oDl x A1 A2 c1 c2)) (o:=.cells #[.int .i64 x.lot] 3) (n:=w.heap.size+1) (by simp)
 have b1:Below w.heap.size w ((w.alloc (oDl x A1 A2 c1 c2)).alloc (.cells #[.int .i64 x.lot] 3)):=by go_grown
 have hc:=needs_1 (h.below b1) ka h1.i64
 rw[hL,Option.isNone_some]at hc
 replace hc:=hc.mono fun _ _ h=>EndU.ok h
 have HL:=Lib.hid hL
 have Hp:=Lib.hid hp
 have HN:=Lib.hid hnew
 have HS:=Lib.hid hsum
 have HZ:=Lib.hid hz
 have Hi:=Lib.hid hi
 have Hzs:=Lib.hid hzs
 have HLot:=Lib.hid hlot
 have HNE2:=Lib.hid hea
 have HF':=Lib.hid hF
 clear hL hp hnew hsum hz hi hzs hlot hea hF
 go_enter Tryz.func259,Tryz.ntmps259
 go_wp2_with fail
 refine hc.mono ?_
 rintro e w1 ⟨rfl,hx⟩
 have hx1:=hx.size
 simp only[World.size_alloc]at hx1
 have b2:Below w.heap.size w w1:=b1.trans (hx.mono b1.size)
 have kx1:w1.heap[w.heap.size]?=some (oDl x A1 A2 c1 c2):=(hx.block w.heap.size (by simp;omega)).trans kx
 have hz1:w.heap.size<w1.heap.size:=(Array.getElem?_eq_some_iff.1 kx1).1
 obtain⟨hcx,hfx⟩:=blk_cells kx1
 have hnw:=new_a (h.below b2) A1 c1 x.into (((hA1.below (b2.mono (by omega)))).more (by omega)) (by omega) (fun n hn=>(Hi.out n hn).i64)
 rw[HN.out]at hnw
 replace hnw:=hnw.mono fun _ _ h=>EndU.ok h
 clear hc
 go_wp2_with fail
 refine hnw.mono ?_
 rintro e w2 ⟨rfl,hy⟩
 have hy1:=hy.size
 have b3:Below w.heap.size w w2:=b2.trans (hy.mono b2.size)
 have kx2:w2.heap[w.heap.size]?=some (oDl x A1 A2 c1 c2):=(hy.block w.heap.size hz1).trans kx1
 obtain⟨W,hW⟩: ∃W:World,W=w2.drew:=⟨_,rfl⟩
 have b4:Below w.heap.size w W:=by rw[hW];exact below_drew b3
 have kx4:W.heap[w.heap.size]?=some (oDl x A1 A2 c1 c2):=by rw[hW];exact kx2
 have HW:=Lib.hid hW
 clear hW hcx hfx hnw
 obtain⟨hcx,hfx⟩:=blk_cells kx4
 have hz4:w.heap.size<W.heap.size:=(Array.getElem?_eq_some_iff.1 kx4).1
 have hs4:=h.below b4
 have hl4:=hs4.lLot h1.i64
 rw[Hp.out]at hl4
 obtain⟨hc4,hf4⟩:=blk_cells hs4.blk
 obtain⟨W2,hW2⟩: ∃W2:World,W2=W.drew:=⟨_,rfl⟩
 have b5:Below w.heap.size w W2:=by rw[hW2];exact below_drew b4
 have kx5:W2.heap[w.heap.size]?=some (oDl x A1 A2 c1 c2):=by rw[hW2];exact kx4
 have HW2:=Lib.hid hW2
 clear hW2
 obtain⟨hcx5,hfx5⟩:=blk_cells kx5
 have hz5:w.heap.size<W2.heap.size:=(Array.getElem?_eq_some_iff.1 kx5).1
 have hs5:=h.below b5
 obtain⟨hc5,hf5⟩:=blk_cells hs5.blk
 obtain⟨kz5,fm5⟩:=hs5.size Hp.out HL.out
 obtain⟨hcz,hfz⟩:=blk_cells kz5
 have hsm:=sum_a A2 c2 x.sizes W2 ((hA2.below (b5.mono (by omega))).more (by omega)) (by have:=HZ.out;omega) (fun z hz=>by have:=Hzs.out z hz;omega)
 rw[HS.out]at hsm
 go_wp2
 refine still_all HW.out (by kernel_rfl) (by kernel_rfl) ?_
 repeat still_step
 refine wpStill_nil ?_
 go_wp2
 refine still_tail HW2.out 8 (by kernel_rfl) (by kernel_rfl) ?_
 simp only[List.take_succ_cons,List.take_zero,List.drop_succ_cons,List.drop_zero]
 repeat still_step
 still_call (hsm.mono fun _ _ ⟨u,v⟩=>⟨u,v.symm⟩)
 repeat still_step
 refine wpStill_nil ?_
 go_wp2_with (go_at_call 290;refine(refuse_no _ _).mono ?_;rintro e w' ⟨rfl,rfl⟩)
 clear hsm hl4 hcx hfx hc4 hf4
 go_loopw [43] (fun i wr=> ∃(k:Nat) (ad':Int→Option (Nat×Nat)),k≤x.into.length∧i=.int .i64 k∧SM wr B sb bu bl be bs ad' (F.puts ((x.into.zip x.sizes).take k) L.parts)∧ad' x.lot=some (z,bm)∧wr.heap[w.heap.size]?=some (oDl x A1 A2 c1 c2)∧Hid (∀m q,ad' m=some q→(∃l,ad l=some q)∨w.heap.size≤q.1∧w.heap.size≤q.2)∧Fr B sb ad w wr)
  (fun i _=>x.into.length-(intOf i).toNat)
 case atStart=>exact⟨0,ad,by omega,rfl,hs5,Hp.out,kx5,Lib.hid (fun m q hq=> .inl ⟨m,hq⟩),Fr.of b5 (Nat.le_refl _) (by omega)⟩
 case round=>
  obtain⟨k,ad',hk,rfl,hsr,hpr,kxr,hadr,hbr⟩:=hrel
  obtain⟨hcr,hfr⟩:=blk_cells kxr
  have hlr:w.heap.size<wr.heap.size:=(Array.getElem?_eq_some_iff.1 kxr).1
  have hLr:(F.puts ((x.into.zip x.sizes).take k) L.parts).lots x.lot=some L:=(FS.puts_ne _ _ _ fun q hq=>HLot.out q.1 (List.of_mem_zip (List.mem_of_mem_take hq)).1).trans HL.out
  by_cases hlt:k<x.into.length
  ·obtain⟨W3,hW3⟩: ∃W:World,W=wr.drew:=⟨_,rfl⟩
   have b6:Fr B sb ad w W3:=by rw[hW3];exact hbr.drew
   have kx6:W3.heap[w.heap.size]?=some (oDl x A1 A2 c1 c2):=by rw[hW3];exact kxr
   have hs6:SM W3 B sb bu bl be bs ad' (F.puts ((x.into.zip x.sizes).take k) L.parts):=by rw[hW3];exact hsr.drew
   have HW3:=Lib.hid hW3
   clear hW3
   have hz6:w.heap.size<W3.heap.size:=(Array.getElem?_eq_some_iff.1 kx6).1
   obtain⟨hcx6,hfx6⟩:=blk_cells kx6
   obtain⟨kz6,fm6⟩:=hs6.size hpr hLr
   obtain⟨hcz6,hfz6⟩:=blk_cells kz6
   have hlt2:k<x.sizes.length:=by rw[HZ.out];exact hlt
   obtain⟨bi,oi,ei,hbi,q1⟩:=Ints.at1 (hA1.below hbr.bel) hlt
   obtain⟨bz,oz,ez,hbz,q2⟩:=Ints.at1 (hA2.below b6.bel) hlt2
   obtain⟨n,hn⟩: ∃n,x.into[k]=n:=⟨_,rfl⟩
   obtain⟨y,hy⟩: ∃y,x.sizes[k]=y:=⟨_,rfl⟩
   have HZT:=Lib.hid (zip_take hlt hlt2)
   rw[hn]at q1
   rw[hy]at q2
   have hpu:=put_a hs6 (z:=y) (Hi.out n (hn▸List.getElem_mem hlt)) fm6 (by have:=(h.lotlt Hp.out).2.2.1;simp only at this;omega)
   have hne:x.lot≠n:=(HLot.out n (hn▸List.getElem_mem hlt)).symm
   have HNY:=Lib.hid (show((x.into.zip x.sizes).take (k+1))=(x.into.zip x.sizes).take k++[(n,y)] by rw[HZT.out,hn,hy])
   have HNE:=Lib.hid hne
   have hwx:(k:Int)<(x.sizes.length:Int):=by omega
   subst ei ez
   clear hn hy hLr hne
   go_wp2
   refine still_tail HW3.out 11 (by kernel_rfl) (by kernel_rfl) ?_
   simp only[List.take_succ_cons,List.take_zero,List.drop_succ_cons,List.drop_zero]
   repeat still_step
   refine wpStill_nil ?_
   go_wp2_with fail
   refine hpu.mono ?_
   rintro e w7 ⟨rfl,ad2,hs7,b7,hne2,hkp,hnb⟩
   have HAN:=Lib.hid (show ∀m q,ad2 m=some q→(∃l,ad l=some q)∨w.heap.size≤q.1∧w.heap.size≤q.2 from fun m q hq=>by
    by_cases e:m=n
    ·subst e
     have:=hnb q hq
     exact .inr ⟨by omega,by omega⟩
    ·rw[hne2 m e]at hq
     exact hadr.out m q hq)
   have kx7:w7.heap[w.heap.size]?=some (oDl x (some ⟨bi,oi,none⟩) (some ⟨bz,oz,none⟩) c1 c2):=(hkp _ hz6 (by omega)).trans kx6
   go_wp2
   go_roundw
   case rel=>exact⟨k+1,ad2,by omega,by go_num,by rw[HNY.out,FS.puts_snoc];exact hs7,(hne2 _ HNE.out).trans hpr,kx7,HAN,b6.put b7 hkp⟩
   case measure=>first|(simp[intOf];done)|(simp[intOf];omega)
  ·obtain rfl:k=x.into.length:=by omega
   have hsP:SM wr B sb bu bl be bs ad' (F.puts (x.into.zip x.sizes) L.parts):=by
    rw[List.take_of_length_le (by simp;omega)]at hsr
    exact hsr
   obtain⟨FP,hFP⟩: ∃FP,F.puts (x.into.zip x.sizes) L.parts=FP:=⟨_,rfl⟩
   rw[hFP]at hsP
   have HFP:=Lib.hid hFP
   clear hFP hsr hLr
   obtain⟨w5,rfl⟩: ∃w5:World,w5=wr:=⟨_,rfl⟩
   have hsz5:=hsP.lt
   have hw5:w.heap.size<w5.heap.size:=hlr
   obtain⟨hcs,hfs⟩:=blk_cells hsP.blk
   have hclone:=clone_g hsP.stints
   clear hcr hfr
   go_wp2_with fail
   refine hclone.mono ?_
   clear hclone
   rintro e w6 ⟨rfl,fm6,b6,z6⟩
   go_wp2_with (first
    |(at_range;refine wpList_range_fm _ rfl _ _ rfl kP Tryz.underlying130 rfl fm6 ?_;intro w7 n7 hrg7 hg7 hs7)
    |go_in)
   go_frame
   have hst:FP.stints=F.stints:=by rw[←HFP.out];exact(FS.puts_same F _ _).2
   have hfea:FP.eases=F.eases:=by rw[←HFP.out];exact(FS.puts_same F _ _).1
   have b56:Below w5.heap.size w5 w7:=(b6.trans ⟨hg7.os,hg7.tape,hg7.output,hg7.size,fun i hi=>hg7.block i (by omega) (by simp)⟩)
   have hsP7:=hsP.below b56
   have kx7:=(b56.block _ hw5).trans kxr
   have b7:Fr B sb ad w w7:=hbr.next b56 (by omega) (by omega)
   have hclr:w5.heap.size<w6.heap.size:=by omega
   have HAD:=Lib.hid (show ∀n p,ad' n=some p→p.1<w6.heap.size∧p.2<w6.heap.size from fun n p hq=>by have:=hsP.lotlt hq;omega)
   have HST:=Lib.hid hst
   have HEA:=Lib.hid hfea
   clear hst hfea hcs hfs fm6 hsP z6 hs7
   go_loopw [67] (fun _ wr=> ∃(D:List ((Int×Int)×(Int×Int))) (left:Int×Int→Bool) (n:Nat),Seen FP.stints D left∧RG ekP okP wr w5.heap.size w6.heap.size (fG FP.stints) left n∧SM wr B sb bu bl be bs ad' {FP with stints:=D.foldl (stS x.lot x.into) FP.stints}∧wr.heap[w.heap.size]?=some (oDl x A1 A2 c1 c2)∧Fr B sb ad w wr)
    (fun _ wr=>wr.rangeLeft w5.heap.size w6.heap.size)
   case atStart=>exact⟨[],_,n7,Seen.start _,by simpa [fG]using hrg7,hsP7,kx7,b7⟩
   case round=>
    obtain⟨D,left,n,hsn,hrg,hs9,kx9,b9⟩:=hrel
    have HSN:=Lib.hid hsn
    clear hsn
    have hl9:w.heap.size<wr.heap.size:=(Array.getElem?_eq_some_iff.1 kx9).1
    have hcl9:=hrg.fm.lt
    have hrl9:=hrg.lt
    go_wp2_with (first
     |(at_next;refine wpList_next_rg _ rfl _ rfl kP evG FP.stints (fun _=>rfl) _ _ rfl hrg ?_ ?_)
     |go_in)
    ·intro hl0
     have HVI:=Lib.hid (HSN.out.done hl0)
     clear hl0 hcl9 hrl9 hrg
     obtain⟨S,hS⟩: ∃S,D.foldl (stS x.lot x.into) FP.stints=S:=⟨_,rfl⟩
     rw[hS]at hs9
     have HS2:=Lib.hid hS
     clear hS
     obtain⟨v5,rfl⟩: ∃v5:World,v5=wr:=⟨_,rfl⟩
     obtain⟨hcs,hfs⟩:=blk_cells hs9.blk
     have hclone:=clone_p hs9.eases
     have HAD2:=Lib.hid (show ∀n p,ad' n=some p→p.1<v5.heap.size∧p.2<v5.heap.size from fun n p hq=>by have:=hs9.lotlt hq;omega)
     go_wp2_with fail
     refine hclone.mono ?_
     clear hclone
     rintro e v6 ⟨rfl,fm6,b6',z6'⟩
     go_wp2_with (first
      |(at_range;refine wpList_range_fm _ rfl _ _ rfl kP Tryz.underlying129 rfl fm6 ?_;intro v7 n7' hrg7' hg7' hs7')
      |go_in)
     go_frame
     have b56':Below v5.heap.size v5 v7:=(b6'.trans ⟨hg7'.os,hg7'.tape,hg7'.output,hg7'.size,fun i hi=>hg7'.block i (by omega) (by simp)⟩)
     have hs10:=hs9.below b56'
     have kx10:=(b56'.block _ hl9).trans kx9
     have b10:Fr B sb ad w v7:=b9.next b56' (by omega) (by omega)
     have hclr':v5.heap.size<v6.heap.size:=by omega
     have hlv5:w.heap.size<v5.heap.size:=hl9
     clear hcs hfs fm6 z6' hs7' hs9 kx9 b9 hl9
     go_loopw [100] (fun _ wr=> ∃(D2:List ((Int×Int)×Int)) (left:Int×Int→Bool) (n:Nat),Seen FP.eases D2 left∧RG ekP okP wr v5.heap.size v6.heap.size (fI FP.eases) left n∧SM wr B sb bu bl be bs ad' {FP with stints:=S,eases:=D2.foldl (stE x.lot x.into) FP.eases}∧wr.heap[w.heap.size]?=some (oDl x A1 A2 c1 c2)∧Fr B sb ad w wr)
      (fun _ wr=>wr.rangeLeft v5.heap.size v6.heap.size)
     case atStart=>exact⟨[],_,n7',Seen.start _,by simpa [fI]using hrg7',hs10,kx10,b10⟩
     case round=>
      obtain⟨D2,left2,n2,hsn2,hrg2,hs11,kx11,b11⟩:=hrel
      have HSM:=Lib.hid hsn2
      clear hsn2
      have hl11:w.heap.size<wr.heap.size:=(Array.getElem?_eq_some_iff.1 kx11).1
      have hcl11:=hrg2.fm.lt
      have hrl11:=hrg2.lt
      go_wp2_with (first
       |(at_next;refine wpList_next_rg _ rfl _ rfl kP evI FP.eases (fun _=>rfl) _ _ rfl hrg2 ?_ ?_)
       |go_in)
      ·intro hl0
       have HV2:=Lib.hid (HSM.out.done hl0)
       clear hl0
       have hgo:=gone_a hs11 h1.i64 hpr
       obtain⟨hcx11,hfx11⟩:=blk_cells kx11
       go_wp2_with fail
       refine hgo.mono ?_
       rintro e w12 ⟨rfl,hs12,b12⟩
       go_wp2
       go_end0
       have e:FS.gone {FP with stints:=S,eases:=D2.foldl (stE x.lot x.into) FP.eases} x.lot=F':=by
        rw[HST.out]at HVI HS2
        rw[HEA.out]at HV2 ⊢
        rw[HF'.out D D2 HVI.out HV2.out,HFP.out,HS2.out]
       rw[e]at hs12
       exact EndK.ok rfl hs12 (b11.comp b12 hadr.out) (New.less hadr.out _)
      ·intro k d w8 n8 hk hlx hv hrg8 hlt8 hg8 hs8 hen
       have hkne:k.1≠k.2:=HNE2.out k d (by rw[←HEA.out];exact hv)
       have HSN2:=Lib.hid (HSM.out.step hv hlx)
       have kx8:=(hg8.block _ hl11 (by simp;omega)).trans kx11
       have b8:Fr B sb ad w w8:=b11.grow hg8 ⟨by omega,by omega⟩ (.inr (.inl (by omega)))
       have hs8':=hs11.kept hg8 (by omega) (fun n p hq=>by have:=HAD2.out n p hq;omega)
       obtain⟨W9,hW9⟩: ∃W:World,W=(w8.alloc (.cells #[.int .i64 k.1,.int .i64 k.2] 163)):=⟨_,rfl⟩
       have bA:Below w8.heap.size w8 W9:=by rw[hW9];exact(Below.refl _ _).alloc (Nat.le_refl _) _
       have kk:W9.heap[wr.heap.size]?=some (.cells #[.int .i64 k.1,.int .i64 k.2] 163 (0,0)):=by rw[hW9];exact heap_at hs8
       have kxA:=(bA.block _ (by omega)).trans kx8
       have hsA:=hs8'.below bA
       have hrgA:=hrg8.same (w':=W9) (bA.block _ hrg8.fm.lt) (bA.block _ hrg8.lt)
       have bB:Fr B sb ad w W9:=b8.next bA (by omega) (by omega)
       have HW9:=Lib.hid hW9.symm
       have hl9':wr.heap.size<W9.heap.size:=(Array.getElem?_eq_some_iff.1 kk).1
       have hl8:w.heap.size<w8.heap.size:=by omega
       have HRG:=Lib.hid hrg2
       obtain⟨hcx8,hfx8⟩:=blk_cells kx8
       clear hv hlx hW9 hs11 hs8' kx11 kx8 hrg2 hrg8
       go_wp2
       rw[HW9.out]
       obtain⟨wo,rfl⟩: ∃wo:World,wo=wr:=⟨_,rfl⟩
       go_loopw [108] (fun i wr=> ∃(j:Nat),j≤x.into.length∧i=.int .i64 j∧SM wr B sb bu bl be bs ad' {FP with stints:=S,eases:=(x.into.take j).foldl (stE1 x.lot (k,d)) (D2.foldl (stE x.lot x.into) FP.eases)}∧
         RG ekP okP wr v5.heap.size v6.heap.size (fI FP.eases) (fun q=>left2 q&& !decide (q=k)) n8∧wr.heap[w.heap.size]?=some (oDl x A1 A2 c1 c2)∧
         wr.heap[wo.heap.size]?=some (.cells #[.int .i64 k.1,.int .i64 k.2] 163 (0,0))∧Fr B sb ad w wr)
        (fun i _=>x.into.length-(intOf i).toNat)
       case atStart=>exact⟨0,by omega,rfl,hsA,hrgA,kxA,kk,bB⟩
       case round=>
        obtain⟨j,hj,rfl,hs1,hrg1,kx1,kk1,b1'⟩:=hrel
        obtain⟨hcx1,hfx1⟩:=blk_cells kx1
        obtain⟨hck1,hfk1⟩:=blk_cells kk1
        have zx1:=(Array.getElem?_eq_some_iff.1 kx1).1
        have zk1:=(Array.getElem?_eq_some_iff.1 kk1).1
        by_cases hlt1:j<x.into.length
        ·obtain⟨bi,oi,ei,hbi,q1⟩:=Ints.at1 (hA1.below b1'.bel) hlt1
         obtain⟨m,hm⟩: ∃m,x.into[j]=m:=⟨_,rfl⟩
         have HI:=Lib.hid (Hi.out _ (List.getElem_mem hlt1))
         rw[hm]at q1
         have HM:=Lib.hid hm
         rw[hm]at HI
         subst ei
         clear hm
         have HTF:=Lib.hid (take_fold (stE1 x.lot (k,d)) (D2.foldl (stE x.lot x.into) FP.eases) hlt1)
         rw[HM.out]at HTF
         by_cases hk1:k.1=x.lot
         ·have hk2:k.2≠x.lot:=fun e=>hkne (hk1.trans e.symm)
          have hq1:(k.1==x.lot)=true:=by simpa using hk1
          have hq2:(k.2==x.lot)=false:=by simpa using hk2
          have HK1:=Lib.hid hk1
          have HK2:=Lib.hid hk2
          clear hk1 hk2
          obtain⟨W10,hW10⟩: ∃W:World,W=wr.drew:=⟨_,rfl⟩
          have hsD:=hs1.drew
          rw[←hW10]at hsD
          have hrgD:RG ekP okP W10 v5.heap.size v6.heap.size (fI FP.eases) (fun q=>left2 q&& !decide (q=k)) n8:=by rw[hW10];exact hrg1
          have kxD:W10.heap[w.heap.size]?=some (oDl x (some ⟨bi,oi,none⟩) A2 c1 c2):=by rw[hW10];exact kx1
          have kkD:W10.heap[wo.heap.size]?=some (.cells #[.int .i64 k.1,.int .i64 k.2] 163 (0,0)):=by rw[hW10];exact kk1
          have bD:Fr B sb ad w W10:=by rw[hW10];exact b1'.drew
          have HW10:=Lib.hid hW10
          clear hW10
          obtain⟨w11,hrun,hs11,b11,g11⟩:=hsD.way (d:=d) HI.out hk.2
          have zk:=(Array.getElem?_eq_some_iff.1 kkD).1
          have hrg11:=hrgD.kept g11 (by simp;omega) (by simp;omega)
          have kx11:=(g11.block _ (by omega) (by simp;omega)).trans kxD
          have kk11:=(g11.block _ zk (by simp;omega)).trans kkD
          obtain⟨hcD,hfD⟩:=blk_cells hsD.blk
          obtain⟨hckD,hfkD⟩:=blk_cells kkD
          obtain⟨hcx11,hfx11⟩:=blk_cells kx11
          obtain⟨hck11,hfk11⟩:=blk_cells kk11
          go_wp2
          refine still_tail HW10.out 9 (by kernel_rfl) (by kernel_rfl) ?_
          simp only[List.take_succ_cons,List.take_zero,List.drop_succ_cons,List.drop_zero]
          repeat still_step
          refine wpStill_nil ?_
          go_wp2
          go_roundw
          case rel=>exact⟨j+1,by omega,by go_num,by
           rw[HTF.out,stE1_over HK1.out HK2.out]
           exact hs11,hrg11,kx11,kk11,bD.grow g11 ⟨by omega,by omega⟩ (.inl (by omega))⟩
          case measure=>first|(simp[intOf];done)|(simp[intOf];omega)
         ·have hq1:(k.1==x.lot)=false:=by simpa using hk1
          have HK1:=Lib.hid hk1
          clear hk1
          by_cases hk2:k.2=x.lot
          ·have hq2:(k.2==x.lot)=true:=by simpa using hk2
           have HK2:=Lib.hid hk2
           clear hk2
           obtain⟨W10,hW10⟩: ∃W:World,W=wr.drew:=⟨_,rfl⟩
           have hsD:=hs1.drew
           rw[←hW10]at hsD
           have hrgD:RG ekP okP W10 v5.heap.size v6.heap.size (fI FP.eases) (fun q=>left2 q&& !decide (q=k)) n8:=by rw[hW10];exact hrg1
           have kxD:W10.heap[w.heap.size]?=some (oDl x (some ⟨bi,oi,none⟩) A2 c1 c2):=by rw[hW10];exact kx1
           have kkD:W10.heap[wo.heap.size]?=some (.cells #[.int .i64 k.1,.int .i64 k.2] 163 (0,0)):=by rw[hW10];exact kk1
           have bD:Fr B sb ad w W10:=by rw[hW10];exact b1'.drew
           have HW10:=Lib.hid hW10
           clear hW10
           obtain⟨w11,hrun,hs11,b11,g11⟩:=hsD.way (d:=d) hk.1 HI.out
           have zk:=(Array.getElem?_eq_some_iff.1 kkD).1
           have hrg11:=hrgD.kept g11 (by simp;omega) (by simp;omega)
           have kx11:=(g11.block _ (by omega) (by simp;omega)).trans kxD
           have kk11:=(g11.block _ zk (by simp;omega)).trans kkD
           obtain⟨hcD,hfD⟩:=blk_cells hsD.blk
           obtain⟨hckD,hfkD⟩:=blk_cells kkD
           obtain⟨hcx11,hfx11⟩:=blk_cells kx11
           obtain⟨hck11,hfk11⟩:=blk_cells kk11
           go_wp2
           refine still_tail HW10.out 9 (by kernel_rfl) (by kernel_rfl) ?_
           simp only[List.take_succ_cons,List.take_zero,List.drop_succ_cons,List.drop_zero]
           repeat still_step
           refine wpStill_nil ?_
           go_wp2
           go_roundw
           case rel=>exact⟨j+1,by omega,by go_num,by
            rw[HTF.out,stE1_for HK1.out HK2.out]
            exact hs11,hrg11,kx11,kk11,bD.grow g11 ⟨by omega,by omega⟩ (.inl (by omega))⟩
           case measure=>first|(simp[intOf];done)|(simp[intOf];omega)
          ·have hq2:(k.2==x.lot)=false:=by simpa using hk2
           have HK2:=Lib.hid hk2
           clear hk2
           go_wp2
           go_roundw
           case rel=>exact⟨j+1,by omega,by go_num,by
            rw[HTF.out,stE1_no HK1.out HK2.out]
            exact hs1,hrg1,kx1,kk1,b1'⟩
           case measure=>first|(simp[intOf];done)|(simp[intOf];omega)
        ·obtain rfl:j=x.into.length:=by omega
         go_wp2
         go_roundw
         case rel=>exact⟨D2++[(k,d)],_,n8,HSN2.out,hrg1,by
          rw[List.foldl_append]
          show SM wr B sb bu bl be bs ad' {FP with stints:=S,eases:=stE x.lot x.into (D2.foldl (stE x.lot x.into) FP.eases) (k,d)}
          rw[List.take_of_length_le (Nat.le_refl _)]at hs1
          exact hs1,kx1,b1'⟩
         case measure=>rw[hrg1.left_eq,HRG.out.left_eq];exact hlt8
    ·intro k v w8 n8 hk hlx hv hrg8 hlt8 hg8 hs8 hen
     have HV:=Lib.hid hv
     have HSN2:=Lib.hid (HSN.out.step hv hlx)
     have kx8:=(hg8.block _ hl9 (by simp;omega)).trans kx9
     have b8:Fr B sb ad w w8:=b9.grow hg8 ⟨by omega,by omega⟩ (.inr (.inl (by omega)))
     have hs8':=hs9.kept hg8 (by omega) HAD.out
     obtain⟨W9,hW9⟩: ∃W:World,W=(w8.alloc (.cells #[.int .i64 k.1,.int .i64 k.2] 163)).alloc (.cells #[.int .i64 v.1,.int .i64 v.2] 171):=⟨_,rfl⟩
     have bA:Below w8.heap.size w8 W9:=by rw[hW9];exact((Below.refl _ _).alloc (Nat.le_refl _) _).alloc (by simp) _
     have kk:W9.heap[wr.heap.size]?=some (.cells #[.int .i64 k.1,.int .i64 k.2] 163 (0,0)):=by rw[hW9];exact(Below.heap_alloc _ _ _ (by simp[hs8])).trans (heap_at hs8)
     have kv:W9.heap[wr.heap.size+1]?=some (.cells #[.int .i64 v.1,.int .i64 v.2] 171 (0,0)):=by rw[hW9];exact heap_at (by simp[hs8])
     have kxA:=(bA.block _ (by omega)).trans kx8
     have hsA:=hs8'.below bA
     have hrgA:=hrg8.same (w':=W9) (bA.block _ hrg8.fm.lt) (bA.block _ hrg8.lt)
     have bB:Fr B sb ad w W9:=b8.next bA (by omega) (by omega)
     have HW9:=Lib.hid hW9.symm
     have hl9':wr.heap.size<W9.heap.size:=(Array.getElem?_eq_some_iff.1 kk).1
     obtain⟨hcx8,hfx8⟩:=blk_cells kx8
     have hl8:w.heap.size<w8.heap.size:=by omega
     have HRG:=Lib.hid hrg
     clear hv hlx hW9 hs9 hs8' kx9 kx8 hrg hrg8
     obtain⟨hck,hfk⟩:=blk_cells kk
     obtain⟨hcx9,hfx9⟩:=blk_cells kxA
     by_cases hkl:k.1=x.lot
     ·have hq:(k.1==x.lot)=true:=by simpa using hkl
      have HKL:=Lib.hid hkl
      clear hkl
      go_wp2
      rw[HW9.out]
      obtain⟨wo,rfl⟩: ∃wo:World,wo=wr:=⟨_,rfl⟩
      go_loopw [80] (fun i wr=> ∃(j:Nat),j≤x.into.length∧i=.int .i64 j∧SM wr B sb bu bl be bs ad' {FP with stints:=(x.into.take j).foldl (fun E n q=>if q=(n,k.2)then some v else E q) (D.foldl (stS x.lot x.into) FP.stints)}∧
        RG ekP okP wr w5.heap.size w6.heap.size (fG FP.stints) (fun q=>left q&& !decide (q=k)) n8∧wr.heap[w.heap.size]?=some (oDl x A1 A2 c1 c2)∧
        wr.heap[wo.heap.size]?=some (.cells #[.int .i64 k.1,.int .i64 k.2] 163 (0,0))∧wr.heap[wo.heap.size+1]?=some (.cells #[.int .i64 v.1,.int .i64 v.2] 171 (0,0))∧Fr B sb ad w wr)
       (fun i _=>x.into.length-(intOf i).toNat)
      case atStart=>exact⟨0,by omega,rfl,hsA,hrgA,kxA,kk,kv,bB⟩
      case round=>
       obtain⟨j,hj,rfl,hs1,hrg1,kx1,kk1,kv1,b1'⟩:=hrel
       by_cases hlt1:j<x.into.length
       ·obtain⟨W10,hW10⟩: ∃W:World,W=wr.drew:=⟨_,rfl⟩
        have hsD:=hs1.drew
        rw[←hW10]at hsD
        have hrgD:RG ekP okP W10 w5.heap.size w6.heap.size (fG FP.stints) (fun q=>left q&& !decide (q=k)) n8:=by rw[hW10];exact hrg1
        have kxD:W10.heap[w.heap.size]?=some (oDl x A1 A2 c1 c2):=by rw[hW10];exact kx1
        have kkD:W10.heap[wo.heap.size]?=some (.cells #[.int .i64 k.1,.int .i64 k.2] 163 (0,0)):=by rw[hW10];exact kk1
        have kvD:W10.heap[wo.heap.size+1]?=some (.cells #[.int .i64 v.1,.int .i64 v.2] 171 (0,0)):=by rw[hW10];exact kv1
        have bD:Fr B sb ad w W10:=by rw[hW10];exact b1'.drew
        have HW10:=Lib.hid hW10
        clear hW10
        obtain⟨bi,oi,ei,hbi,q1⟩:=Ints.at1 (hA1.below b1'.bel) hlt1
        obtain⟨m,hm⟩: ∃m,x.into[j]=m:=⟨_,rfl⟩
        rw[hm]at q1
        have HM:=Lib.hid hm
        obtain⟨w11,hrun,hs11,b11,g11⟩:=hsD.stint (n:=v.1) (d:=v.2) (Hi.out m (hm▸List.getElem_mem hlt1)) hk.2
        have zk:=(Array.getElem?_eq_some_iff.1 kkD).1
        have zv:=(Array.getElem?_eq_some_iff.1 kvD).1
        have hrg11:=hrgD.kept g11 (by simp;omega) (by simp;omega)
        have kx11:=(g11.block _ (by omega) (by simp;omega)).trans kxD
        have kk11:=(g11.block _ zk (by simp;omega)).trans kkD
        have kv11:=(g11.block _ zv (by simp;omega)).trans kvD
        obtain⟨hcD,hfD⟩:=blk_cells hsD.blk
        obtain⟨hckD,hfkD⟩:=blk_cells kkD
        obtain⟨hcvD,hfvD⟩:=blk_cells kvD
        subst ei
        clear hm
        go_wp2
        refine still_tail HW10.out 9 (by kernel_rfl) (by kernel_rfl) ?_
        simp only[List.take_succ_cons,List.take_zero,List.drop_succ_cons,List.drop_zero]
        repeat still_step
        refine wpStill_nil ?_
        go_wp2
        go_roundw
        case rel=>exact⟨j+1,by omega,by go_num,by rw[take_fold _ _ hlt1,HM.out];exact hs11,hrg11,kx11,kk11,kv11,bD.grow g11 ⟨by omega,by omega⟩ (.inl (by omega))⟩
        case measure=>first|(simp[intOf];done)|(simp[intOf];omega)
       ·obtain rfl:j=x.into.length:=by omega
        go_wp2
        go_roundw
        case rel=>exact⟨D++[(k,v)],_,n8,HSN2.out,hrg1,by
         rw[List.foldl_append]
         show SM wr B sb bu bl be bs ad' {FP with stints:=stS x.lot x.into (D.foldl (stS x.lot x.into) FP.stints) (k,v)}
         unfold stS at hs1 ⊢
         rw[if_pos HKL.out]
         rw[List.take_of_length_le (Nat.le_refl _)]at hs1
         exact hs1,kx1,b1'⟩
        case measure=>rw[hrg1.left_eq,HRG.out.left_eq];exact hlt8
     ·have hq:(k.1==x.lot)=false:=by simpa using hkl
      have HKL:=Lib.hid hkl
      clear hkl
      go_wp2
      rw[HW9.out]
      go_roundw
      case rel=>exact⟨D++[(k,v)],_,n8,HSN2.out,hrgA,by
       rw[List.foldl_append]
       show SM W9 B sb bu bl be bs ad' {FP with stints:=stS x.lot x.into (D.foldl (stS x.lot x.into) FP.stints) (k,v)}
       unfold stS at hsA ⊢
       rw[if_neg HKL.out]
       exact hsA,kxA,bB⟩
      case measure=>rw[hrgA.left_eq,HRG.out.left_eq];exact hlt8
end
end Go.Proofs.YtcffonnijhhhiaaGreatDoor
namespace Go.Proofs.YtcffonnijhhhiaaGreatDoor
open Go Go.RowKit Mp
attribute [-simp] Prod.forall Prod.exists
section
variable {w : World} {B sb bu bl be bs : Nat} {ad : Int → Option (Nat × Nat)} {F : FS}
set_option maxRecDepth 100000 in
theorem divide_none (h:SM w B sb bu bl be bs ad F)(x:Dl)(A1 A2:Option Addr)(c1 c2:Nat)(h1:okI x.lot)(hL:F.lots x.lot=none)(F':FS):
  Calls Tryz.prog 259 #[.pointer (some ⟨sb,0,none⟩),.agg (xcs x A1 A2 c1 c2)] w (EndK w B sb bu bl be bs ad F' 5):=by
 have hz:=h.lt
 have ka:=heap_at (w:=w.alloc (oDl x A1 A2 c1 c2)) (o:=.cells #[.int .i64 x.lot] 3) (n:=w.heap.size+1) (by simp)
 have b1:Below w.heap.size w ((w.alloc (oDl x A1 A2 c1 c2)).alloc (.cells #[.int .i64 x.lot] 3)):=by go_grown
 have hc:=needs_1 (h.below b1) ka h1.i64
 rw[hL]at hc
 clear hL
 go_enter Tryz.func259,Tryz.ntmps259
 go_wp2_with (go_at_call 289;refine hc.mono ?_;rintro e w1 ⟨rfl,hx⟩)
 exact⟨rfl,EndK.no (by decide) rfl (b1.trans (hx.mono b1.size))⟩
set_option maxRecDepth 100000 in
set_option maxHeartbeats 4000000 in
theorem divide_twice (h:SM w B sb bu bl be bs ad F)(x:Dl)(A1 A2:Option Addr)(c1 c2:Nat){L:LotF}(h1:okI x.lot)(hL:F.lots x.lot=some L)
  (hi: ∀n∈x.into,okI n) (hl:x.into.length≤10) (hA1:Ints w B A1 x.into) (hnew:(x.into.any fun n=>F.used n)=true) (F':FS):
  Calls Tryz.prog 259 #[.pointer (some ⟨sb,0,none⟩),.agg (xcs x A1 A2 c1 c2)] w (EndK w B sb bu bl be bs ad F' 6):=by
 have hz0:=h.lt
 have ho:=h.ord
 cases hp:ad x.lot with
 |none=>rw[h.no _ hp]at hL;cases hL
 |some p=>
 obtain⟨l1,l2,l3,l4,l5⟩:=h.lotlt hp
 obtain⟨z,bm⟩:=p
 simp only at l1 l2 l3 l4 l5
 have kx:=Below.heap_alloc (w.alloc (oDl x A1 A2 c1 c2)) (.cells #[.int .i64 x.lot] 3) _ (by simp)|>.trans (heap_alloc_new w (oDl x A1 A2 c1 c2))
 have ka:=heap_at (w:=w.alloc (oDl x A1 A2 c1 c2)) (o:=.cells #[.int .i64 x.lot] 3) (n:=w.heap.size+1) (by simp)
 have b1:Below w.heap.size w ((w.alloc (oDl x A1 A2 c1 c2)).alloc (.cells #[.int .i64 x.lot] 3)):=by go_grown
 have hc:=needs_1 (h.below b1) ka h1.i64
 rw[hL,Option.isNone_some]at hc
 replace hc:=hc.mono fun _ _ h=>EndU.ok h
 have HL:=Lib.hid hL
 have Hp:=Lib.hid hp
 have HN:=Lib.hid hnew
 have Hi:=Lib.hid hi
 clear hL hp hnew hi
 go_enter Tryz.func259,Tryz.ntmps259
 go_wp2_with fail
 refine hc.mono ?_
 rintro e w1 ⟨rfl,hx⟩
 have hx1:=hx.size
 simp only[World.size_alloc]at hx1
 have b2:Below w.heap.size w w1:=b1.trans (hx.mono b1.size)
 have kx1:w1.heap[w.heap.size]?=some (oDl x A1 A2 c1 c2):=(hx.block w.heap.size (by simp;omega)).trans kx
 have hz1:w.heap.size<w1.heap.size:=(Array.getElem?_eq_some_iff.1 kx1).1
 obtain⟨hcx,hfx⟩:=blk_cells kx1
 have hnw:=new_a (h.below b2) A1 c1 x.into (((hA1.below (b2.mono (by omega)))).more (by omega)) (by omega) (fun n hn=>(Hi.out n hn).i64)
 rw[HN.out]at hnw
 clear hc
 go_wp2_with (go_at_call 287;refine hnw.mono ?_;rintro e w2 ⟨rfl,hy⟩)
 exact⟨rfl,EndK.no (by decide) rfl (b2.trans (hy.mono b2.size))⟩
set_option maxRecDepth 100000 in
set_option maxHeartbeats 4000000 in
theorem divide_unlike (h:SM w B sb bu bl be bs ad F)(x:Dl)(A1 A2:Option Addr)(c1 c2:Nat){L:LotF}(h1:okI x.lot)(hL:F.lots x.lot=some L)
  (hi: ∀n∈x.into,okI n) (hl:x.into.length≤10) (hz:x.sizes.length=x.into.length) (hzs: ∀z∈x.sizes,1≤z∧z≤10000000000) (hA1:Ints w B A1 x.into) (hA2:Ints w B A2 x.sizes)
  (hnew:(x.into.any fun n=>F.used n)=false) (hsum:Rt.sumI x.sizes≠L.size) (F':FS):
  Calls Tryz.prog 259 #[.pointer (some ⟨sb,0,none⟩),.agg (xcs x A1 A2 c1 c2)] w (EndK w B sb bu bl be bs ad F' 71):=by
 have hz0:=h.lt
 have ho:=h.ord
 cases hp:ad x.lot with
 |none=>rw[h.no _ hp]at hL;cases hL
 |some p=>
 obtain⟨l1,l2,l3,l4,l5⟩:=h.lotlt hp
 obtain⟨z,bm⟩:=p
 simp only at l1 l2 l3 l4 l5
 have kx:=Below.heap_alloc (w.alloc (oDl x A1 A2 c1 c2)) (.cells #[.int .i64 x.lot] 3) _ (by simp)|>.trans (heap_alloc_new w (oDl x A1 A2 c1 c2))
 have ka:=heap_at (w:=w.alloc (oDl x A1 A2 c1 c2)) (o:=.cells #[.int .i64 x.lot] 3) (n:=w.heap.size+1) (by simp)
 have b1:Below w.heap.size w ((w.alloc (oDl x A1 A2 c1 c2)).alloc (.cells #[.int .i64 x.lot] 3)):=by go_grown
 have hc:=needs_1 (h.below b1) ka h1.i64
 rw[hL,Option.isNone_some]at hc
 replace hc:=hc.mono fun _ _ h=>EndU.ok h
 have HL:=Lib.hid hL
 have Hp:=Lib.hid hp
 have HN:=Lib.hid hnew
 have HS:=Lib.hid (show(Rt.sumI x.sizes==L.size)=false by simpa using hsum)
 have HS2:=Lib.hid (show(Rt.sumI x.sizes !=L.size)=true by simpa using hsum)
 clear hsum
 have HZ:=Lib.hid hz
 have Hi:=Lib.hid hi
 have Hzs:=Lib.hid hzs
 clear hL hp hnew hz hi hzs
 go_enter Tryz.func259,Tryz.ntmps259
 go_wp2_with fail
 refine hc.mono ?_
 rintro e w1 ⟨rfl,hx⟩
 have hx1:=hx.size
 simp only[World.size_alloc]at hx1
 have b2:Below w.heap.size w w1:=b1.trans (hx.mono b1.size)
 have kx1:w1.heap[w.heap.size]?=some (oDl x A1 A2 c1 c2):=(hx.block w.heap.size (by simp;omega)).trans kx
 have hz1:w.heap.size<w1.heap.size:=(Array.getElem?_eq_some_iff.1 kx1).1
 obtain⟨hcx,hfx⟩:=blk_cells kx1
 have hnw:=new_a (h.below b2) A1 c1 x.into (((hA1.below (b2.mono (by omega)))).more (by omega)) (by omega) (fun n hn=>(Hi.out n hn).i64)
 rw[HN.out]at hnw
 replace hnw:=hnw.mono fun _ _ h=>EndU.ok h
 clear hc
 go_wp2_with fail
 refine hnw.mono ?_
 rintro e w2 ⟨rfl,hy⟩
 have hy1:=hy.size
 have b3:Below w.heap.size w w2:=b2.trans (hy.mono b2.size)
 have kx2:w2.heap[w.heap.size]?=some (oDl x A1 A2 c1 c2):=(hy.block w.heap.size hz1).trans kx1
 obtain⟨W,hW⟩: ∃W:World,W=w2.drew:=⟨_,rfl⟩
 have b4:Below w.heap.size w W:=by rw[hW];exact below_drew b3
 have kx4:W.heap[w.heap.size]?=some (oDl x A1 A2 c1 c2):=by rw[hW];exact kx2
 have HW:=Lib.hid hW
 clear hW hcx hfx hnw
 obtain⟨hcx,hfx⟩:=blk_cells kx4
 have hz4:w.heap.size<W.heap.size:=(Array.getElem?_eq_some_iff.1 kx4).1
 have hs4:=h.below b4
 have hl4:=hs4.lLot h1.i64
 rw[Hp.out]at hl4
 obtain⟨hc4,hf4⟩:=blk_cells hs4.blk
 obtain⟨W2,hW2⟩: ∃W2:World,W2=W.drew:=⟨_,rfl⟩
 have b5:Below w.heap.size w W2:=by rw[hW2];exact below_drew b4
 have kx5:W2.heap[w.heap.size]?=some (oDl x A1 A2 c1 c2):=by rw[hW2];exact kx4
 have HW2:=Lib.hid hW2
 clear hW2
 obtain⟨hcx5,hfx5⟩:=blk_cells kx5
 have hz5:w.heap.size<W2.heap.size:=(Array.getElem?_eq_some_iff.1 kx5).1
 have hs5:=h.below b5
 obtain⟨hc5,hf5⟩:=blk_cells hs5.blk
 obtain⟨kz5,fm5⟩:=hs5.size Hp.out HL.out
 obtain⟨hcz,hfz⟩:=blk_cells kz5
 have hsm:=sum_a A2 c2 x.sizes W2 ((hA2.below (b5.mono (by omega))).more (by omega)) (by have:=HZ.out;omega) (fun z hz=>by have:=Hzs.out z hz;omega)
 obtain⟨T,hT⟩: ∃T,Rt.sumI x.sizes=T:=⟨_,rfl⟩
 rw[hT]at hsm HS HS2
 have hq1:=HS.out
 have hq2:=HS2.out
 clear hT HS HS2
 go_wp2
 refine still_all HW.out (by kernel_rfl) (by kernel_rfl) ?_
 repeat still_step
 refine wpStill_nil ?_
 go_wp2
 refine still_tail HW2.out 8 (by kernel_rfl) (by kernel_rfl) ?_
 simp only[List.take_succ_cons,List.take_zero,List.drop_succ_cons,List.drop_zero]
 repeat still_step
 still_call (hsm.mono fun _ _ ⟨u,v⟩=>⟨u,v.symm⟩)
 repeat still_step
 refine wpStill_nil ?_
 go_wp2_with (go_at_call 290;refine(refuse_yes _ _).mono ?_;rintro e w' ⟨rfl,hq⟩)
 exact⟨rfl,EndK.no (by decide) rfl (b5.trans (hq.mono b5.size))⟩
end
end Go.Proofs.YtcffonnijhhhiaaGreatDoor
