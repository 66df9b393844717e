/- Texts of mine, merged: DR, DS, DT, DU, EM, EN. -/
import Derived.WideMake
import Derived.RangeFuncRecord
import Derived.Test.YtgbpekeoegfjpaaGreatDoorZ12
import Derived.Test.YtgbpekeoegfjpaaGreatDoorZ17
import Derived.Test.YtgbpekeoegfjpaaGreatDoorZ00
import Derived.Test.YtgbpekeoegfjpaaGreatDoorZ02
/- Walk: the form of parcels. -/
set_option maxRecDepth 100000
namespace Go.Proofs.YtgbpekeoegfjpaaGreatDoor
open Go.RowKit
variable (A1 A2 A3 A4 : Option Addr) (c1 c2 c3 c4 : Nat) (f : Pl.Fld)
attribute [-go_sem] Builtin.append_
def EndX (bf:Nat)(X:Nat->Prop)(w:World)(r:Except Int Pl.Fld)(e:Ending)(w':World):Prop:=
 BelowE bf X w w'∧match r with
  | .ok f=>e=.returned (.tuple #[])∧ ∃v1 v2 v3 v4,FInv bf f w' v1 v2 v3 v4∧New X w.heap.size v1 v2 v3 v4
  | .error E=>e=.panicked (gave E)
theorem EndX.ok {bf:Nat}{X:Nat->Prop}{w w':World}{r:Except Int Pl.Fld}{e:Ending}{f:Pl.Fld}{v1 v2 v3 v4:Value}(hr:r=.ok f)(hb:BelowE bf X w w')(he:e=.returned (.tuple #[]))(hF:FInv bf f w' v1 v2 v3 v4)(hN:New X w.heap.size v1 v2 v3 v4):EndX bf X w r e w':=by subst hr;exact⟨hb,he,_,_,_,_,hF,hN⟩
theorem EndX.no {bf:Nat}{X:Nat->Prop}{w w':World}{r:Except Int Pl.Fld}{e:Ending}{E:Int}(hr:r=.error E)(hb:BelowE bf X w w')(he:e=.panicked (gave E)):EndX bf X w r e w':=by subst hr;exact⟨hb,he⟩
def parR (ws:List ByteArray):Option (ByteArray×ByteArray×ByteArray×ByteArray):=
 (nameR ws).bind fun p=>(nameR p.2).bind fun q=>(nameR q.2).bind fun r=>(nameR r.2).bind fun t=>if t.2=[]then some (p.1,q.1,r.1,t.1)else none
def parX (f:Pl.Fld)(ws:List ByteArray):Except Int Pl.Fld:=match parR ws with
 |some (n,s,a,b)=>Pl.added f (.parcel n s a b)
 |none=> .error 4
theorem FInv.vals {bf:Nat}{f:Pl.Fld}{W:World}{v1 v2 v3 v4:Value}(h:FInv bf f W v1 v2 v3 v4):
  ∃A1 c1 A2 c2 A3 c3 A4 c4,v1=.slice A1 f.st.length c1∧v2=.slice A2 f.li.length c2∧v3=.slice A3 f.pa.length c3∧v4=.slice A4 f.va.length c4:=by
 obtain⟨A1,c1,h1,_⟩:=own_seg lay_sta h.o1
 obtain⟨A2,c2,h2,_⟩:=own_seg lay_nm h.o2
 obtain⟨A3,c3,h3,_⟩:=own_seg lay_par h.o3
 obtain⟨A4,c4,h4,_⟩:=own_seg lay_var h.o4
 exact⟨A1,c1,A2,c2,A3,c3,A4,c4,h1,h2,h3,h4⟩
theorem FInv.fld {bf:Nat}{W:World}(h:FInv bf f W (.slice A1 f.st.length c1) (.slice A2 f.li.length c2) (.slice A3 f.pa.length c3) (.slice A4 f.va.length c4)):FldS W W.heap.size A1 A2 A3 A4 f∧Caps c1 c2 c3 c4 f:=by
 obtain⟨B1,d1,h1,s1,l1,_⟩:=own_seg lay_sta h.o1
 obtain⟨B2,d2,h2,s2,l2,_⟩:=own_seg lay_nm h.o2
 obtain⟨B3,d3,h3,s3,l3,_⟩:=own_seg lay_par h.o3
 obtain⟨B4,d4,h4,s4,l4,_⟩:=own_seg lay_var h.o4
 cases h1;cases h2;cases h3;cases h4
 exact⟨⟨s1,s2,s3,s4⟩,⟨l1,l2,l3,l4⟩⟩
theorem sizes_drop {x:ByteArray}{ws:List ByteArray}(h:Sizes (x::ws)):Sizes ws:=h.tail.2.2
set_option maxHeartbeats 4000000 in
theorem formP_a (bf br:Nat)(A1 A2 A3 A4:Option Addr)(c1 c2 c3 c4:Nat)(f:Pl.Fld)(ws:List ByteArray)(w:World)(hR:Rd w br ws)(hF:FInv bf f w (.slice A1 f.st.length c1) (.slice A2 f.li.length c2) (.slice A3 f.pa.length c3) (.slice A4 f.va.length c4))(hlt:bf<br)(hs:Sizes ws)
  (hk1:f.st.length<=100000) (hk2:f.li.length<=100000) (hk3:f.pa.length<=100000):
  Calls Tryz.prog 204 #[.pointer (some ⟨bf,0,none⟩),.pointer (some ⟨br,0,none⟩)] w (EndX bf (Ox bf br (.slice A1 f.st.length c1) (.slice A2 f.li.length c2) (.slice A3 f.pa.length c3) (.slice A4 f.va.length c4)) w (parX f ws)):=by
 have hbr:=hR.lt
 obtain⟨A0,c0,hrd,_,_⟩:=id hR
 have hF1:=fun W (hg:w.grownBy W (some br))=>hF.kept hrd hg
 go_enter Tryz.func204,Tryz.ntmps204
 go_wp2_with fail
 refine(name_a br ws _ hR hs).mono ?_
 rintro e w1 ⟨hg1,hm1⟩
 cases h1:nameR ws with
 |none=>
  rw[h1]at hm1
  subst hm1
  exact⟨rfl,EndX.no (by simp[parX,parR,h1]) (exit_of hrd hlt hg1) rfl⟩
 |some p=>
 obtain⟨n,r1⟩:=p
 rw[h1]at hm1
 obtain⟨rfl,hR1⟩:=hm1
 obtain⟨rfl,_⟩:=nameR_inv h1
 have hs1:=sizes_drop hs
 have hb1:=below_of_grown hbr hg1
 have hlt1:=hR1.lt
 have ks:=heap_alloc_new w1 (.cells #[.string n,.int .i64 0,.int .i64 0,.int .i64 0] 112)
 have hga:w1.grownBy (w1.alloc (.cells #[.string n,.int .i64 0,.int .i64 0,.int .i64 0] 112)) (some br):=(World.grownBy_alloc w1 _ none).but _
 have hR1a:=hR1.below ((Below.refl _ w1).alloc (Nat.le_refl _) (.cells #[.string n,.int .i64 0,.int .i64 0,.int .i64 0] 112))
 have hsa:(w1.alloc (.cells #[.string n,.int .i64 0,.int .i64 0,.int .i64 0] 112)).heap.size=w1.heap.size+1:=by simp
 obtain⟨B1',d1',hrd1,_,_⟩:=id hR1
 have hFA:=fun W (hg:w1.grownBy W (some br))=>(hF1 w1 hg1).kept hrd1 hg
 have hBG: ∀W,w1.grownBy W (some br)->BelowE bf (Ox bf br (.slice A1 f.st.length c1) (.slice A2 f.li.length c2) (.slice A3 f.pa.length c3) (.slice A4 f.va.length c4)) w W:=fun W hg=>exit_of hrd hlt (hg1.trans hg)
 have hBA: ∀W W',w1.grownBy W (some br)->Below W.heap.size W W'->BelowE bf (Ox bf br (.slice A1 f.st.length c1) (.slice A2 f.li.length c2) (.slice A3 f.pa.length c3) (.slice A4 f.va.length c4)) w W':=fun W W' hg hb=>hBG W' (grown_up hg hb)
 clear hF1 hF hR hrd
 go_wp2_with fail
 refine(name_a br r1 _ hR1a hs1).mono ?_
 rintro e w2 ⟨hg2,hm2⟩
 have hk2':=hga.trans hg2
 cases h2:nameR r1 with
 |none=>
  rw[h2]at hm2
  subst hm2
  exact⟨rfl,EndX.no (by simp[parX,parR,h1,h2]) (hBG _ hk2') rfl⟩
 |some p=>
 obtain⟨sn,r2⟩:=p
 rw[h2]at hm2
 obtain⟨rfl,hR2⟩:=hm2
 obtain⟨rfl,_⟩:=nameR_inv h2
 have hs2:=sizes_drop hs1
 have ks:=(hg2.block w1.heap.size (by simp) (by simp;omega)).trans ks
 clear hg2 hga hR1a
 go_wp2_with fail
 refine(name_a br r2 _ hR2 hs2).mono ?_
 rintro e w3 ⟨hg3,hm3⟩
 have hk3':=hk2'.trans hg3
 have hbs:w1.heap.size<w2.heap.size:=(lO ks)
 cases h3:nameR r2 with
 |none=>
  rw[h3]at hm3
  subst hm3
  exact⟨rfl,EndX.no (by simp[parX,parR,h1,h2,h3]) (hBG _ hk3') rfl⟩
 |some p=>
 obtain⟨an,r3⟩:=p
 rw[h3]at hm3
 obtain⟨rfl,hR3⟩:=hm3
 obtain⟨rfl,_⟩:=nameR_inv h3
 have hs3:=sizes_drop hs2
 have ks:=(hg3.block w1.heap.size hbs (by simp;omega)).trans ks
 clear hg3 hk2' hR2 hbs
 go_wp2_with fail
 refine(name_a br r3 _ hR3 hs3).mono ?_
 rintro e w4 ⟨hg4,hm4⟩
 have hk4:=hk3'.trans hg4
 have hbs:w1.heap.size<w3.heap.size:=(lO ks)
 cases h4:nameR r3 with
 |none=>
  rw[h4]at hm4
  subst hm4
  exact⟨rfl,EndX.no (by simp[parX,parR,h1,h2,h3,h4]) (hBG _ hk4) rfl⟩
 |some p=>
 obtain⟨bn,r4⟩:=p
 rw[h4]at hm4
 obtain⟨rfl,hR4⟩:=hm4
 obtain⟨rfl,_⟩:=nameR_inv h4
 have ks:=(hg4.block w1.heap.size hbs (by simp;omega)).trans ks
 clear hg4 hk3' hR3 hbs
 cases r4 with
 |cons z l=>
  go_wp2_with (go_at_call 159;refine(end_no br z l _ hR4).mono ?_;rintro e w5 ⟨rfl,hx5⟩)
  exact⟨rfl,EndX.no (by simp[parX,parR,h1,h2,h3,h4]) (hBA _ _ hk4 hx5) rfl⟩
 |nil=>
 have HP:Hid (parX f [n,sn,an,bn]=Pl.added f (.parcel n sn an bn)):=Lib.hid (by simp[parX,parR,h1,h2,h3,h4])
 clear h1 h2 h3 h4
 have hF4:=hFA _ hk4
 obtain⟨hcb,hfb⟩:=blk_cells hF4.box
 have hbs4:w1.heap.size<w4.heap.size:=(lO ks)
 go_wp2_with (go_at_call 159;refine(end_yes br _ hR4).mono ?_;rintro e w5 ⟨rfl,rfl⟩)
 refine(limitOf_a A1 A2 A3 A4 c1 c2 c3 c4 f sn _ (FInv.fld A1 A2 A3 A4 c1 c2 c3 c4 f hF4).1.li hk2).mono ?_
 rintro e w5 ⟨hm5,hx5⟩
 cases h5:Pl.limOf f sn with
 |none=>
  rw[h5]at hm5
  subst hm5
  exact⟨rfl,EndX.no (by rw[HP.out];simp[Pl.added];rw[show Pl.idx (fun x=>decide (x=sn)) f.li=none from h5]) (hBA _ _ hk4 hx5) rfl⟩
 |some i=>
 rw[h5]at hm5
 subst hm5
 have H5:Hid (Pl.idx (fun x=>decide (x=sn)) f.li=some i):=Lib.hid h5
 clear h5
 have hk5:w1.grownBy w5 (some br):=grown_up hk4 hx5
 have ks5:=(hx5.block w1.heap.size hbs4).trans ks
 have hk5s:=hk5.andThen (grown_set w5 w1.heap.size 1 (.int .i64 (i:Int))) (fun j e=>by cases e;exact .inl (Nat.le_refl _))
 obtain⟨hcs,hfs⟩:=blk_cells ks5
 have ks6':=heap_setCell_same w5 w1.heap.size 1 _ _ (.int .i64 (i:Int)) ks5
 have hF5:=hFA _ hk5s
 obtain⟨hcb,hfb⟩:=blk_cells hF5.box
 clear hx5 hF4 ks
 go_wp2_with fail
 refine(stationOf_a A1 A2 A3 A4 c1 c2 c3 c4 f an _ (FInv.fld A1 A2 A3 A4 c1 c2 c3 c4 f hF5).1.st hk1).mono ?_
 rintro e w6 ⟨hm6,hx6⟩
 cases h6:Pl.staOf f an with
 |none=>
  rw[h6]at hm6
  subst hm6
  have H6:Pl.idx (fun x=>decide (x.1=an)) f.st=none:=h6
  exact⟨rfl,EndX.no (by rw[HP.out];simp[Pl.added,H5.out,H6]) (hBA _ _ hk5s hx6) rfl⟩
 |some j=>
 rw[h6]at hm6
 subst hm6
 have H6:Hid (Pl.idx (fun x=>decide (x.1=an)) f.st=some j):=Lib.hid h6
 clear h6
 have hk6:w1.grownBy w6 (some br):=grown_up hk5s hx6
 have ks6:=(hx6.block w1.heap.size (lO ks6')).trans ks6'
 have hk6s:=hk6.andThen (grown_set w6 w1.heap.size 2 (.int .i64 (j:Int))) (fun j e=>by cases e;exact .inl (Nat.le_refl _))
 obtain⟨hcs,hfs⟩:=blk_cells ks6
 have ks7':=heap_setCell_same w6 w1.heap.size 2 _ _ (.int .i64 (j:Int)) ks6
 have hF6:=hFA _ hk6s
 obtain⟨hcb,hfb⟩:=blk_cells hF6.box
 clear hx6 hF5
 go_wp2_with fail
 refine(stationOf_a A1 A2 A3 A4 c1 c2 c3 c4 f bn _ (FInv.fld A1 A2 A3 A4 c1 c2 c3 c4 f hF6).1.st hk1).mono ?_
 rintro e w7 ⟨hm7,hx7⟩
 cases h7:Pl.staOf f bn with
 |none=>
  rw[h7]at hm7
  subst hm7
  have H7:Pl.idx (fun x=>decide (x.1=bn)) f.st=none:=h7
  exact⟨rfl,EndX.no (by rw[HP.out];simp[Pl.added,H5.out,H6.out,H7]) (hBA _ _ hk6s hx7) rfl⟩
 |some k=>
 rw[h7]at hm7
 subst hm7
 have H7:Hid (Pl.idx (fun x=>decide (x.1=bn)) f.st=some k):=Lib.hid h7
 clear h7
 have hk7:w1.grownBy w7 (some br):=grown_up hk6s hx7
 have ks7:=(hx7.block w1.heap.size (lO ks7')).trans ks7'
 have hk7s:=hk7.andThen (grown_set w7 w1.heap.size 3 (.int .i64 (k:Int))) (fun j e=>by cases e;exact .inl (Nat.le_refl _))
 obtain⟨hcs,hfs⟩:=blk_cells ks7
 have ks8':=heap_setCell_same w7 w1.heap.size 3 _ _ (.int .i64 (k:Int)) ks7
 have hF7:=hFA _ hk7s
 obtain⟨hcb,hfb⟩:=blk_cells hF7.box
 clear hx7 hF6
 go_wp2_with fail
 have ks8:(w7.setCell ⟨w1.heap.size,3,none⟩ (.int .i64 (k:Int))).heap[w1.heap.size]?=some (.cells #[.string n,.int .i64 (i:Int),.int .i64 (j:Int),.int .i64 (k:Int)] 112 (0,0)):=ks8'
 clear hcs hfs ks8' ks7' ks6' ks7 ks6 ks5 hcb hfb hk7 hk6 hk5 hk6s hk5s hk4 hbs4 hR4
 generalize w7.setCell ⟨w1.heap.size,3,none⟩ (.int .i64 (k:Int))=W at*
 obtain⟨hcb,hfb⟩:=blk_cells hF7.box
 obtain⟨hcs,hfs⟩:=blk_cells ks8
 have hiL:=Pl.idx_lt H5.out
 have e1:IntKind.i64.wrap ((i:Int)+1)=(i:Int)+1:=IntWalk.i64_in _ (by omega)
 have q0:=hcs 1
 have q1:=hcb 1
 by_cases hlim:i+1<f.li.length
 ·have hd:decide ((i:Int)+1<(f.li.length:Int))=true:=decide_eq_true (by omega)
  go_region_held3 (fun W=>W.cell? ⟨w1.heap.size,1,none⟩=some (.int .i64 (i:Int))∧W.cell? ⟨bf,1,none⟩=some (.slice A2 f.li.length c2)) (exact⟨q0,q1⟩) ((go_at_call 97;refine(unless_yes _ _).mono ?_;rintro e w' ⟨rfl,rfl⟩))
  have hd2:Below W.heap.size W W.drew.drew:=((Below.refl _ W).drew).drew
  obtain⟨g',cap',w9,hrun,hbx,hF9,hb9,hsz9,hnw9⟩:=push_par (hF7.below hd2) ⟨n,i,j,k⟩ hk3
  have hrun:(Builtin.append_ #[25,25] 25 #[.slice A3 f.pa.length c3,.slice (some ⟨W.heap.size,0,none⟩) 1 1]).run Tryz.prog (W.alloc (.cells #[.string n,.int .i64 (i:Int),.int .i64 (j:Int),.int .i64 (k:Int)] 112)).drew.drew=.ok (.slice (some ⟨g',0,none⟩) (f.pa.length+1) cap') w9:=hrun
  obtain⟨hcx,hfx⟩:=blk_cells hbx
  have hltW:=hF7.lt
  have HX:Hid (Pl.added f (.parcel n sn an bn)=.ok {f with pa:=f.pa++[⟨n,i,j,k⟩]}):=Lib.hid (by simp[Pl.added,H5.out,H6.out,H7.out,hlim])
  have F9:=Lib.hid hF9
  have N9:=Lib.hid (hnw9 br)
  have hB7:=(hBG _ hk7s).trans (BelowE.of_below (((Below.refl _ W).drew).drew) (by have:=hF7.lt;omega))
  have p0:=hcs 0
  have p1:=hcs 1
  have p2:=hcs 2
  have p3:=hcs 3
  have p4:=hcb 2
  have p5:(W.alloc (.cells #[.string n,.int .i64 (i:Int),.int .i64 (j:Int),.int .i64 (k:Int)] 112)).cell? ⟨bf,2,none⟩=some (.slice A3 f.pa.length c3):=(World.cell?_of_block (Below.heap_alloc _ _ _ hltW)).trans p4
  clear hF9 hF7 hd hd2 hnw9
  go_wp2
  go_region_with (fail)
  all_goals go_end0
  all_goals exact EndX.ok (by rw[HP.out,HX.out]) (hB7.trans (hb9 br)) rfl F9.out (N9.out _ hB7.b.size)
 ·have hd:decide ((i:Int)+1<(f.li.length:Int))=false:=decide_eq_false (by omega)
  have HX:Hid (Pl.added f (.parcel n sn an bn)=.error 1):=Lib.hid (by simp[Pl.added,H5.out,H6.out,H7.out,hlim])
  refine wp_region_any (by kernel_rfl) ?_
  change wpAny _ _ _ _ _ _ _ (World.drew _)
  refine wpAny_take (i:=0) (v:=.pointer (some ⟨w1.heap.size,1,none⟩)) rfl (by kernel_rfl) (by kernel_rfl) (by kernel_rfl) (fun _ _ _ h=>h) (Or.inl ⟨by rfl,by intro w;rfl⟩) ?_
  refine wpAny_take (i:=3) (v:=.pointer (some ⟨bf,0,none⟩)) rfl (by kernel_rfl) (by kernel_rfl) (by kernel_rfl) (fun _ _ _ h=>h) (Or.inl ⟨by rfl,by intro w;rfl⟩) ?_
  refine wpAny_take (i:=4) (v:=.pointer (some ⟨bf,0,none⟩)) rfl (by kernel_rfl) (by kernel_rfl) (by kernel_rfl) (fun _ _ _ h=>h) (Or.inl ⟨by rfl,by intro w;rfl⟩) ?_
  refine wpAny_take (i:=5) (v:=.pointer (some ⟨bf,1,none⟩)) rfl (by kernel_rfl) (by kernel_rfl) (by kernel_rfl) (fun _ _ _ h=>h) (Or.inl ⟨by rfl,by intro w;rfl⟩) ?_
  refine wpAny_ready (rs:=[1,6]) (by kernel_rfl) (by simp) ?_
  refine AllReady.cons rfl (fun K hK=> ?_) (AllReady.cons rfl (fun K hK=> ?_) AllReady.nil)
  ·go_simp
   refine hK _ _ ?_
   clear hK K
   refine wpAny_ready (rs:=[2,6]) (by kernel_rfl) (by simp) ?_
   refine AllReady.cons rfl (fun K hK=> ?_) (AllReady.cons rfl (fun K hK=> ?_) AllReady.nil)
   ·go_simp
    refine hK _ _ ?_
    clear hK K
    refine wpAny_ready (rs:=[6]) (by kernel_rfl) (by simp) ?_
    refine AllReady.cons rfl (fun K hK=> ?_) AllReady.nil
    go_simp
    refine hK _ _ ?_
    clear hK K
    refine wpAny_ready (rs:=[7]) (by kernel_rfl) (by simp) ?_
    refine AllReady.cons rfl (fun K hK=> ?_) AllReady.nil
    go_simp
    refine hK _ _ ?_
    clear hK K
    refine wpAny_ready (rs:=[8]) (by kernel_rfl) (by simp) ?_
    refine AllReady.cons rfl (fun K hK=> ?_) AllReady.nil
    go_simp
    refine hK _ _ ?_
    clear hK K
    refine wpAny_ready (rs:=[9]) (by kernel_rfl) (by simp) ?_
    refine AllReady.cons rfl (fun K hK=> ?_) AllReady.nil
    go_simp
    refine(unless_no _ _).mono ?_
    rintro e w9 ⟨rfl,hx9⟩
    exact⟨rfl,EndX.no (by rw[HP.out,HX.out]) (hBA _ _ hk7s (((Below.refl _ W).drew).trans hx9)) rfl⟩
   ·go_simp
    refine hK _ _ ?_
    clear hK K
    refine wpAny_ready (rs:=[2,7]) (by kernel_rfl) (by simp) ?_
    refine AllReady.cons rfl (fun K hK=> ?_) (AllReady.cons rfl (fun K hK=> ?_) AllReady.nil)
    ·go_simp
     refine hK _ _ ?_
     clear hK K
     refine wpAny_ready (rs:=[7]) (by kernel_rfl) (by simp) ?_
     refine AllReady.cons rfl (fun K hK=> ?_) AllReady.nil
     go_simp
     refine hK _ _ ?_
     clear hK K
     refine wpAny_ready (rs:=[8]) (by kernel_rfl) (by simp) ?_
     refine AllReady.cons rfl (fun K hK=> ?_) AllReady.nil
     go_simp
     refine hK _ _ ?_
     clear hK K
     refine wpAny_ready (rs:=[9]) (by kernel_rfl) (by simp) ?_
     refine AllReady.cons rfl (fun K hK=> ?_) AllReady.nil
     go_simp
     refine(unless_no _ _).mono ?_
     rintro e w9 ⟨rfl,hx9⟩
     exact⟨rfl,EndX.no (by rw[HP.out,HX.out]) (hBA _ _ hk7s (((Below.refl _ W).drew).trans hx9)) rfl⟩
    ·go_simp
     refine hK _ _ ?_
     clear hK K
     refine wpAny_ready (rs:=[2]) (by kernel_rfl) (by simp) ?_
     refine AllReady.cons rfl (fun K hK=> ?_) AllReady.nil
     go_simp
     refine hK _ _ ?_
     clear hK K
     refine wpAny_ready (rs:=[8]) (by kernel_rfl) (by simp) ?_
     refine AllReady.cons rfl (fun K hK=> ?_) AllReady.nil
     go_simp
     refine hK _ _ ?_
     clear hK K
     refine wpAny_ready (rs:=[9]) (by kernel_rfl) (by simp) ?_
     refine AllReady.cons rfl (fun K hK=> ?_) AllReady.nil
     go_simp
     refine(unless_no _ _).mono ?_
     rintro e w9 ⟨rfl,hx9⟩
     exact⟨rfl,EndX.no (by rw[HP.out,HX.out]) (hBA _ _ hk7s (((Below.refl _ W).drew).trans hx9)) rfl⟩
  ·go_simp
   refine hK _ _ ?_
   clear hK K
   refine wpAny_ready (rs:=[1,7]) (by kernel_rfl) (by simp) ?_
   refine AllReady.cons rfl (fun K hK=> ?_) (AllReady.cons rfl (fun K hK=> ?_) AllReady.nil)
   ·go_simp
    refine hK _ _ ?_
    clear hK K
    refine wpAny_ready (rs:=[2,7]) (by kernel_rfl) (by simp) ?_
    refine AllReady.cons rfl (fun K hK=> ?_) (AllReady.cons rfl (fun K hK=> ?_) AllReady.nil)
    ·go_simp
     refine hK _ _ ?_
     clear hK K
     refine wpAny_ready (rs:=[7]) (by kernel_rfl) (by simp) ?_
     refine AllReady.cons rfl (fun K hK=> ?_) AllReady.nil
     go_simp
     refine hK _ _ ?_
     clear hK K
     refine wpAny_ready (rs:=[8]) (by kernel_rfl) (by simp) ?_
     refine AllReady.cons rfl (fun K hK=> ?_) AllReady.nil
     go_simp
     refine hK _ _ ?_
     clear hK K
     refine wpAny_ready (rs:=[9]) (by kernel_rfl) (by simp) ?_
     refine AllReady.cons rfl (fun K hK=> ?_) AllReady.nil
     go_simp
     refine(unless_no _ _).mono ?_
     rintro e w9 ⟨rfl,hx9⟩
     exact⟨rfl,EndX.no (by rw[HP.out,HX.out]) (hBA _ _ hk7s (((Below.refl _ W).drew).trans hx9)) rfl⟩
    ·go_simp
     refine hK _ _ ?_
     clear hK K
     refine wpAny_ready (rs:=[2]) (by kernel_rfl) (by simp) ?_
     refine AllReady.cons rfl (fun K hK=> ?_) AllReady.nil
     go_simp
     refine hK _ _ ?_
     clear hK K
     refine wpAny_ready (rs:=[8]) (by kernel_rfl) (by simp) ?_
     refine AllReady.cons rfl (fun K hK=> ?_) AllReady.nil
     go_simp
     refine hK _ _ ?_
     clear hK K
     refine wpAny_ready (rs:=[9]) (by kernel_rfl) (by simp) ?_
     refine AllReady.cons rfl (fun K hK=> ?_) AllReady.nil
     go_simp
     refine(unless_no _ _).mono ?_
     rintro e w9 ⟨rfl,hx9⟩
     exact⟨rfl,EndX.no (by rw[HP.out,HX.out]) (hBA _ _ hk7s (((Below.refl _ W).drew).trans hx9)) rfl⟩
   ·go_simp
    refine hK _ _ ?_
    clear hK K
    refine wpAny_ready (rs:=[1]) (by kernel_rfl) (by simp) ?_
    refine AllReady.cons rfl (fun K hK=> ?_) AllReady.nil
    go_simp
    refine hK _ _ ?_
    clear hK K
    refine wpAny_ready (rs:=[2]) (by kernel_rfl) (by simp) ?_
    refine AllReady.cons rfl (fun K hK=> ?_) AllReady.nil
    go_simp
    refine hK _ _ ?_
    clear hK K
    refine wpAny_ready (rs:=[8]) (by kernel_rfl) (by simp) ?_
    refine AllReady.cons rfl (fun K hK=> ?_) AllReady.nil
    go_simp
    refine hK _ _ ?_
    clear hK K
    refine wpAny_ready (rs:=[9]) (by kernel_rfl) (by simp) ?_
    refine AllReady.cons rfl (fun K hK=> ?_) AllReady.nil
    go_simp
    refine(unless_no _ _).mono ?_
    rintro e w9 ⟨rfl,hx9⟩
    exact⟨rfl,EndX.no (by rw[HP.out,HX.out]) (hBA _ _ hk7s (((Below.refl _ W).drew).trans hx9)) rfl⟩
end Go.Proofs.YtgbpekeoegfjpaaGreatDoor
/- Laws: tables of functions by words. -/
namespace Go.Proofs.YtgbpekeoegfjpaaGreatDoor
open Go.RowKit
variable (A1 A2 A3 A4 : Option Addr) (c1 c2 c3 c4 : Nat) (f : Pl.Fld)
theorem ba_beq (a b:ByteArray):(a==b)=decide (a=b):=by
 by_cases h:a=b
 ·subst h
  rw[decide_eq_true rfl]
  cases a with
  |mk d=>exact(show(d==d)=true by simp)
 ·rw[decide_eq_false h]
  cases a with
  | mk d=>cases b with
   |mk d'=>
    show(d==d')=false
    simpa using fun e=>h (by rw[e])
theorem push_set (hs:Array Obj)(a b:Obj):(hs.push a).setIfInBounds hs.size b=hs.push b:=by
 apply Array.ext_getElem?
 intro i
 rw[Array.getElem?_setIfInBounds,Array.getElem?_push,Array.getElem?_push,Array.size_push]
 by_cases h:i=hs.size
 ·subst h;simp
 ·rw[if_neg h,if_neg (fun e=>h e.symm),if_neg h]
theorem run_ins {mty kt et:TypeId}(w:World)(es:Array MapEntry)(k:Nat)(s:ByteArray)(v:Value)(hm:Tryz.prog.underlying mty=some (.map kt et))(hk:Tryz.prog.underlying kt=some .string)(hf:Instr.findNow .string (.string s) es.toList 0=some none):
  (Instr.mapUpdate mty (.map (some w.heap.size)) (.string s) v).run Tryz.prog (w.alloc (.map es k))=.ok () (w.alloc (.map (es.push {key:=.string s,val:=v,born:=k}) (k+1))):=by
 have hb:(w.alloc (.map es k)).heap[w.heap.size]?=some (.map es k):=heap_alloc_new _ _
 have hc:(Instr.checkKey false 10000 kt (.string s)).run Tryz.prog (w.alloc (.map es k))=.ok () (w.alloc (.map es k)):=MapKept.run_checkKey (k:=.string s) hk (by simp[MapKept.IsKey]) false 9999
 simp[Instr.mapUpdate,run_underlying hm,MapKept.run_getObj_map hb,hc,MapKept.run_findKey hk hf,MapKept.run_setObj_map _ hb,Result.andThen]
 show({w with heap:=(w.heap.push _).setIfInBounds w.heap.size _}:World)= {w with heap:=w.heap.push _}
 rw[push_set]
theorem run_look {mty kt et:TypeId}(W:World)(r:Nat)(es:Array MapEntry)(k i:Nat)(s:ByteArray)(v:Value)(hm:Tryz.prog.underlying mty=some (.map kt et))(hk:Tryz.prog.underlying kt=some .string)(hb:W.heap[r]?=some (.map es k))(hf:Instr.findNow .string (.string s) es.toList 0=some (some (i,v))):
  (Instr.lookup mty (.map (some r)) (.string s) true).run Tryz.prog W=.ok (.tuple #[v,.bool true]) W:=by
 have hc: ∀b,(Instr.checkKey b 10000 kt (.string s)).run Tryz.prog W=.ok () W:=fun b=>MapKept.run_checkKey (k:=.string s) hk (by simp[MapKept.IsKey]) b 9999
 simp[Instr.lookup,run_underlying hm,MapKept.run_getObj_map hb,hc,MapKept.run_findKey hk hf,Result.andThen]
theorem run_miss {mty kt et:TypeId}(W:World)(r:Nat)(es:Array MapEntry)(k:Nat)(s:ByteArray)(z:Value)(hm:Tryz.prog.underlying mty=some (.map kt et))(hk:Tryz.prog.underlying kt=some .string)(hz: ∀W,(zeroValue et).run Tryz.prog W=.ok z W)(hb:W.heap[r]?=some (.map es k))(hf:Instr.findNow .string (.string s) es.toList 0=some none):
  (Instr.lookup mty (.map (some r)) (.string s) true).run Tryz.prog W=.ok (.tuple #[z,.bool false]) W:=by
 have hc: ∀b,(Instr.checkKey b 10000 kt (.string s)).run Tryz.prog W=.ok () W:=fun b=>MapKept.run_checkKey (k:=.string s) hk (by simp[MapKept.IsKey]) b 9999
 simp[Instr.lookup,run_underlying hm,MapKept.run_getObj_map hb,hc,MapKept.run_findKey hk hf,Result.andThen,hz]
end Go.Proofs.YtgbpekeoegfjpaaGreatDoor
/- Walks: the table of the forms of a field's lines; a line of a field. -/
namespace Go.Proofs.YtgbpekeoegfjpaaGreatDoor
open Go.RowKit
variable (A1 A2 A3 A4 : Option Addr) (c1 c2 c3 c4 : Nat) (f : Pl.Fld)
def fForms :Array MapEntry:= #[⟨.string Pl.wStation,.func (.func 202) #[] #[],0⟩,⟨.string Pl.wLimit,.func (.func 203) #[] #[],1⟩,⟨.string Pl.wParcel,.func (.func 204) #[] #[],2⟩,⟨.string Pl.wVariation,.func (.func 207) #[] #[],3⟩]
theorem fieldForms_a (w:World):Calls Tryz.prog 146 #[] w fun e w'=>e=.returned (.map (some w.heap.size))∧w'=w.alloc (.map fForms 4):=by
 have h0:=run_makeMap_plain (P:=Tryz.prog) w 184
 have h1:=run_ins w #[] 0 ⟨#[115,116,97,116,105,111,110]⟩ (.func (.func 202) #[] #[]) Tryz.underlying184 Tryz.underlying9 rfl
 have h2:=run_ins w #[⟨.string ⟨#[115,116,97,116,105,111,110]⟩,.func (.func 202) #[] #[],0⟩] 1 ⟨#[108,105,109,105,116]⟩ (.func (.func 203) #[] #[]) Tryz.underlying184 Tryz.underlying9 rfl
 have h3:=run_ins w #[⟨.string ⟨#[115,116,97,116,105,111,110]⟩,.func (.func 202) #[] #[],0⟩,⟨.string ⟨#[108,105,109,105,116]⟩,.func (.func 203) #[] #[],1⟩] 2 ⟨#[112,97,114,99,101,108]⟩ (.func (.func 204) #[] #[]) Tryz.underlying184 Tryz.underlying9 rfl
 have h4:=run_ins w #[⟨.string ⟨#[115,116,97,116,105,111,110]⟩,.func (.func 202) #[] #[],0⟩,⟨.string ⟨#[108,105,109,105,116]⟩,.func (.func 203) #[] #[],1⟩,⟨.string ⟨#[112,97,114,99,101,108]⟩,.func (.func 204) #[] #[],2⟩] 3 ⟨#[118,97,114,105,97,116,105,111,110]⟩ (.func (.func 207) #[] #[]) Tryz.underlying184 Tryz.underlying9 rfl
 simp only[List.push_toArray,List.nil_append,List.cons_append]at h1 h2 h3 h4
 go_enter Tryz.func146,Tryz.ntmps146
 go_wp2
 go_ret
 exact⟨rfl,rfl⟩
set_option maxRecDepth 20000 in
theorem caught_up (be:Nat)(E y:Int)(w:World)(he:w.heap[be]?=some (.cells #[.int .i64 y] 29 (0,0))):
  CallsD Tryz.prog 96 #[.pointer (some ⟨be,0,none⟩)] (.panicking (gave E)) w fun e u' w'=>
   e=.returned (.tuple #[])∧u'=.panicking [{v:=.iface 209 (.int .i64 E),recovered:=true}]∧w'=w.setCell ⟨be,0,none⟩ (.int .i64 E):=by
 obtain⟨hce,hfe⟩:=blk_cells he
 have hbe:=(lO he)
 have hta: ∀w:World,(Instr.typeAssert (.iface 209 (.int .i64 E)) 20 209 true).run Tryz.prog w=.ok (.tuple #[.int .i64 E,.bool true]) w:=fun _=>by kernel_rfl
 refine callsD_of_wpS Tryz.func96 rfl fun c₀ cs hu=> ?_
 apply wpS_seq
 apply wpS_region
 simp[wpOpsS,go_sem,recoverD,hu,Tryz.ntmps96,Exit.thenS]
 refine wpS_of_wp ?_
 rw[show(#[Value.pointer (some ⟨be,0,none⟩)]++(Array.replicate 13 undef).setIfInBounds 4 (Value.iface 209 (.int .i64 E)):Array Value)=
  #[.pointer (some ⟨be,0,none⟩),undef,undef,undef,undef,.iface 209 (.int .i64 E),undef,undef,undef,undef,undef,undef,undef,undef] from rfl]
 go_wp2
 exact⟨rfl,_,rfl,_,results_none rfl _ _ _,rfl,rfl,rfl⟩
set_option maxRecDepth 20000 in
theorem caught_idle (be:Nat)(w:World):
  CallsD Tryz.prog 96 #[.pointer (some ⟨be,0,none⟩)] .returning w fun e u' w'=>e=.returned (.tuple #[])∧u'=.returning∧w'=w:=by
 refine callsD_of_wpS Tryz.func96 rfl fun c₀ cs hu=> ?_
 apply wpS_seq
 apply wpS_region
 simp[wpOpsS,go_sem,recoverD,hu,Tryz.ntmps96,Exit.thenS]
 refine wpS_of_wp ?_
 rw[show(#[Value.pointer (some ⟨be,0,none⟩)]++(Array.replicate 13 undef).setIfInBounds 4 .nilIface:Array Value)=
  #[.pointer (some ⟨be,0,none⟩),undef,undef,undef,undef,.nilIface,undef,undef,undef,undef,undef,undef,undef,undef] from rfl]
 go_wp2
 cases c₀
 simp_all[bodyPostS,results,Tryz.results96]
end Go.Proofs.YtgbpekeoegfjpaaGreatDoor
/- Walk: a line of a field. -/
namespace Go.Proofs.YtgbpekeoegfjpaaGreatDoor
open Go.RowKit
variable (A1 A2 A3 A4 : Option Addr) (c1 c2 c3 c4 : Nat) (f : Pl.Fld)
theorem fieldForms_b (w:World):Calls Tryz.prog 146 #[] w fun e w'=>e=.returned (.map (some w.heap.size))∧w'.heap[w.heap.size]?=some (.map fForms 4)∧Below w.heap.size w w':=
 (fieldForms_a w).mono fun _ _ ⟨he,hw⟩=>⟨he,by rw[hw];exact heap_alloc_new _ _,by rw[hw];exact(Below.refl _ w).alloc (Nat.le_refl _) _⟩
theorem rest_of {w:World}{B b off c:Nat}{k:ByteArray}{ws:List ByteArray}(h:Nms w B (some ⟨b,off,none⟩) (k::ws))(hc:ws.length+1<=c):
  (c=1->ws=[])∧(¬c=1->Nms w B (some ⟨b,off+1,none⟩) ws∧ws.length<=c-1):=
 ⟨fun h1=>List.length_eq_zero_iff.1 (by omega),fun _=>⟨nms_tail h,by omega⟩⟩
def Oz (bf:Nat)(v1 v2 v3 v4:Value)(i:Nat):Prop:=i=bf∨Oy v1 v2 v3 v4 i
def EndL (bf:Nat)(v1 v2 v3 v4:Value)(w:World)(r:Except Int Pl.Fld)(e:Ending)(w':World):Prop:=
 BelowE bf (Oz bf v1 v2 v3 v4) w w'∧match r with
  | .ok f=>e=.returned (.int .i64 0)∧ ∃u1 u2 u3 u4,FInv bf f w' u1 u2 u3 u4∧New (Oz bf v1 v2 v3 v4) w.heap.size u1 u2 u3 u4
  | .error E=>e=.returned (.int .i64 E)
theorem FInv.keptE {bf:Nat}{f:Pl.Fld}{W:World}{v1 v2 v3 v4:Value}(h:FInv bf f W v1 v2 v3 v4){be:Nat}{cs:Array Value}(hb:W.heap[be]?=some (.cells cs 29 (0,0)))(u:Value):FInv bf f (W.setCell ⟨be,0,none⟩ u) v1 v2 v3 v4:=by
 have hne:some bf≠some be:=by
  intro e;cases e;rw[h.box]at hb;cases hb
 have hg:=grown_set W be 0 u
 exact⟨(hg.block bf h.lt hne).trans h.box,h.o1.kept hg (.inr (own_ne h.o1 hb (by decide))),h.o2.kept hg (.inr (own_ne h.o2 hb (by decide))),h.o3.kept hg (.inr (own_ne h.o3 hb (by decide))),h.o4.kept hg (.inr (own_ne h.o4 hb (by decide)))⟩
theorem FInv.oy {bf:Nat}{f:Pl.Fld}{W:World}{v1 v2 v3 v4:Value}(h:FInv bf f W v1 v2 v3 v4){i:Nat}(hi:Oy v1 v2 v3 v4 i):bf<i∧i<W.heap.size:=by
 rcases hi with e|e|e|e
 ·have:=h.o1.lt i e;omega
 ·have:=h.o2.lt i e;omega
 ·have:=h.o3.lt i e;omega
 ·have:=h.o4.lt i e;omega
theorem BelowE.set {bf:Nat}{X:Nat->Prop}{w w':World}(h:BelowE bf X w w')(hb:bf<=w.heap.size)(u:Value):BelowE bf X w (w'.setCell ⟨w.heap.size,0,none⟩ u):=
 ⟨h.b.setCell (p:=⟨w.heap.size,0,none⟩) hb _,fun i hi hx=>(Below.heap_setCell _ _ _ _ (by simp;omega)).trans (h.k i hi hx)⟩
theorem form_in {bf:Nat}{f:Pl.Fld}{v1 v2 v3 v4:Value}{ws:List ByteArray}{g:FuncId}{r:Except Int Pl.Fld}{w w1:World}(hE:Env w)(hF:FInv bf f w v1 v2 v3 v4)(h8:8<=bf)
  (hform: ∀W br,Env W->Rd W br ws->FInv bf f W v1 v2 v3 v4->bf<br->Calls Tryz.prog g #[.pointer (some ⟨bf,0,none⟩),.pointer (some ⟨br,0,none⟩)] W (EndX bf (Ox bf br v1 v2 v3 v4) W r))
  (hb1:Below w.heap.size w w1) (ke1:w1.heap[w.heap.size]?=some (.cells #[.int .i64 0] 29 (0,0))) (A:Option Addr) (c:Nat) (hn:Nms w w.heap.size A ws) (hl:ws.length<=c):
  Calls Tryz.prog g #[.pointer (some ⟨bf,0,none⟩),.pointer (some ⟨w1.heap.size,0,none⟩)] (w1.alloc (.cells #[.slice A ws.length c] 188)) fun e w2=>
   w2.heap[w.heap.size]?=some (.cells #[.int .i64 0] 29 (0,0))∧BelowE bf (Oz bf v1 v2 v3 v4) w w2∧match r with
    | .ok f=>e=.returned (.tuple #[])∧ ∃u1 u2 u3 u4,FInv bf f w2 u1 u2 u3 u4∧New (Oz bf v1 v2 v3 v4) w.heap.size u1 u2 u3 u4
    | .error E=>e=.panicked (gave E):=by
 have hbf:=hF.lt
 have hsz:=hb1.size
 have hlt1:=(lO ke1)
 have hba:Below w.heap.size w (w1.alloc (.cells #[.slice A ws.length c] 188)):=hb1.alloc (by omega) _
 have hsa:(w1.alloc (.cells #[.slice A ws.length c] 188)).heap.size=w1.heap.size+1:=by simp
 refine(hform _ _ (hE.below (B:=w.heap.size) hba (by omega)) ⟨A,c,heap_alloc_new _ _,(hn.below hba).more hsz,hl⟩ (hF.below hba) (by omega)).mono ?_
 rintro e w2 ⟨hx,hm⟩
 refine⟨?_,⟨(hba.mono (by omega)).trans hx.b,fun i hi hxi=> ?_⟩,?_⟩
 ·refine(hx.k w.heap.size (by omega) ?_).trans ((Below.heap_alloc _ _ _ hlt1).trans ke1)
  rintro(h|h|h)
  ·omega
  ·omega
  ·have:=hF.oy h;omega
 ·refine(hx.k i (by omega) ?_).trans (hba.block i hi)
  rintro(h|h|h)
  ·exact hxi (.inl h)
  ·omega
  ·exact hxi (.inr h)
 ·cases r with
  |error E=>exact hm
  |ok f'=>
   obtain⟨he,u1,u2,u3,u4,hF',hN⟩:=hm
   refine⟨he,u1,u2,u3,u4,hF',fun i hi=> ?_⟩
   rcases hN i hi with (h|h|h)|h
   ·exact .inl (.inl h)
   ·exact .inr (by omega)
   ·exact .inl (.inr h)
   ·exact .inr (by omega)
set_option maxHeartbeats 4000000 in
theorem fieldLine_form (bf:Nat)(f:Pl.Fld)(v1 v2 v3 v4:Value)(A:Option Addr)(c:Nat)(k:ByteArray)(ws:List ByteArray)(g:FuncId)(r:Except Int Pl.Fld)(w:World)(hE:Env w)(hF:FInv bf f w v1 v2 v3 v4)(h8:8<=bf)
  (hw:Nms w w.heap.size A (k::ws)) (hc:ws.length+1<=c) (hm:ws.length<=100000)
  (hen: ∀args w,(callFunc g args).run Tryz.prog w=.ok (.enter g args) w)
  (hlk: ∀W b,W.heap[b]?=some (.map fForms 4)->(Instr.lookup 184 (.map (some b)) (.string k) true).run Tryz.prog W=.ok (.tuple #[.func (.func g) #[] #[],.bool true]) W)
  (hform: ∀W br,Env W->Rd W br ws->FInv bf f W v1 v2 v3 v4->bf<br->Calls Tryz.prog g #[.pointer (some ⟨bf,0,none⟩),.pointer (some ⟨br,0,none⟩)] W (EndX bf (Ox bf br v1 v2 v3 v4) W r)):
  Calls Tryz.prog 73 #[.pointer (some ⟨bf,0,none⟩),.slice A (ws.length+1) c] w (EndL bf v1 v2 v3 v4 w r):=by
 have hbf:=hF.lt
 obtain⟨b,off,rfl,hb,q0⟩:=Nms.at1 hw (k:=0) (by simp)
 simp only[Nat.add_zero,List.getElem_cons_zero]at q0
 have ke:=heap_alloc_new w (.cells #[.int .i64 0] 29)
 have q1:(w.alloc (.cells #[.int .i64 0] 29)).cell? ⟨b,off,none⟩=some (.string k):=(World.cell?_of_block (Below.heap_alloc _ _ _ hb)).trans q0
 have e1:(0:Int)<((ws.length:Nat):Int)+1:=by omega
 go_enter_defers Tryz.func73,Tryz.ntmps73
 go_wp2_with fail
 go_region_held3 (fun W=>W.cell? ⟨b,off,none⟩=some (.string k)) (first|exact q1|exact q2) ((go_at_call 146;refine(fieldForms_b _).mono ?_;rintro e w1 ⟨rfl,hmap,hx⟩;have hb1:Below w.heap.size w w1:=Below.trans (by go_grown) (hx.mono (by go_size));have hmap:w1.heap[w.heap.size+1]?=some (.map fForms 4):=(by simpa using hmap);have ke1:=(hx.block w.heap.size (by simp)).trans ke;have q2:=(hx.cell (p:=⟨b,off,none⟩) (by simp;omega)).trans q1;have hlk1:=hlk w1 _ hmap;clear hx))
 all_goals go_wp2_with ((go_at_call 97;refine(unless_yes _ _).mono ?_;rintro e w' ⟨rfl,rfl⟩))
 all_goals have hin:=form_in hE hF h8 hform hb1 ke1
 ·have hws:=(rest_of hw hc).1 ‹_›
  refine(hin _ 0 (by rw[hws];exact .inl rfl) (by simp[hws])).mono ?_
  rintro e w2 ⟨ke2,hB,hm⟩
  obtain⟨hce,hfe⟩:=blk_cells ke2
  cases r with
  |ok f'=>
   obtain⟨rfl,u1,u2,u3,u4,hF2,hN2⟩:=hm
   have hf2:=hF2.keptE ke2 (.int .i64 0)
   go_wp2
   refine leaves_cons (f:=96) (args:= #[.pointer (some ⟨w.heap.size,0,none⟩)]) (by simp) (by simp[go_sem]) ?_
   refine(caught_idle _ _).mono ?_
   rintro e u' w'' ⟨rfl,rfl,rfl⟩
   simp[Leaves,settle,results,Tryz.results73,go_sem,hce]
   exact⟨hB.set (by omega) _,rfl,_,_,_,_,hf2,hN2⟩
  |error E=>
   subst hm
   go_wp2
   refine leaves_cons (f:=96) (args:= #[.pointer (some ⟨w.heap.size,0,none⟩)]) (by simp) (by simp[go_sem]) ?_
   refine(caught_up _ _ _ _ ke2).mono ?_
   rintro e u' w'' ⟨rfl,rfl,rfl⟩
   simp[Leaves,settle,results,Tryz.results73,go_sem,hce]
   exact⟨hB.set (by omega) _,rfl⟩
 ·obtain⟨hn,hl⟩:=(rest_of hw hc).2 ‹_›
  refine(hin _ (c-1) hn hl).mono ?_
  rintro e w2 ⟨ke2,hB,hm⟩
  obtain⟨hce,hfe⟩:=blk_cells ke2
  cases r with
  |ok f'=>
   obtain⟨rfl,u1,u2,u3,u4,hF2,hN2⟩:=hm
   have hf2:=hF2.keptE ke2 (.int .i64 0)
   go_wp2
   refine leaves_cons (f:=96) (args:= #[.pointer (some ⟨w.heap.size,0,none⟩)]) (by simp) (by simp[go_sem]) ?_
   refine(caught_idle _ _).mono ?_
   rintro e u' w'' ⟨rfl,rfl,rfl⟩
   simp[Leaves,settle,results,Tryz.results73,go_sem,hce]
   exact⟨hB.set (by omega) _,rfl,_,_,_,_,hf2,hN2⟩
  |error E=>
   subst hm
   go_wp2
   refine leaves_cons (f:=96) (args:= #[.pointer (some ⟨w.heap.size,0,none⟩)]) (by simp) (by simp[go_sem]) ?_
   refine(caught_up _ _ _ _ ke2).mono ?_
   rintro e u' w'' ⟨rfl,rfl,rfl⟩
   simp[Leaves,settle,results,Tryz.results73,go_sem,hce]
   exact⟨hB.set (by omega) _,rfl⟩
end Go.Proofs.YtgbpekeoegfjpaaGreatDoor
/- Walks: the table of the forms of calls; the words of a call read. -/
namespace Go.Proofs.YtgbpekeoegfjpaaGreatDoor
open Go.RowKit
variable (A1 A2 A3 A4 : Option Addr) (c1 c2 c3 c4 : Nat) (f : Pl.Fld)
def cForms :Array MapEntry:= #[⟨.string Pl.wStone,.func (.func 222) #[] #[],0⟩,⟨.string Pl.wWidth,.func (.func 224) #[] #[],1⟩,⟨.string Pl.wAlong,.func (.func 226) #[] #[],2⟩,⟨.string Pl.wLevel,.func (.func 228) #[] #[],3⟩,⟨.string Pl.wCourse,.func (.func 230) #[] #[],4⟩]
theorem callForms_a (w:World):Calls Tryz.prog 167 #[] w fun e w'=>e=.returned (.map (some w.heap.size))∧w'=w.alloc (.map cForms 5):=by
 have h0:=run_makeMap_plain (P:=Tryz.prog) w 213
 have h1:=run_ins w #[] 0 ⟨#[115,116,111,110,101]⟩ (.func (.func 222) #[] #[]) Tryz.underlying213 Tryz.underlying9 rfl
 have h2:=run_ins w #[⟨.string ⟨#[115,116,111,110,101]⟩,.func (.func 222) #[] #[],0⟩] 1 ⟨#[119,105,100,116,104]⟩ (.func (.func 224) #[] #[]) Tryz.underlying213 Tryz.underlying9 rfl
 have h3:=run_ins w #[⟨.string ⟨#[115,116,111,110,101]⟩,.func (.func 222) #[] #[],0⟩,⟨.string ⟨#[119,105,100,116,104]⟩,.func (.func 224) #[] #[],1⟩] 2 ⟨#[97,108,111,110,103]⟩ (.func (.func 226) #[] #[]) Tryz.underlying213 Tryz.underlying9 rfl
 have h4:=run_ins w #[⟨.string ⟨#[115,116,111,110,101]⟩,.func (.func 222) #[] #[],0⟩,⟨.string ⟨#[119,105,100,116,104]⟩,.func (.func 224) #[] #[],1⟩,⟨.string ⟨#[97,108,111,110,103]⟩,.func (.func 226) #[] #[],2⟩] 3 ⟨#[108,101,118,101,108]⟩ (.func (.func 228) #[] #[]) Tryz.underlying213 Tryz.underlying9 rfl
 have h5:=run_ins w #[⟨.string ⟨#[115,116,111,110,101]⟩,.func (.func 222) #[] #[],0⟩,⟨.string ⟨#[119,105,100,116,104]⟩,.func (.func 224) #[] #[],1⟩,⟨.string ⟨#[97,108,111,110,103]⟩,.func (.func 226) #[] #[],2⟩,⟨.string ⟨#[108,101,118,101,108]⟩,.func (.func 228) #[] #[],3⟩] 4 ⟨#[99,111,117,114,115,101]⟩ (.func (.func 230) #[] #[]) Tryz.underlying213 Tryz.underlying9 rfl
 simp only[List.push_toArray,List.nil_append,List.cons_append]at h1 h2 h3 h4 h5
 go_enter Tryz.func167,Tryz.ntmps167
 go_wp2
 go_ret
 exact⟨rfl,rfl⟩
theorem callForms_b (w:World):Calls Tryz.prog 167 #[] w fun e w'=>e=.returned (.map (some w.heap.size))∧w'.heap[w.heap.size]?=some (.map cForms 5)∧Below w.heap.size w w':=
 (callForms_a w).mono fun _ _ ⟨he,hw⟩=>⟨he,by rw[hw];exact heap_alloc_new _ _,by rw[hw];exact(Below.refl _ w).alloc (Nat.le_refl _) _⟩
theorem lkc_stone (W:World)(b:Nat)(hb:W.heap[b]?=some (.map cForms 5)):(Instr.lookup 213 (.map (some b)) (.string Pl.wStone) true).run Tryz.prog W=.ok (.tuple #[.func (.func 222) #[] #[],.bool true]) W:=
 run_look W b cForms 5 0 _ _ Tryz.underlying213 Tryz.underlying9 hb (by kernel_rfl)
theorem lkc_width (W:World)(b:Nat)(hb:W.heap[b]?=some (.map cForms 5)):(Instr.lookup 213 (.map (some b)) (.string Pl.wWidth) true).run Tryz.prog W=.ok (.tuple #[.func (.func 224) #[] #[],.bool true]) W:=
 run_look W b cForms 5 1 _ _ Tryz.underlying213 Tryz.underlying9 hb (by kernel_rfl)
theorem lkc_along (W:World)(b:Nat)(hb:W.heap[b]?=some (.map cForms 5)):(Instr.lookup 213 (.map (some b)) (.string Pl.wAlong) true).run Tryz.prog W=.ok (.tuple #[.func (.func 226) #[] #[],.bool true]) W:=
 run_look W b cForms 5 2 _ _ Tryz.underlying213 Tryz.underlying9 hb (by kernel_rfl)
theorem lkc_level (W:World)(b:Nat)(hb:W.heap[b]?=some (.map cForms 5)):(Instr.lookup 213 (.map (some b)) (.string Pl.wLevel) true).run Tryz.prog W=.ok (.tuple #[.func (.func 228) #[] #[],.bool true]) W:=
 run_look W b cForms 5 3 _ _ Tryz.underlying213 Tryz.underlying9 hb (by kernel_rfl)
theorem lkc_course (W:World)(b:Nat)(hb:W.heap[b]?=some (.map cForms 5)):(Instr.lookup 213 (.map (some b)) (.string Pl.wCourse) true).run Tryz.prog W=.ok (.tuple #[.func (.func 230) #[] #[],.bool true]) W:=
 run_look W b cForms 5 4 _ _ Tryz.underlying213 Tryz.underlying9 hb (by kernel_rfl)
theorem findc_miss (k:ByteArray)(h1:k≠Pl.wStone)(h2:k≠Pl.wWidth)(h3:k≠Pl.wAlong)(h4:k≠Pl.wLevel)(h5:k≠Pl.wCourse):Instr.findNow .string (.string k) cForms.toList 0=some none:=by
 have e1:(k==Pl.wStone)=false:=by rw[ba_beq];exact decide_eq_false h1
 have e2:(k==Pl.wWidth)=false:=by rw[ba_beq];exact decide_eq_false h2
 have e3:(k==Pl.wAlong)=false:=by rw[ba_beq];exact decide_eq_false h3
 have e4:(k==Pl.wLevel)=false:=by rw[ba_beq];exact decide_eq_false h4
 have e5:(k==Pl.wCourse)=false:=by rw[ba_beq];exact decide_eq_false h5
 simp[cForms,Instr.findNow,Instr.sameNow,e1,e2,e3,e4,e5]
theorem lkc_miss (k:ByteArray)(h1:k≠Pl.wStone)(h2:k≠Pl.wWidth)(h3:k≠Pl.wAlong)(h4:k≠Pl.wLevel)(h5:k≠Pl.wCourse)(W:World)(b:Nat)(hb:W.heap[b]?=some (.map cForms 5)):(Instr.lookup 213 (.map (some b)) (.string k) true).run Tryz.prog W=.ok (.tuple #[.nilFunc,.bool false]) W:=
 run_miss W b cForms 5 k .nilFunc Tryz.underlying213 Tryz.underlying9 (fun W=>by kernel_rfl) hb (findc_miss k h1 h2 h3 h4 h5)
def EndFd (n₀:Nat)(w:World)(o:Option Pl.Frm)(e:Ending)(w':World):Prop:=
 Below n₀ w w'∧match o with
  |some x=> ∃v,e=.returned v∧FormOk n₀ w'.heap.size w' v x
  |none=>e=.panicked (gave 4)
theorem EndFd.ok {n₀:Nat}{w w':World}{o:Option Pl.Frm}{e:Ending}{x:Pl.Frm}{v:Value}(ho:o=some x)(hb:Below n₀ w w')(he:e=.returned v)(hF:FormOk n₀ w'.heap.size w' v x):EndFd n₀ w o e w':=by subst ho;exact⟨hb,v,he,hF⟩
theorem EndFd.no {n₀:Nat}{w w':World}{o:Option Pl.Frm}{e:Ending}(ho:o=none)(hb:Below n₀ w w')(he:e=.panicked (gave 4)):EndFd n₀ w o e w':=by subst ho;exact⟨hb,he⟩
theorem formed_nil (A:Option Addr)(c:Nat)(w:World):Calls Tryz.prog 100 #[.slice A 0 c] w (EndFd w.heap.size w (Pl.form [])):=by
 go_enter Tryz.func100,Tryz.ntmps100
 go_wp2_with (go_at_call 97;refine(unless_no _ _).mono ?_;rintro e w1 ⟨rfl,hx⟩)
 exact⟨rfl,EndFd.no rfl hx rfl⟩
set_option maxHeartbeats 4000000 in
theorem formed_miss (A:Option Addr)(c:Nat)(k:ByteArray)(ws:List ByteArray)(w:World)(hw:Nms w w.heap.size A (k::ws))(hm:ws.length<=100000)
  (hlk: ∀W b,W.heap[b]?=some (.map cForms 5)->(Instr.lookup 213 (.map (some b)) (.string k) true).run Tryz.prog W=.ok (.tuple #[.nilFunc,.bool false]) W):
  Calls Tryz.prog 100 #[.slice A (ws.length+1) c] w (EndFd w.heap.size w none):=by
 obtain⟨b,off,rfl,hb,q0⟩:=Nms.at1 hw (k:=0) (by simp)
 simp only[Nat.add_zero,List.getElem_cons_zero]at q0
 have e1:(0:Int)<((ws.length:Nat):Int)+1:=by omega
 go_enter Tryz.func100,Tryz.ntmps100
 go_wp2_with ((go_at_call 97;refine(unless_yes _ _).mono ?_;rintro e w' ⟨rfl,rfl⟩))
 go_region_held3 (fun W=>W.cell? ⟨b,off,none⟩=some (.string k)) (first|exact q0|exact q2) ((go_at_call 167;refine(callForms_b _).mono ?_;rintro e w1 ⟨rfl,hmap,hx⟩;have q2:=(hx.cell (p:=⟨b,off,none⟩) hb).trans q0;have hb1:Below w.heap.size w w1:=((Below.refl _ w).drew).trans hx;have hmap:w1.heap[w.heap.size]?=some (.map cForms 5):=(by simpa using hmap);have hlk1:=hlk w1 _ hmap;clear hx))
 all_goals go_wp2_with (go_at_call 97;refine(unless_no _ _).mono ?_;rintro e w2 ⟨rfl,hx⟩)
 all_goals exact⟨rfl,EndFd.no rfl (hb1.trans (hx.mono hb1.size)) rfl⟩
theorem whole_ok {o:Option (Pl.Frm×List ByteArray)}{x:Pl.Frm}(h:o=some (x,[])):whole o=some x:=by subst h;rfl
theorem whole_no {o:Option (Pl.Frm×List ByteArray)}(h:o=none):whole o=none:=by subst h;rfl
theorem whole_more {o:Option (Pl.Frm×List ByteArray)}{x:Pl.Frm}{z:ByteArray}{l:List ByteArray}(h:o=some (x,z::l)):whole o=none:=by subst h;rfl
set_option maxHeartbeats 4000000 in
theorem formed_form (A:Option Addr)(c:Nat)(k:ByteArray)(ws:List ByteArray)(g:FuncId)(R:Option (Pl.Frm×List ByteArray))(w:World)(hE:Env w)(hw:Nms w w.heap.size A (k::ws))(hc:ws.length+1<=c)(hm:ws.length<=100000)
  (hen: ∀args w,(callFunc g args).run Tryz.prog w=.ok (.enter g args) w)
  (hlk: ∀W b,W.heap[b]?=some (.map cForms 5)->(Instr.lookup 213 (.map (some b)) (.string k) true).run Tryz.prog W=.ok (.tuple #[.func (.func g) #[] #[],.bool true]) W)
  (hform: ∀W br,Env W->Rd W br ws->8<=br->w.heap.size<=W.heap.size->Calls Tryz.prog g #[.pointer (some ⟨br,0,none⟩)] W (EndFm w.heap.size br W R)):
  Calls Tryz.prog 100 #[.slice A (ws.length+1) c] w (EndFd w.heap.size w (whole R)):=by
 obtain⟨b,off,rfl,hb,q0⟩:=Nms.at1 hw (k:=0) (by simp)
 simp only[Nat.add_zero,List.getElem_cons_zero]at q0
 have e1:(0:Int)<((ws.length:Nat):Int)+1:=by omega
 have h8:=hE.size
 go_enter Tryz.func100,Tryz.ntmps100
 go_wp2_with ((go_at_call 97;refine(unless_yes _ _).mono ?_;rintro e w' ⟨rfl,rfl⟩))
 go_region_held3 (fun W=>W.cell? ⟨b,off,none⟩=some (.string k)) (first|exact q0|exact q2) ((go_at_call 167;refine(callForms_b _).mono ?_;rintro e w1 ⟨rfl,hmap,hx⟩;have q2:=(hx.cell (p:=⟨b,off,none⟩) hb).trans q0;have hb1:Below w.heap.size w w1:=((Below.refl _ w).drew).trans hx;have hmap:w1.heap[w.heap.size]?=some (.map cForms 5):=(by simpa using hmap);have hlk1:=hlk w1 _ hmap;clear hx))
 all_goals go_wp2_with ((go_at_call 97;refine(unless_yes _ _).mono ?_;rintro e w' ⟨rfl,rfl⟩))
 all_goals have hsz1:=hb1.size
 all_goals have hE1:Env w1:=hE.up hb1
 ·have hws:=(rest_of hw hc).1 ‹_›
  have hR:Rd (w1.alloc (.cells #[.slice (some ⟨b,off,none⟩) ws.length 0] 188)) w1.heap.size ws:=⟨some ⟨b,off,none⟩,0,heap_alloc_new _ _,.inl hws,by rw[hws];simp⟩
  have hBa:Below w.heap.size w (w1.alloc (.cells #[.slice (some ⟨b,off,none⟩) ws.length 0] 188)):=hb1.alloc hsz1 _
  refine(hform _ _ (hE.up hBa) hR (by omega) hBa.size).mono ?_
  rintro e w2 ⟨hg,hm⟩
  have hB2:Below w.heap.size w w2:=hBa.grown hg hBa.size (fun k e=>by cases e;omega)
  cases R with
  |none=>
   subst hm
   exact⟨rfl,EndFd.no (whole_no rfl) hB2 rfl⟩
  | some p=>
   obtain⟨x,rr⟩:=p
   obtain⟨⟨v,rfl,hF⟩,hR2⟩:=hm
   cases rr with
   |nil=>
    go_wp2_with (go_at_call 159;refine(end_yes _ _ hR2).mono ?_;rintro e w3 ⟨rfl,rfl⟩)
    go_ret
    exact EndFd.ok (whole_ok rfl) hB2 rfl hF
   |cons z l=>
    go_wp2_with (go_at_call 159;refine(end_no _ z l _ hR2).mono ?_;rintro e w3 ⟨rfl,hx3⟩)
    exact⟨rfl,EndFd.no (whole_more rfl) (hB2.trans (hx3.mono hB2.size)) rfl⟩
 ·obtain⟨hn,hl⟩:=(rest_of hw hc).2 ‹_›
  have hR:Rd (w1.alloc (.cells #[.slice (some ⟨b,off+1,none⟩) ws.length (c-1)] 188)) w1.heap.size ws:=⟨some ⟨b,off+1,none⟩,c-1,heap_alloc_new _ _,(hn.below (hb1.alloc hsz1 _)).more hsz1,hl⟩
  have hBa:Below w.heap.size w (w1.alloc (.cells #[.slice (some ⟨b,off+1,none⟩) ws.length (c-1)] 188)):=hb1.alloc hsz1 _
  refine(hform _ _ (hE.up hBa) hR (by omega) hBa.size).mono ?_
  rintro e w2 ⟨hg,hm⟩
  have hB2:Below w.heap.size w w2:=hBa.grown hg hBa.size (fun k e=>by cases e;omega)
  cases R with
  |none=>
   subst hm
   exact⟨rfl,EndFd.no (whole_no rfl) hB2 rfl⟩
  | some p=>
   obtain⟨x,rr⟩:=p
   obtain⟨⟨v,rfl,hF⟩,hR2⟩:=hm
   cases rr with
   |nil=>
    go_wp2_with (go_at_call 159;refine(end_yes _ _ hR2).mono ?_;rintro e w3 ⟨rfl,rfl⟩)
    go_ret
    exact EndFd.ok (whole_ok rfl) hB2 rfl hF
   |cons z l=>
    go_wp2_with (go_at_call 159;refine(end_no _ z l _ hR2).mono ?_;rintro e w3 ⟨rfl,hx3⟩)
    exact⟨rfl,EndFd.no (whole_more rfl) (hB2.trans (hx3.mono hB2.size)) rfl⟩
end Go.Proofs.YtgbpekeoegfjpaaGreatDoor
/- Walks: the words of a call read, whatever they are; a call made of them. -/
namespace Go.Proofs.YtgbpekeoegfjpaaGreatDoor
open Go.RowKit
variable (A1 A2 A3 A4 : Option Addr) (c1 c2 c3 c4 : Nat) (f : Pl.Fld)
theorem formed_a (A:Option Addr)(c:Nat)(ws:List ByteArray)(w:World)(hE:Env w)(hw:Nms w w.heap.size A ws)(hc:ws.length<=c)(hs:Sizes ws):
  Calls Tryz.prog 100 #[.slice A ws.length c] w (EndFd w.heap.size w (Pl.form ws)):=by
 cases ws with
 |nil=>exact formed_nil A c w
 | cons k ws=>
  obtain⟨_,hm,hs'⟩:=hs.tail
  by_cases h1:k=Pl.wStone
  ·subst h1
   rw[form_stone]
   exact formed_form A c _ ws 222 _ w hE hw hc hm (fun _ _=>by simp[go_sem]) lkc_stone (fun W br hE hR hbr hn=>read_stone w.heap.size br ws W hE hR hbr hs' hn)
  by_cases h2:k=Pl.wWidth
  ·subst h2
   rw[form_width]
   exact formed_form A c _ ws 224 _ w hE hw hc hm (fun _ _=>by simp[go_sem]) lkc_width (fun W br hE hR hbr hn=>read_width w.heap.size br ws W hE hR hbr hs' hn)
  by_cases h3:k=Pl.wAlong
  ·subst h3
   rw[form_along]
   exact formed_form A c _ ws 226 _ w hE hw hc hm (fun _ _=>by simp[go_sem]) lkc_along (fun W br hE hR hbr hn=>read_along w.heap.size br ws W hE hR hbr hs' hn)
  by_cases h4:k=Pl.wLevel
  ·subst h4
   rw[form_level]
   exact formed_form A c _ ws 228 _ w hE hw hc hm (fun _ _=>by simp[go_sem]) lkc_level (fun W br hE hR hbr hn=>read_level w.heap.size br ws W hE hR hbr hs' hn)
  by_cases h5:k=Pl.wCourse
  ·subst h5
   rw[form_course]
   exact formed_form A c _ ws 230 _ w hE hw hc hm (fun _ _=>by simp[go_sem]) lkc_course (fun W br hE hR hbr hn=>read_course w.heap.size br ws W hE hR hbr hs' hn)
  ·rw[form_miss k ws h1 h2 h5 h3 h4]
   exact formed_miss A c k ws w hw hm (lkc_miss k h1 h2 h3 h4 h5)
theorem whole_some {o:Option (Pl.Frm×List ByteArray)}{x:Pl.Frm}(h:whole o=some x): ∃r,o=some (x,r):=by
 cases o with
 |none=>cases h
 |some p=>
  obtain⟨y,r⟩:=p
  unfold whole at h
  simp only[Option.bind_some]at h
  split at h
  ·cases h;exact⟨r,rfl⟩
  ·cases h
theorem stoneR_kind {ws r:List ByteArray}{x:Pl.Frm}(h:stoneR ws=some (x,r)):x.kind=1:=by
 unfold stoneR at h
 obtain⟨_,_,h⟩:=Option.bind_eq_some_iff.1 h
 obtain⟨_,_,h⟩:=Option.bind_eq_some_iff.1 h
 obtain⟨_,_,h⟩:=Option.bind_eq_some_iff.1 h
 obtain⟨_,_,h⟩:=Option.bind_eq_some_iff.1 h
 cases h
 rfl
theorem widthR_kind {ws r:List ByteArray}{x:Pl.Frm}(h:widthR ws=some (x,r)):x.kind=2:=by
 unfold widthR at h
 obtain⟨_,_,h⟩:=Option.bind_eq_some_iff.1 h
 obtain⟨_,_,h⟩:=Option.bind_eq_some_iff.1 h
 obtain⟨_,_,h⟩:=Option.bind_eq_some_iff.1 h
 obtain⟨_,_,h⟩:=Option.bind_eq_some_iff.1 h
 obtain⟨_,_,h⟩:=Option.bind_eq_some_iff.1 h
 cases h
 rfl
theorem alongR_kind {ws r:List ByteArray}{x:Pl.Frm}(h:alongR ws=some (x,r)):x.kind=4:=by
 unfold alongR at h
 obtain⟨_,_,h⟩:=Option.bind_eq_some_iff.1 h
 obtain⟨_,_,h⟩:=Option.bind_eq_some_iff.1 h
 obtain⟨_,_,h⟩:=Option.bind_eq_some_iff.1 h
 obtain⟨_,_,h⟩:=Option.bind_eq_some_iff.1 h
 cases h
 rfl
theorem levelR_kind {ws r:List ByteArray}{x:Pl.Frm}(h:levelR ws=some (x,r)):x.kind=5:=by
 unfold levelR at h
 obtain⟨_,_,h⟩:=Option.bind_eq_some_iff.1 h
 obtain⟨_,_,h⟩:=Option.bind_eq_some_iff.1 h
 obtain⟨_,_,h⟩:=Option.bind_eq_some_iff.1 h
 obtain⟨_,_,h⟩:=Option.bind_eq_some_iff.1 h
 obtain⟨_,_,h⟩:=Option.bind_eq_some_iff.1 h
 cases h
 rfl
theorem courseR_kind {ws r:List ByteArray}{x:Pl.Frm}(h:courseR ws=some (x,r)):x.kind=3:=by
 unfold courseR at h
 obtain⟨_,_,h⟩:=Option.bind_eq_some_iff.1 h
 obtain⟨_,_,h⟩:=Option.bind_eq_some_iff.1 h
 obtain⟨_,_,h⟩:=Option.bind_eq_some_iff.1 h
 obtain⟨_,_,h⟩:=Option.bind_eq_some_iff.1 h
 obtain⟨_,_,h⟩:=Option.bind_eq_some_iff.1 h
 obtain⟨_,_,h⟩:=Option.bind_eq_some_iff.1 h
 obtain⟨_,_,h⟩:=Option.bind_eq_some_iff.1 h
 obtain⟨_,_,h⟩:=Option.bind_eq_some_iff.1 h
 obtain⟨_,_,h⟩:=Option.bind_eq_some_iff.1 h
 obtain⟨_,_,h⟩:=Option.bind_eq_some_iff.1 h
 obtain⟨_,_,h⟩:=Option.bind_eq_some_iff.1 h
 obtain⟨_,_,h⟩:=Option.bind_eq_some_iff.1 h
 cases h
 rfl
theorem form_kind {ws:List ByteArray}{x:Pl.Frm}(h:Pl.form ws=some x):x.kind<=5:=by
 cases ws with
 |nil=>cases h
 | cons k r=>
  by_cases h1:k=Pl.wStone
  ·subst h1
   rw[form_stone]at h
   obtain⟨_,h⟩:=whole_some h
   have:=stoneR_kind h;omega
  by_cases h2:k=Pl.wWidth
  ·subst h2
   rw[form_width]at h
   obtain⟨_,h⟩:=whole_some h
   have:=widthR_kind h;omega
  by_cases h3:k=Pl.wAlong
  ·subst h3
   rw[form_along]at h
   obtain⟨_,h⟩:=whole_some h
   have:=alongR_kind h;omega
  by_cases h4:k=Pl.wLevel
  ·subst h4
   rw[form_level]at h
   obtain⟨_,h⟩:=whole_some h
   have:=levelR_kind h;omega
  by_cases h5:k=Pl.wCourse
  ·subst h5
   rw[form_course]at h
   obtain⟨_,h⟩:=whole_some h
   have:=courseR_kind h;omega
  ·rw[form_miss k r h1 h2 h5 h3 h4]at h
   cases h
theorem looked_kind {f:Pl.Fld}{x:Pl.Frm}{y:Int}{c:Pl.Cal}(h:Pl.looked f x y=some c):c.kind=x.kind:=by
 unfold Pl.looked at h
 obtain⟨l,_,h⟩:=Option.bind_eq_some_iff.1 h
 obtain⟨o,_,h⟩:=Option.bind_eq_some_iff.1 h
 obtain⟨s,_,h⟩:=Option.bind_eq_some_iff.1 h
 obtain⟨t,_,rfl⟩:=Option.map_eq_some_iff.1 h
 rfl
def EndMd (n₀:Nat)(w:World)(r:Except Int Pl.Cal)(e:Ending)(w':World):Prop:=
 Below n₀ w w'∧match r with
  | .ok c=>e=.returned (.agg (kq c))
  | .error E=>e=.panicked (gave E)
theorem EndMd.ok {n₀:Nat}{w w':World}{r:Except Int Pl.Cal}{e:Ending}(c:Pl.Cal)(hr:r=.ok c)(hb:Below n₀ w w')(he:e=.returned (.agg (kq c))):EndMd n₀ w r e w':=by subst hr;exact⟨hb,he⟩
theorem EndMd.no {n₀:Nat}{w w':World}{r:Except Int Pl.Cal}{e:Ending}(E:Int)(hr:r=.error E)(hb:Below n₀ w w')(he:e=.panicked (gave E)):EndMd n₀ w r e w':=by subst hr;exact⟨hb,he⟩
attribute [-go_sem] run_equalIn_agg storeVar loadVar
attribute [local go_sem] lv_int lv_bool lv_u8 lv_string lv_vars
def zCal :Array Value:=z13
set_option maxHeartbeats 4000000 in
theorem made_a (n₀ N:Nat)(v:Value)(x:Pl.Frm)(year:Int)(w:World)(hF:FormOk n₀ N w v x)(hN:N<=w.heap.size)(hx5:x.kind<=255)(hf:FldS w n₀ A1 A2 A3 A4 f)(hn:n₀<=w.heap.size)(hm:Small f)(hc:Caps c1 c2 c3 c4 f)(hE:Pl.fieldE f=0):
  Calls Tryz.prog 99 #[v,.agg (fq A1 A2 A3 A4 c1 c2 c3 c4 f),.int .i64 year] w (EndMd n₀ w (Pl.madeC f x year)):=by
 obtain⟨g,cap,rfl,hen,hF⟩:=hF
 have kf:=heap_alloc2_old w (.cells (fq A1 A2 A3 A4 c1 c2 c3 c4 f) 28) (.cells zCal 48)
 have kr:=heap_alloc2_new w (.cells (fq A1 A2 A3 A4 c1 c2 c3 c4 f) 28) (.cells zCal 48)
 have hb:Below w.heap.size w ((w.alloc (.cells (fq A1 A2 A3 A4 c1 c2 c3 c4 f) 28)).alloc (.cells zCal 48)):=((Below.refl _ w).alloc (Nat.le_refl _) _).alloc (by simp) _
 have hl1:=ld_row kf Tryz.underlying28 rfl info_fld
 have hz:((w.alloc (.cells (fq A1 A2 A3 A4 c1 c2 c3 c4 f) 28)).alloc (.cells zCal 48)).heap.size=w.heap.size+2:=by simp
 have hform:=hF _ hb A1 A2 A3 A4 c1 c2 c3 c4 f year (hf.below (hb.mono hn)) (by omega) hm
 unfold zCal at kf kr hb hl1 hz hform
 clear hF
 go_enter Tryz.func99,Tryz.ntmps99
 go_wp2_with fail
 refine hform.mono ?_
 rintro e w1 ⟨hx,hm1⟩
 have hbn:=(hb.mono hn).trans hx.b
 have hsz0:w.heap.size+2<=w1.heap.size:=by have:=hx.b.size;omega
 cases ho:Pl.looked f x year with
 |none=>
  rw[ho]at hm1
  subst hm1
  exact⟨rfl,EndMd.no 5 (by unfold Pl.madeC;rw[ho]) hbn rfl⟩
 |some c=>
 rw[ho]at hm1
 subst hm1
 have hk:c.kind<=255:=by rw[looked_kind ho];exact hx5
 have HO:=Lib.hid ho
 clear ho
 have kf:=(hx.k w.heap.size (by omega) (by omega)).trans kf
 have kr:=(hx.k (w.heap.size+1) (by omega) (by omega)).trans kr
 have hB2:Below w1.heap.size w1 (w1.alloc (.cells z13 48)):=(Below.refl _ w1).alloc (Nat.le_refl _) _
 obtain⟨W2,hst,k7,hg2⟩:=st_row _ w1.heap.size _ 48 _ (kq c) (heap_alloc_new w1 (.cells z13 48)) info_cal rfl (by simp[Value.oneCell'])
 have hB2:Below w1.heap.size w1 W2:=hB2.grown hg2 hB2.size (fun k e=>by cases e;exact Nat.le_refl _)
 have kf:=(hB2.block w.heap.size (by omega)).trans kf
 have kr:=(hB2.block (w.heap.size+1) (by omega)).trans kr
 have hsz2:=hB2.size
 have hl2:=ld_row kf Tryz.underlying28 rfl info_fld
 have hl3:=ld_row k7 Tryz.underlying48 rfl info_cal
 have hbn2:Below n₀ w W2:=hbn.trans (hB2.mono (by omega))
 obtain⟨E,hEE⟩: ∃E,Pl.callE f c=E:=⟨_,rfl⟩
 have HEE:=Lib.hid hEE
 have hck:=check_a A1 A2 A3 A4 c1 c2 c3 c4 f c W2 ((hf.below hbn2).more (by omega)) hm hc hE hk
 rw[hEE]at hck
 clear hEE hform hl1 hx hg2
 by_cases h0:E=0
 ·subst h0
  go_wp2_with (go_at_call 108;refine hck.mono ?_;rintro e w3 ⟨rfl,hx⟩;have kr3:=kE hx kr;have k73:=kE hx k7;have hbn3:Below n₀ w w3:=hbn2.trans (hx.mono (by omega));have hsz3:=hx.size;have hl4:=ld_row k73 Tryz.underlying48 rfl info_cal;obtain⟨W5,hst5,kr5,hg5⟩:=st_row _ (w.heap.size+1) _ 48 _ (kq c) kr3 info_cal rfl (by simp[Value.oneCell']);have hl5:=ld_row kr5 Tryz.underlying48 rfl info_cal;clear hx)
  refine bodyPost_ret (v:=.agg (kq c)) (by simp[results,Tryz.results99,go_sem,hl5]) rfl ?_
  exact EndMd.ok c (by unfold Pl.madeC;rw[HO.out];simp[HEE.out]) (hbn3.grown hg5 (by omega) (fun k e=>by cases e;omega)) rfl
 ·have hne:(E !=0)=true:=by simpa using h0
  go_wp2_with (go_at_call 108;refine hck.mono ?_;rintro e w3 ⟨rfl,hx⟩;have kr3:=kE hx kr;have k73:=kE hx k7;have hbn3:Below n₀ w w3:=hbn2.trans (hx.mono (by omega));have hsz3:=hx.size;have hl4:=ld_row k73 Tryz.underlying48 rfl info_cal;obtain⟨W5,hst5,kr5,hg5⟩:=st_row _ (w.heap.size+1) _ 48 _ (kq c) kr3 info_cal rfl (by simp[Value.oneCell']);have hl5:=ld_row kr5 Tryz.underlying48 rfl info_cal;clear hx)
  exact⟨rfl,EndMd.no E (by unfold Pl.madeC;rw[HO.out];simp[HEE.out,h0]) hbn3 rfl⟩
end Go.Proofs.YtgbpekeoegfjpaaGreatDoor
