/- Proved: parts of the walk. -/
import Derived.WideMake
import Derived.Test.YtgbpekeoegfjpaaGreatDoorVZ17
set_option maxRecDepth 100000
set_option maxHeartbeats 4000000
namespace Go.Proofs
open Tryz RowKit
variable (A1 A2 A3 A4 : Option Addr) (c1 c2 c3 c4 : Nat) (f : Pl.aL)
attribute [-go_sem] Builtin.append_
def lD (bf:Nat)(X:Nat->Prop)(w:World)(r:Except Int Pl.aL)(e:Ending)(w':World):Prop:=
 aU bf X w w'∧match r with
  | .ok f=>e=.returned (.tuple #[])∧ ∃v1 v2 v3 v4,fu bf f w' v1 v2 v3 v4∧New X w.heap.size v1 v2 v3 v4
  | .error E=>e=.panicked (gave E)
theorem lD.ok {bf:Nat}{X:Nat->Prop}{w w':World}{r:Except Int Pl.aL}{e:Ending}{f:Pl.aL}{v1 v2 v3 v4:Value}(hr:r=.ok f)(hb:aU bf X w w')(he:e=.returned (.tuple #[]))(hF:fu bf f w' v1 v2 v3 v4)(hN:New X w.heap.size v1 v2 v3 v4):lD bf X w r e w':=by subst hr;exact⟨hb,he,_,_,_,_,hF,hN⟩
theorem lD.no {bf:Nat}{X:Nat->Prop}{w w':World}{r:Except Int Pl.aL}{e:Ending}{E:Int}(hr:r=.error E)(hb:aU bf X w w')(he:e=.panicked (gave E)):lD bf X w r e w':=by subst hr;exact⟨hb,he⟩
def sG (ws:List ByteArray):Option (ByteArray×ByteArray×ByteArray×ByteArray):=
 (aP ws).bind fun p=>(aP p.2).bind fun q=>(aP q.2).bind fun r=>(aP r.2).bind fun t=>if t.2=[]then some (p.1,q.1,r.1,t.1)else none
def Br (f:Pl.aL)(ws:List ByteArray):Except Int Pl.aL:=match sG ws with
 |some (n,s,a,b)=>Pl.added f (.oI n s a b)
 |none=> .error 4
theorem fu.vals {bf:Nat}{f:Pl.aL}{W:World}{v1 v2 v3 v4:Value}(h:fu bf f W v1 v2 v3 v4):
  ∃A1 c1 A2 c2 A3 c3 A4 c4,v1=.slice A1 f.st.length c1∧v2=.slice A2 f.li.length c2∧v3=.slice A3 f.pa.length c3∧v4=.slice A4 f.va.length c4:=by
 obtain⟨A1,c1,h1,_⟩:=dQ vS h.o1
 obtain⟨A2,c2,h2,_⟩:=dQ gy h.o2
 obtain⟨A3,c3,h3,_⟩:=dQ vT h.o3
 obtain⟨A4,c4,h4,_⟩:=dQ vU h.o4
 exact⟨A1,c1,A2,c2,A3,c3,A4,c4,h1,h2,h3,h4⟩
theorem fu.NV {bf:Nat}{W:World}(h:fu bf f W (.slice A1 f.st.length c1) (.slice A2 f.li.length c2) (.slice A3 f.pa.length c3) (.slice A4 f.va.length c4)):bB W W.heap.size A1 A2 A3 A4 f∧dY c1 c2 c3 c4 f:=by
 obtain⟨B1,d1,h1,s1,l1,_⟩:=dQ vS h.o1
 obtain⟨B2,d2,h2,s2,l2,_⟩:=dQ gy h.o2
 obtain⟨B3,d3,h3,s3,l3,_⟩:=dQ vT h.o3
 obtain⟨B4,d4,h4,s4,l4,_⟩:=dQ vU h.o4
 cases h1;cases h2;cases h3;cases h4
 exact⟨⟨s1,s2,s3,s4⟩,⟨l1,l2,l3,l4⟩⟩
theorem nG {x:ByteArray}{ws:List ByteArray}(h:dK (x::ws)):dK ws:=h.tail.2.2
theorem OV (bf br:Nat)(A1 A2 A3 A4:Option Addr)(c1 c2 c3 c4:Nat)(f:Pl.aL)(ws:List ByteArray)(w:World)(hR:Rd w br ws)(hF:fu bf f w (.slice A1 f.st.length c1) (.slice A2 f.li.length c2) (.slice A3 f.pa.length c3) (.slice A4 f.va.length c4))(hlt:bf<br)(hs:dK ws)
  (hk1:f.st.length<=100000) (hk2:f.li.length<=100000) (hk3:f.pa.length<=100000):
  Calls prog 204 #[.pointer (some ⟨bf,0,none⟩),.pointer (some ⟨br,0,none⟩)] w (lD bf (Ox bf br (.slice A1 f.st.length c1) (.slice A2 f.li.length c2) (.slice A3 f.pa.length c3) (.slice A4 f.va.length c4)) w (Br f ws)):=by
 have hbr:=hR.lt
 obtain⟨A0,c0,hrd,_,_⟩:=id hR
 have hF1:=fun W (hg:w.grownBy W (some br))=>hF.kept hrd hg
 go_enter func204,ntmps204
 go_wp2_with fail
 refine(fM br ws _ hR hs).mono ?_
 rintro e w1 ⟨hg1,hm1⟩
 cases h1:aP ws with
 |none=>
  rw[h1]at hm1
  subst hm1
  exact⟨rfl,lD.no (by simp[Br,sG,h1]) (h_ hrd hlt hg1) rfl⟩
 |some p=>
 obtain⟨n,r1⟩:=p
 rw[h1]at hm1
 obtain⟨rfl,kP⟩:=hm1
 obtain⟨rfl,_⟩:=jM h1
 have hs1:=nG hs
 have hb1:=aO hbr hg1
 have hlt1:=kP.lt
 have ks:=heap_alloc_new w1 (.cells #[.string n,.int .i64 0,.int .i64 0,.int .i64 0] 112)
 have hga:w1.grownBy (w1.alloc (.cells #[.string n,.int .i64 0,.int .i64 0,.int .i64 0] 112)) (some br):=(World.grownBy_alloc w1 _ none).but _
 have Tc:=kP.below ((Below.refl _ w1).alloc (Nat.le_refl _) (.cells #[.string n,.int .i64 0,.int .i64 0,.int .i64 0] 112))
 have hsa:(w1.alloc (.cells #[.string n,.int .i64 0,.int .i64 0,.int .i64 0] 112)).heap.size=w1.heap.size+1:=by simp
 obtain⟨ZR,d1',Ld,_,_⟩:=id kP
 have Ux:=fun W (hg:w1.grownBy W (some br))=>(hF1 w1 hg1).kept Ld hg
 have hBG: ∀W,w1.grownBy W (some br)->aU bf (Ox bf br (.slice A1 f.st.length c1) (.slice A2 f.li.length c2) (.slice A3 f.pa.length c3) (.slice A4 f.va.length c4)) w W:=fun W hg=>h_ hrd hlt (hg1.trans hg)
 have Nt: ∀W W',w1.grownBy W (some br)->Below W.heap.size W W'->aU bf (Ox bf br (.slice A1 f.st.length c1) (.slice A2 f.li.length c2) (.slice A3 f.pa.length c3) (.slice A4 f.va.length c4)) w W':=fun W W' hg hb=>hBG W' (bO hg hb)
 clear hF1 hF hR hrd
 go_wp2_with fail
 refine(fM br r1 _ Tc hs1).mono ?_
 rintro e w2 ⟨hg2,hm2⟩
 have QW:=hga.trans hg2
 cases h2:aP r1 with
 |none=>
  rw[h2]at hm2
  subst hm2
  exact⟨rfl,lD.no (by simp[Br,sG,h1,h2]) (hBG _ QW) rfl⟩
 |some p=>
 obtain⟨sn,r2⟩:=p
 rw[h2]at hm2
 obtain⟨rfl,hR2⟩:=hm2
 obtain⟨rfl,_⟩:=jM h2
 have hs2:=nG hs1
 have ks:=(hg2.block w1.heap.size (by simp) (by simp;omega)).trans ks
 clear hg2 hga Tc
 go_wp2_with fail
 refine(fM br r2 _ hR2 hs2).mono ?_
 rintro e w3 ⟨hg3,Nu⟩
 have QX:=QW.trans hg3
 have hbs:w1.heap.size<w2.heap.size:=(lO ks)
 cases h3:aP r2 with
 |none=>
  rw[h3]at Nu
  subst Nu
  exact⟨rfl,lD.no (by simp[Br,sG,h1,h2,h3]) (hBG _ QX) rfl⟩
 |some p=>
 obtain⟨an,r3⟩:=p
 rw[h3]at Nu
 obtain⟨rfl,FJ⟩:=Nu
 obtain⟨rfl,_⟩:=jM h3
 have hs3:=nG hs2
 have ks:=(hg3.block w1.heap.size hbs (by simp;omega)).trans ks
 clear hg3 QW hR2 hbs
 go_wp2_with fail
 refine(fM br r3 _ FJ hs3).mono ?_
 rintro e w4 ⟨hg4,K6⟩
 have hk4:=QX.trans hg4
 have hbs:w1.heap.size<w3.heap.size:=(lO ks)
 cases h4:aP r3 with
 |none=>
  rw[h4]at K6
  subst K6
  exact⟨rfl,lD.no (by simp[Br,sG,h1,h2,h3,h4]) (hBG _ hk4) rfl⟩
 |some p=>
 obtain⟨bn,r4⟩:=p
 rw[h4]at K6
 obtain⟨rfl,Vk⟩:=K6
 obtain⟨rfl,_⟩:=jM h4
 have ks:=(hg4.block w1.heap.size hbs (by simp;omega)).trans ks
 clear hg4 QX FJ hbs
 cases r4 with
 |cons z l=>
  go_wp2_with (go_at_call 159;refine(t_ br z l _ Vk).mono ?_;rintro e w5 ⟨rfl,hx5⟩)
  exact⟨rfl,lD.no (by simp[Br,sG,h1,h2,h3,h4]) (Nt _ _ hk4 hx5) rfl⟩
 |nil=>
 have HP:Hid (Br f [n,sn,an,bn]=Pl.added f (.oI n sn an bn)):=Lib.hid (by simp[Br,sG,h1,h2,h3,h4])
 clear h1 h2 h3 h4
 have Km:=Ux _ hk4
 obtain⟨hcb,ru⟩:=ah Km.box
 have Td:w1.heap.size<w4.heap.size:=(lO ks)
 go_wp2_with (go_at_call 159;refine(ql br _ Vk).mono ?_;rintro e w5 ⟨rfl,rfl⟩)
 refine(iX A1 A2 A3 A4 c1 c2 c3 c4 f sn _ (fu.NV A1 A2 A3 A4 c1 c2 c3 c4 f Km).1.li hk2).mono ?_
 rintro e w5 ⟨Uy,hx5⟩
 cases h5:Pl.eX f sn with
 |none=>
  rw[h5]at Uy
  subst Uy
  exact⟨rfl,lD.no (by rw[HP.out];simp[Pl.added];rw[show Pl.idx (fun x=>decide (x=sn)) f.li=none from h5]) (Nt _ _ hk4 hx5) rfl⟩
 |some i=>
 rw[h5]at Uy
 subst Uy
 have H5:Hid (Pl.idx (fun x=>decide (x=sn)) f.li=some i):=Lib.hid h5
 clear h5
 have hk5:w1.grownBy w5 (some br):=bO hk4 hx5
 have Vl:=(hx5.block w1.heap.size Td).trans ks
 have OW:=hk5.andThen (cB w5 w1.heap.size 1 (.int .i64 (i:Int))) (fun j e=>by cases e;exact .inl (Nat.le_refl _))
 obtain⟨hcs,hfs⟩:=ah Vl
 have QY:=heap_setCell_same w5 w1.heap.size 1 _ _ (.int .i64 (i:Int)) Vl
 have Vm:=Ux _ OW
 obtain⟨hcb,ru⟩:=ah Vm.box
 clear hx5 Km ks
 go_wp2_with fail
 refine(eF A1 A2 A3 A4 c1 c2 c3 c4 f an _ (fu.NV A1 A2 A3 A4 c1 c2 c3 c4 f Vm).1.st hk1).mono ?_
 rintro e w6 ⟨Uz,hx6⟩
 cases h6:Pl.dW f an with
 |none=>
  rw[h6]at Uz
  subst Uz
  have H6:Pl.idx (fun x=>decide (x.1=an)) f.st=none:=h6
  exact⟨rfl,lD.no (by rw[HP.out];simp[Pl.added,H5.out,H6]) (Nt _ _ OW hx6) rfl⟩
 |some j=>
 rw[h6]at Uz
 subst Uz
 have H6:Hid (Pl.idx (fun x=>decide (x.1=an)) f.st=some j):=Lib.hid h6
 clear h6
 have WO:w1.grownBy w6 (some br):=bO OW hx6
 have Vn:=(hx6.block w1.heap.size (lO QY)).trans QY
 have OX:=WO.andThen (cB w6 w1.heap.size 2 (.int .i64 (j:Int))) (fun j e=>by cases e;exact .inl (Nat.le_refl _))
 obtain⟨hcs,hfs⟩:=ah Vn
 have QZ:=heap_setCell_same w6 w1.heap.size 2 _ _ (.int .i64 (j:Int)) Vn
 have Vo:=Ux _ OX
 obtain⟨hcb,ru⟩:=ah Vo.box
 clear hx6 Vm
 go_wp2_with fail
 refine(eF A1 A2 A3 A4 c1 c2 c3 c4 f bn _ (fu.NV A1 A2 A3 A4 c1 c2 c3 c4 f Vo).1.st hk1).mono ?_
 rintro e w7 ⟨UA,hx7⟩
 cases h7:Pl.dW f bn with
 |none=>
  rw[h7]at UA
  subst UA
  have H7:Pl.idx (fun x=>decide (x.1=bn)) f.st=none:=h7
  exact⟨rfl,lD.no (by rw[HP.out];simp[Pl.added,H5.out,H6.out,H7]) (Nt _ _ OX hx7) rfl⟩
 |some k=>
 rw[h7]at UA
 subst UA
 have H7:Hid (Pl.idx (fun x=>decide (x.1=bn)) f.st=some k):=Lib.hid h7
 clear h7
 have WQ:w1.grownBy w7 (some br):=bO OX hx7
 have Vp:=(hx7.block w1.heap.size (lO QZ)).trans QZ
 have Dy:=WQ.andThen (cB w7 w1.heap.size 3 (.int .i64 (k:Int))) (fun j e=>by cases e;exact .inl (Nat.le_refl _))
 obtain⟨hcs,hfs⟩:=ah Vp
 have Te:=heap_setCell_same w7 w1.heap.size 3 _ _ (.int .i64 (k:Int)) Vp
 have Sd:=Ux _ Dy
 obtain⟨hcb,ru⟩:=ah Sd.box
 clear hx7 Vo
 go_wp2_with fail
 have Yj:(w7.setCell ⟨w1.heap.size,3,none⟩ (.int .i64 (k:Int))).heap[w1.heap.size]?=some (.cells #[.string n,.int .i64 (i:Int),.int .i64 (j:Int),.int .i64 (k:Int)] 112 (0,0)):=Te
 clear hcs hfs Te QZ QY Vp Vn Vl hcb ru WQ WO hk5 OX OW hk4 Td Vk
 generalize w7.setCell ⟨w1.heap.size,3,none⟩ (.int .i64 (k:Int))=W at*
 obtain⟨hcb,ru⟩:=ah Sd.box
 obtain⟨hcs,hfs⟩:=ah Yj
 have ZT:=Pl.AR H5.out
 have e1:IntKind.i64.wrap ((i:Int)+1)=(i:Int)+1:=IntWalk.i64_in _ (by omega)
 have q0:=hcs 1
 have q1:=hcb 1
 by_cases hlim:i+1<f.li.length
 ·have hd:decide ((i:Int)+1<(f.li.length:Int))=true:=decide_eq_true (by omega)
  go_region_held3 (fun W=>W.cell? ⟨w1.heap.size,1,none⟩=some (.int .i64 (i:Int))∧W.cell? ⟨bf,1,none⟩=some (.slice A2 f.li.length c2)) (exact⟨q0,q1⟩) ((go_at_call 97;refine(uYs _ _).mono ?_;rintro e w' ⟨rfl,rfl⟩))
  have hd2:Below W.heap.size W W.drew.drew:=((Below.refl _ W).drew).drew
  obtain⟨g',cap',w9,hrun,hbx,WR,Yk,Yl,Tf⟩:=Lb (Sd.below hd2) ⟨n,i,j,k⟩ hk3
  have hrun:(Builtin.append_ #[25,25] 25 #[.slice A3 f.pa.length c3,.slice (some ⟨W.heap.size,0,none⟩) 1 1]).run prog (W.alloc (.cells #[.string n,.int .i64 (i:Int),.int .i64 (j:Int),.int .i64 (k:Int)] 112)).drew.drew=.ok (.slice (some ⟨g',0,none⟩) (f.pa.length+1) cap') w9:=hrun
  obtain⟨hcx,hfx⟩:=ah hbx
  have hltW:=Sd.lt
  have HX:Hid (Pl.added f (.oI n sn an bn)=.ok {f with pa:=f.pa++[⟨n,i,j,k⟩]}):=Lib.hid (by simp[Pl.added,H5.out,H6.out,H7.out,hlim])
  have F9:=Lib.hid WR
  have N9:=Lib.hid (Tf br)
  have Sg:=(hBG _ Dy).trans (aU.of_below (((Below.refl _ W).drew).drew) (by have:=Sd.lt;omega))
  have p0:=hcs 0
  have p1:=hcs 1
  have p2:=hcs 2
  have p3:=hcs 3
  have p4:=hcb 2
  have p5:(W.alloc (.cells #[.string n,.int .i64 (i:Int),.int .i64 (j:Int),.int .i64 (k:Int)] 112)).cell? ⟨bf,2,none⟩=some (.slice A3 f.pa.length c3):=(World.cell?_of_block (Below.heap_alloc _ _ _ hltW)).trans p4
  clear WR Sd hd hd2 Tf
  go_wp2
  go_region_with (fail)
  all_goals go_end0
  all_goals exact lD.ok (by rw[HP.out,HX.out]) (Sg.trans (Yk br)) rfl F9.out (N9.out _ Sg.b.size)
 ·have hd:decide ((i:Int)+1<(f.li.length:Int))=false:=decide_eq_false (by omega)
  have HX:Hid (Pl.added f (.oI n sn an bn)=.error 1):=Lib.hid (by simp[Pl.added,H5.out,H6.out,H7.out,hlim])
  refine wp_region_any (by kernel_rfl) ?_
  change wpAny _ _ _ _ _ _ _ (World.drew _)
  refine wpAny_take (i:=0) (v:=.pointer (some ⟨w1.heap.size,1,none⟩)) rfl (by kernel_rfl) (by kernel_rfl) (by kernel_rfl) (fun _ _ _ h=>h) (Or.inl ⟨by rfl,by intro w;rfl⟩) ?_
  refine wpAny_take (i:=3) (v:=.pointer (some ⟨bf,0,none⟩)) rfl (by kernel_rfl) (by kernel_rfl) (by kernel_rfl) (fun _ _ _ h=>h) (Or.inl ⟨by rfl,by intro w;rfl⟩) ?_
  refine wpAny_take (i:=4) (v:=.pointer (some ⟨bf,0,none⟩)) rfl (by kernel_rfl) (by kernel_rfl) (by kernel_rfl) (fun _ _ _ h=>h) (Or.inl ⟨by rfl,by intro w;rfl⟩) ?_
  refine wpAny_take (i:=5) (v:=.pointer (some ⟨bf,1,none⟩)) rfl (by kernel_rfl) (by kernel_rfl) (by kernel_rfl) (fun _ _ _ h=>h) (Or.inl ⟨by rfl,by intro w;rfl⟩) ?_
  refine wpAny_ready (rs:=[1,6]) (by kernel_rfl) (by simp) ?_
  refine AllReady.cons rfl (fun K hK=> ?_) (AllReady.cons rfl (fun K hK=> ?_) AllReady.nil)
  ·go_simp
   refine hK _ _ ?_
   clear hK K
   refine wpAny_ready (rs:=[2,6]) (by kernel_rfl) (by simp) ?_
   refine AllReady.cons rfl (fun K hK=> ?_) (AllReady.cons rfl (fun K hK=> ?_) AllReady.nil)
   ·go_simp
    refine hK _ _ ?_
    clear hK K
    refine wpAny_ready (rs:=[6]) (by kernel_rfl) (by simp) ?_
    refine AllReady.cons rfl (fun K hK=> ?_) AllReady.nil
    go_simp
    refine hK _ _ ?_
    clear hK K
    refine wpAny_ready (rs:=[7]) (by kernel_rfl) (by simp) ?_
    refine AllReady.cons rfl (fun K hK=> ?_) AllReady.nil
    go_simp
    refine hK _ _ ?_
    clear hK K
    refine wpAny_ready (rs:=[8]) (by kernel_rfl) (by simp) ?_
    refine AllReady.cons rfl (fun K hK=> ?_) AllReady.nil
    go_simp
    refine hK _ _ ?_
    clear hK K
    refine wpAny_ready (rs:=[9]) (by kernel_rfl) (by simp) ?_
    refine AllReady.cons rfl (fun K hK=> ?_) AllReady.nil
    go_simp
    refine(bD _ _).mono ?_
    rintro e w9 ⟨rfl,Lu⟩
    exact⟨rfl,lD.no (by rw[HP.out,HX.out]) (Nt _ _ Dy (((Below.refl _ W).drew).trans Lu)) rfl⟩
   ·go_simp
    refine hK _ _ ?_
    clear hK K
    refine wpAny_ready (rs:=[2,7]) (by kernel_rfl) (by simp) ?_
    refine AllReady.cons rfl (fun K hK=> ?_) (AllReady.cons rfl (fun K hK=> ?_) AllReady.nil)
    ·go_simp
     refine hK _ _ ?_
     clear hK K
     refine wpAny_ready (rs:=[7]) (by kernel_rfl) (by simp) ?_
     refine AllReady.cons rfl (fun K hK=> ?_) AllReady.nil
     go_simp
     refine hK _ _ ?_
     clear hK K
     refine wpAny_ready (rs:=[8]) (by kernel_rfl) (by simp) ?_
     refine AllReady.cons rfl (fun K hK=> ?_) AllReady.nil
     go_simp
     refine hK _ _ ?_
     clear hK K
     refine wpAny_ready (rs:=[9]) (by kernel_rfl) (by simp) ?_
     refine AllReady.cons rfl (fun K hK=> ?_) AllReady.nil
     go_simp
     refine(bD _ _).mono ?_
     rintro e w9 ⟨rfl,Lu⟩
     exact⟨rfl,lD.no (by rw[HP.out,HX.out]) (Nt _ _ Dy (((Below.refl _ W).drew).trans Lu)) rfl⟩
    ·go_simp
     refine hK _ _ ?_
     clear hK K
     refine wpAny_ready (rs:=[2]) (by kernel_rfl) (by simp) ?_
     refine AllReady.cons rfl (fun K hK=> ?_) AllReady.nil
     go_simp
     refine hK _ _ ?_
     clear hK K
     refine wpAny_ready (rs:=[8]) (by kernel_rfl) (by simp) ?_
     refine AllReady.cons rfl (fun K hK=> ?_) AllReady.nil
     go_simp
     refine hK _ _ ?_
     clear hK K
     refine wpAny_ready (rs:=[9]) (by kernel_rfl) (by simp) ?_
     refine AllReady.cons rfl (fun K hK=> ?_) AllReady.nil
     go_simp
     refine(bD _ _).mono ?_
     rintro e w9 ⟨rfl,Lu⟩
     exact⟨rfl,lD.no (by rw[HP.out,HX.out]) (Nt _ _ Dy (((Below.refl _ W).drew).trans Lu)) rfl⟩
  ·go_simp
   refine hK _ _ ?_
   clear hK K
   refine wpAny_ready (rs:=[1,7]) (by kernel_rfl) (by simp) ?_
   refine AllReady.cons rfl (fun K hK=> ?_) (AllReady.cons rfl (fun K hK=> ?_) AllReady.nil)
   ·go_simp
    refine hK _ _ ?_
    clear hK K
    refine wpAny_ready (rs:=[2,7]) (by kernel_rfl) (by simp) ?_
    refine AllReady.cons rfl (fun K hK=> ?_) (AllReady.cons rfl (fun K hK=> ?_) AllReady.nil)
    ·go_simp
     refine hK _ _ ?_
     clear hK K
     refine wpAny_ready (rs:=[7]) (by kernel_rfl) (by simp) ?_
     refine AllReady.cons rfl (fun K hK=> ?_) AllReady.nil
     go_simp
     refine hK _ _ ?_
     clear hK K
     refine wpAny_ready (rs:=[8]) (by kernel_rfl) (by simp) ?_
     refine AllReady.cons rfl (fun K hK=> ?_) AllReady.nil
     go_simp
     refine hK _ _ ?_
     clear hK K
     refine wpAny_ready (rs:=[9]) (by kernel_rfl) (by simp) ?_
     refine AllReady.cons rfl (fun K hK=> ?_) AllReady.nil
     go_simp
     refine(bD _ _).mono ?_
     rintro e w9 ⟨rfl,Lu⟩
     exact⟨rfl,lD.no (by rw[HP.out,HX.out]) (Nt _ _ Dy (((Below.refl _ W).drew).trans Lu)) rfl⟩
    ·go_simp
     refine hK _ _ ?_
     clear hK K
     refine wpAny_ready (rs:=[2]) (by kernel_rfl) (by simp) ?_
     refine AllReady.cons rfl (fun K hK=> ?_) AllReady.nil
     go_simp
     refine hK _ _ ?_
     clear hK K
     refine wpAny_ready (rs:=[8]) (by kernel_rfl) (by simp) ?_
     refine AllReady.cons rfl (fun K hK=> ?_) AllReady.nil
     go_simp
     refine hK _ _ ?_
     clear hK K
     refine wpAny_ready (rs:=[9]) (by kernel_rfl) (by simp) ?_
     refine AllReady.cons rfl (fun K hK=> ?_) AllReady.nil
     go_simp
     refine(bD _ _).mono ?_
     rintro e w9 ⟨rfl,Lu⟩
     exact⟨rfl,lD.no (by rw[HP.out,HX.out]) (Nt _ _ Dy (((Below.refl _ W).drew).trans Lu)) rfl⟩
   ·go_simp
    refine hK _ _ ?_
    clear hK K
    refine wpAny_ready (rs:=[1]) (by kernel_rfl) (by simp) ?_
    refine AllReady.cons rfl (fun K hK=> ?_) AllReady.nil
    go_simp
    refine hK _ _ ?_
    clear hK K
    refine wpAny_ready (rs:=[2]) (by kernel_rfl) (by simp) ?_
    refine AllReady.cons rfl (fun K hK=> ?_) AllReady.nil
    go_simp
    refine hK _ _ ?_
    clear hK K
    refine wpAny_ready (rs:=[8]) (by kernel_rfl) (by simp) ?_
    refine AllReady.cons rfl (fun K hK=> ?_) AllReady.nil
    go_simp
    refine hK _ _ ?_
    clear hK K
    refine wpAny_ready (rs:=[9]) (by kernel_rfl) (by simp) ?_
    refine AllReady.cons rfl (fun K hK=> ?_) AllReady.nil
    go_simp
    refine(bD _ _).mono ?_
    rintro e w9 ⟨rfl,Lu⟩
    exact⟨rfl,lD.no (by rw[HP.out,HX.out]) (Nt _ _ Dy (((Below.refl _ W).drew).trans Lu)) rfl⟩
end Go.Proofs
namespace Go.Proofs
open Tryz RowKit
variable (A1 A2 A3 A4 : Option Addr) (c1 c2 c3 c4 : Nat) (f : Pl.aL)
theorem jN (a b:ByteArray):(a==b)=decide (a=b):=by
 by_cases h:a=b
 ·subst h
  rw[decide_eq_true rfl]
  cases a with
  |mk d=>exact(show(d==d)=true by simp)
 ·rw[decide_eq_false h]
  cases a with
  | mk d=>cases b with
   |mk d'=>
    show(d==d')=false
    simpa using fun e=>h (by rw[e])
theorem Lv (hs:Array Obj)(a b:Obj):(hs.push a).setIfInBounds hs.size b=hs.push b:=by
 apply Array.ext_getElem?
 intro i
 rw[Array.getElem?_setIfInBounds,Array.getElem?_push,Array.getElem?_push,Array.size_push]
 by_cases h:i=hs.size
 ·subst h;simp
 ·rw[if_neg h,if_neg (fun e=>h e.symm),if_neg h]
theorem kQ {mty kt et:TypeId}(w:World)(es:Array MapEntry)(k:Nat)(s:ByteArray)(v:Value)(hm:prog.underlying mty=some (.map kt et))(hk:prog.underlying kt=some .string)(hf:Instr.findNow .string (.string s) es.toList 0=some none):
  (Instr.mapUpdate mty (.map (some w.heap.size)) (.string s) v).run prog (w.alloc (.map es k))=.ok () (w.alloc (.map (es.push {key:=.string s,val:=v,born:=k}) (k+1))):=by
 have hb:(w.alloc (.map es k)).heap[w.heap.size]?=some (.map es k):=heap_alloc_new _ _
 have hc:(Instr.checkKey false 10000 kt (.string s)).run prog (w.alloc (.map es k))=.ok () (w.alloc (.map es k)):=MapKept.run_checkKey (k:=.string s) hk (by simp[MapKept.IsKey]) false 9999
 simp[Instr.mapUpdate,run_underlying hm,MapKept.run_getObj_map hb,hc,MapKept.run_findKey hk hf,MapKept.run_setObj_map _ hb,Result.andThen]
 show({w with heap:=(w.heap.push _).setIfInBounds w.heap.size _}:World)= {w with heap:=w.heap.push _}
 rw[Lv]
theorem jq {mty kt et:TypeId}(W:World)(r:Nat)(es:Array MapEntry)(k i:Nat)(s:ByteArray)(v:Value)(hm:prog.underlying mty=some (.map kt et))(hk:prog.underlying kt=some .string)(hb:W.heap[r]?=some (.map es k))(hf:Instr.findNow .string (.string s) es.toList 0=some (some (i,v))):
  (Instr.lookup mty (.map (some r)) (.string s) true).run prog W=.ok (.tuple #[v,.bool true]) W:=by
 have hc: ∀b,(Instr.checkKey b 10000 kt (.string s)).run prog W=.ok () W:=fun b=>MapKept.run_checkKey (k:=.string s) hk (by simp[MapKept.IsKey]) b 9999
 simp[Instr.lookup,run_underlying hm,MapKept.run_getObj_map hb,hc,MapKept.run_findKey hk hf,Result.andThen]
theorem Dz {mty kt et:TypeId}(W:World)(r:Nat)(es:Array MapEntry)(k:Nat)(s:ByteArray)(z:Value)(hm:prog.underlying mty=some (.map kt et))(hk:prog.underlying kt=some .string)(hz: ∀W,(zeroValue et).run prog W=.ok z W)(hb:W.heap[r]?=some (.map es k))(hf:Instr.findNow .string (.string s) es.toList 0=some none):
  (Instr.lookup mty (.map (some r)) (.string s) true).run prog W=.ok (.tuple #[z,.bool false]) W:=by
 have hc: ∀b,(Instr.checkKey b 10000 kt (.string s)).run prog W=.ok () W:=fun b=>MapKept.run_checkKey (k:=.string s) hk (by simp[MapKept.IsKey]) b 9999
 simp[Instr.lookup,run_underlying hm,MapKept.run_getObj_map hb,hc,MapKept.run_findKey hk hf,Result.andThen,hz]
def gM :Array MapEntry:= #[⟨.string Pl.eU,.func (.func 202) #[] #[],0⟩,⟨.string Pl.iB,.func (.func 203) #[] #[],1⟩,⟨.string Pl.f_,.func (.func 204) #[] #[],2⟩,⟨.string Pl.dB,.func (.func 207) #[] #[],3⟩]
theorem Bt (w:World):Calls prog 146 #[] w fun e w'=>e=.returned (.map (some w.heap.size))∧w'=w.alloc (.map gM 4):=by
 have h0:=run_makeMap_plain (P:=prog) w 184
 have h1:=kQ w #[] 0 ⟨#[115,116,97,116,105,111,110]⟩ (.func (.func 202) #[] #[]) underlying184 underlying9 rfl
 have h2:=kQ w #[⟨.string ⟨#[115,116,97,116,105,111,110]⟩,.func (.func 202) #[] #[],0⟩] 1 ⟨#[108,105,109,105,116]⟩ (.func (.func 203) #[] #[]) underlying184 underlying9 rfl
 have h3:=kQ w #[⟨.string ⟨#[115,116,97,116,105,111,110]⟩,.func (.func 202) #[] #[],0⟩,⟨.string ⟨#[108,105,109,105,116]⟩,.func (.func 203) #[] #[],1⟩] 2 ⟨#[112,97,114,99,101,108]⟩ (.func (.func 204) #[] #[]) underlying184 underlying9 rfl
 have h4:=kQ w #[⟨.string ⟨#[115,116,97,116,105,111,110]⟩,.func (.func 202) #[] #[],0⟩,⟨.string ⟨#[108,105,109,105,116]⟩,.func (.func 203) #[] #[],1⟩,⟨.string ⟨#[112,97,114,99,101,108]⟩,.func (.func 204) #[] #[],2⟩] 3 ⟨#[118,97,114,105,97,116,105,111,110]⟩ (.func (.func 207) #[] #[]) underlying184 underlying9 rfl
 simp only[List.push_toArray,List.nil_append,List.cons_append]at h1 h2 h3 h4
 go_enter func146,ntmps146
 go_wp2
 go_ret
 exact⟨rfl,rfl⟩
theorem iY (be:Nat)(E y:Int)(w:World)(he:w.heap[be]?=some (.cells #[.int .i64 y] 29 (0,0))):
  CallsD prog 96 #[.pointer (some ⟨be,0,none⟩)] (.panicking (gave E)) w fun e u' w'=>
   e=.returned (.tuple #[])∧u'=.panicking [{v:=.iface 209 (.int .i64 E),recovered:=true}]∧w'=w.setCell ⟨be,0,none⟩ (.int .i64 E):=by
 obtain⟨hce,hfe⟩:=ah he
 have hbe:=(lO he)
 have Yb: ∀w:World,(Instr.typeAssert (.iface 209 (.int .i64 E)) 20 209 true).run prog w=.ok (.tuple #[.int .i64 E,.bool true]) w:=fun _=>by kernel_rfl
 refine callsD_of_wpS func96 rfl fun c₀ cs hu=> ?_
 apply wpS_seq
 apply wpS_region
 simp[wpOpsS,go_sem,recoverD,hu,ntmps96,Exit.thenS]
 refine wpS_of_wp ?_
 rw[show(#[Value.pointer (some ⟨be,0,none⟩)]++(Array.replicate 13 undef).setIfInBounds 4 (Value.iface 209 (.int .i64 E)):Array Value)=
  #[.pointer (some ⟨be,0,none⟩),undef,undef,undef,undef,.iface 209 (.int .i64 E),undef,undef,undef,undef,undef,undef,undef,undef] from rfl]
 go_wp2
 exact⟨rfl,_,rfl,_,results_none rfl _ _ _,rfl,rfl,rfl⟩
theorem oV (be:Nat)(w:World):
  CallsD prog 96 #[.pointer (some ⟨be,0,none⟩)] .returning w fun e u' w'=>e=.returned (.tuple #[])∧u'=.returning∧w'=w:=by
 refine callsD_of_wpS func96 rfl fun c₀ cs hu=> ?_
 apply wpS_seq
 apply wpS_region
 simp[wpOpsS,go_sem,recoverD,hu,ntmps96,Exit.thenS]
 refine wpS_of_wp ?_
 rw[show(#[Value.pointer (some ⟨be,0,none⟩)]++(Array.replicate 13 undef).setIfInBounds 4 .nilIface:Array Value)=
  #[.pointer (some ⟨be,0,none⟩),undef,undef,undef,undef,.nilIface,undef,undef,undef,undef,undef,undef,undef,undef] from rfl]
 go_wp2
 cases c₀
 simp_all[bodyPostS,results,results96]
theorem sH (w:World):Calls prog 146 #[] w fun e w'=>e=.returned (.map (some w.heap.size))∧w'.heap[w.heap.size]?=some (.map gM 4)∧Below w.heap.size w w':=
 (Bt w).mono fun _ _ ⟨he,hw⟩=>⟨he,by rw[hw];exact heap_alloc_new _ _,by rw[hw];exact(Below.refl _ w).alloc (Nat.le_refl _) _⟩
theorem rest_of {w:World}{B b off c:Nat}{k:ByteArray}{ws:List ByteArray}(h:d9 w B (some ⟨b,off,none⟩) (k::ws))(hc:ws.length+1<=c):
  (c=1->ws=[])∧(¬c=1->d9 w B (some ⟨b,off+1,none⟩) ws∧ws.length<=c-1):=
 ⟨fun h1=>List.length_eq_zero_iff.1 (by omega),fun _=>⟨Di h,by omega⟩⟩
def Oz (bf:Nat)(v1 v2 v3 v4:Value)(i:Nat):Prop:=i=bf∨Oy v1 v2 v3 v4 i
def Q0 (bf:Nat)(v1 v2 v3 v4:Value)(w:World)(r:Except Int Pl.aL)(e:Ending)(w':World):Prop:=
 aU bf (Oz bf v1 v2 v3 v4) w w'∧match r with
  | .ok f=>e=.returned (.int .i64 0)∧ ∃u1 u2 u3 u4,fu bf f w' u1 u2 u3 u4∧New (Oz bf v1 v2 v3 v4) w.heap.size u1 u2 u3 u4
  | .error E=>e=.returned (.int .i64 E)
theorem fu.Qc {bf:Nat}{f:Pl.aL}{W:World}{v1 v2 v3 v4:Value}(h:fu bf f W v1 v2 v3 v4){be:Nat}{cs:Array Value}(hb:W.heap[be]?=some (.cells cs 29 (0,0)))(u:Value):fu bf f (W.setCell ⟨be,0,none⟩ u) v1 v2 v3 v4:=by
 have hne:some bf≠some be:=by
  intro e;cases e;rw[h.box]at hb;cases hb
 have hg:=cB W be 0 u
 exact⟨(hg.block bf h.lt hne).trans h.box,h.o1.kept hg (.inr (own_ne h.o1 hb (by decide))),h.o2.kept hg (.inr (own_ne h.o2 hb (by decide))),h.o3.kept hg (.inr (own_ne h.o3 hb (by decide))),h.o4.kept hg (.inr (own_ne h.o4 hb (by decide)))⟩
theorem fu.oy {bf:Nat}{f:Pl.aL}{W:World}{v1 v2 v3 v4:Value}(h:fu bf f W v1 v2 v3 v4){i:Nat}(hi:Oy v1 v2 v3 v4 i):bf<i∧i<W.heap.size:=by
 rcases hi with e|e|e|e
 ·have:=h.o1.lt i e;omega
 ·have:=h.o2.lt i e;omega
 ·have:=h.o3.lt i e;omega
 ·have:=h.o4.lt i e;omega
theorem aU.set {bf:Nat}{X:Nat->Prop}{w w':World}(h:aU bf X w w')(hb:bf<=w.heap.size)(u:Value):aU bf X w (w'.setCell ⟨w.heap.size,0,none⟩ u):=
 ⟨h.b.setCell (p:=⟨w.heap.size,0,none⟩) hb _,fun i hi hx=>(Below.heap_setCell _ _ _ _ (by simp;omega)).trans (h.k i hi hx)⟩
theorem OY {bf:Nat}{f:Pl.aL}{v1 v2 v3 v4:Value}{ws:List ByteArray}{g:FuncId}{r:Except Int Pl.aL}{w w1:World}(hE:Env w)(hF:fu bf f w v1 v2 v3 v4)(h8:8<=bf)
  (hform: ∀W br,Env W->Rd W br ws->fu bf f W v1 v2 v3 v4->bf<br->Calls prog g #[.pointer (some ⟨bf,0,none⟩),.pointer (some ⟨br,0,none⟩)] W (lD bf (Ox bf br v1 v2 v3 v4) W r))
  (hb1:Below w.heap.size w w1) (Q_:w1.heap[w.heap.size]?=some (.cells #[.int .i64 0] 29 (0,0))) (A:Option Addr) (c:Nat) (hn:d9 w w.heap.size A ws) (hl:ws.length<=c):
  Calls prog g #[.pointer (some ⟨bf,0,none⟩),.pointer (some ⟨w1.heap.size,0,none⟩)] (w1.alloc (.cells #[.slice A ws.length c] 188)) fun e w2=>
   w2.heap[w.heap.size]?=some (.cells #[.int .i64 0] 29 (0,0))∧aU bf (Oz bf v1 v2 v3 v4) w w2∧match r with
    | .ok f=>e=.returned (.tuple #[])∧ ∃u1 u2 u3 u4,fu bf f w2 u1 u2 u3 u4∧New (Oz bf v1 v2 v3 v4) w.heap.size u1 u2 u3 u4
    | .error E=>e=.panicked (gave E):=by
 have hbf:=hF.lt
 have hsz:=hb1.size
 have hlt1:=(lO Q_)
 have hba:Below w.heap.size w (w1.alloc (.cells #[.slice A ws.length c] 188)):=hb1.alloc (by omega) _
 have hsa:(w1.alloc (.cells #[.slice A ws.length c] 188)).heap.size=w1.heap.size+1:=by simp
 refine(hform _ _ (hE.below (B:=w.heap.size) hba (by omega)) ⟨A,c,heap_alloc_new _ _,(hn.below hba).more hsz,hl⟩ (hF.below hba) (by omega)).mono ?_
 rintro e w2 ⟨hx,hm⟩
 refine⟨?_,⟨(hba.mono (by omega)).trans hx.b,fun i hi hxi=> ?_⟩,?_⟩
 ·refine(hx.k w.heap.size (by omega) ?_).trans ((Below.heap_alloc _ _ _ hlt1).trans Q_)
  rintro(h|h|h)
  ·omega
  ·omega
  ·have:=hF.oy h;omega
 ·refine(hx.k i (by omega) ?_).trans (hba.block i hi)
  rintro(h|h|h)
  ·exact hxi (.inl h)
  ·omega
  ·exact hxi (.inr h)
 ·cases r with
  |error E=>exact hm
  |ok f'=>
   obtain⟨he,u1,u2,u3,u4,hF',hN⟩:=hm
   refine⟨he,u1,u2,u3,u4,hF',fun i hi=> ?_⟩
   rcases hN i hi with (h|h|h)|h
   ·exact .inl (.inl h)
   ·exact .inr (by omega)
   ·exact .inl (.inr h)
   ·exact .inr (by omega)
theorem jr (bf:Nat)(f:Pl.aL)(v1 v2 v3 v4:Value)(A:Option Addr)(c:Nat)(k:ByteArray)(ws:List ByteArray)(g:FuncId)(r:Except Int Pl.aL)(w:World)(hE:Env w)(hF:fu bf f w v1 v2 v3 v4)(h8:8<=bf)
  (hw:d9 w w.heap.size A (k::ws)) (hc:ws.length+1<=c) (hm:ws.length<=100000)
  (hen: ∀args w,(callFunc g args).run prog w=.ok (.enter g args) w)
  (hlk: ∀W b,W.heap[b]?=some (.map gM 4)->(Instr.lookup 184 (.map (some b)) (.string k) true).run prog W=.ok (.tuple #[.func (.func g) #[] #[],.bool true]) W)
  (hform: ∀W br,Env W->Rd W br ws->fu bf f W v1 v2 v3 v4->bf<br->Calls prog g #[.pointer (some ⟨bf,0,none⟩),.pointer (some ⟨br,0,none⟩)] W (lD bf (Ox bf br v1 v2 v3 v4) W r)):
  Calls prog 73 #[.pointer (some ⟨bf,0,none⟩),.slice A (ws.length+1) c] w (Q0 bf v1 v2 v3 v4 w r):=by
 have hbf:=hF.lt
 obtain⟨b,off,rfl,hb,q0⟩:=d9.gY hw (k:=0) (by simp)
 simp only[Nat.add_zero,List.getElem_cons_zero]at q0
 have ke:=heap_alloc_new w (.cells #[.int .i64 0] 29)
 have q1:(w.alloc (.cells #[.int .i64 0] 29)).cell? ⟨b,off,none⟩=some (.string k):=(World.cell?_of_block (Below.heap_alloc _ _ _ hb)).trans q0
 have e1:(0:Int)<((ws.length:Nat):Int)+1:=by omega
 go_enter_defers func73,ntmps73
 go_wp2_with fail
 go_region_held3 (fun W=>W.cell? ⟨b,off,none⟩=some (.string k)) (first|exact q1|exact q2) ((go_at_call 146;refine(sH _).mono ?_;rintro e w1 ⟨rfl,hmap,hx⟩;have hb1:=bT (w:=w) hx;have hmap:w1.heap[w.heap.size+1]?=some (.map gM 4):=(by simpa using hmap);have Q_:=(hx.block w.heap.size (by simp)).trans ke;have q2:=(hx.cell (p:=⟨b,off,none⟩) (by simp;omega)).trans q1;have Ra:=hlk w1 _ hmap;clear hx))
 all_goals go_wp2_with ((go_at_call 97;refine(uYs _ _).mono ?_;rintro e w' ⟨rfl,rfl⟩))
 all_goals have hin:=OY hE hF h8 hform hb1 Q_
 ·have hws:=(rest_of hw hc).1 ‹_›
  refine(hin _ 0 (by rw[hws];exact .inl rfl) (by simp[hws])).mono ?_
  rintro e w2 ⟨Nv,hB,hm⟩
  obtain⟨hce,hfe⟩:=ah Nv
  cases r with
  |ok f'=>
   obtain⟨rfl,u1,u2,u3,u4,hF2,Nr⟩:=hm
   have hf2:=hF2.Qc Nv (.int .i64 0)
   go_wp2
   refine leaves_cons (f:=96) (args:= #[.pointer (some ⟨w.heap.size,0,none⟩)]) (by simp) (by simp[go_sem]) ?_
   refine(oV _ _).mono ?_
   rintro e u' w'' ⟨rfl,rfl,rfl⟩
   simp[Leaves,settle,results,results73,go_sem,hce]
   exact⟨hB.set (by omega) _,rfl,_,_,_,_,hf2,Nr⟩
  |error E=>
   subst hm
   go_wp2
   refine leaves_cons (f:=96) (args:= #[.pointer (some ⟨w.heap.size,0,none⟩)]) (by simp) (by simp[go_sem]) ?_
   refine(iY _ _ _ _ Nv).mono ?_
   rintro e u' w'' ⟨rfl,rfl,rfl⟩
   simp[Leaves,settle,results,results73,go_sem,hce]
   exact⟨hB.set (by omega) _,rfl⟩
 ·obtain⟨hn,hl⟩:=(rest_of hw hc).2 ‹_›
  refine(hin _ (c-1) hn hl).mono ?_
  rintro e w2 ⟨Nv,hB,hm⟩
  obtain⟨hce,hfe⟩:=ah Nv
  cases r with
  |ok f'=>
   obtain⟨rfl,u1,u2,u3,u4,hF2,Nr⟩:=hm
   have hf2:=hF2.Qc Nv (.int .i64 0)
   go_wp2
   refine leaves_cons (f:=96) (args:= #[.pointer (some ⟨w.heap.size,0,none⟩)]) (by simp) (by simp[go_sem]) ?_
   refine(oV _ _).mono ?_
   rintro e u' w'' ⟨rfl,rfl,rfl⟩
   simp[Leaves,settle,results,results73,go_sem,hce]
   exact⟨hB.set (by omega) _,rfl,_,_,_,_,hf2,Nr⟩
  |error E=>
   subst hm
   go_wp2
   refine leaves_cons (f:=96) (args:= #[.pointer (some ⟨w.heap.size,0,none⟩)]) (by simp) (by simp[go_sem]) ?_
   refine(iY _ _ _ _ Nv).mono ?_
   rintro e u' w'' ⟨rfl,rfl,rfl⟩
   simp[Leaves,settle,results,results73,go_sem,hce]
   exact⟨hB.set (by omega) _,rfl⟩
def gB :Array MapEntry:= #[⟨.string Pl.bq,.func (.func 222) #[] #[],0⟩,⟨.string Pl.bA,.func (.func 224) #[] #[],1⟩,⟨.string Pl.bC,.func (.func 226) #[] #[],2⟩,⟨.string Pl.bg,.func (.func 228) #[] #[],3⟩,⟨.string Pl.aV,.func (.func 230) #[] #[],4⟩]
theorem DC (w:World):Calls prog 167 #[] w fun e w'=>e=.returned (.map (some w.heap.size))∧w'=w.alloc (.map gB 5):=by
 have h0:=run_makeMap_plain (P:=prog) w 213
 have h1:=kQ w #[] 0 ⟨#[115,116,111,110,101]⟩ (.func (.func 222) #[] #[]) underlying213 underlying9 rfl
 have h2:=kQ w #[⟨.string ⟨#[115,116,111,110,101]⟩,.func (.func 222) #[] #[],0⟩] 1 ⟨#[119,105,100,116,104]⟩ (.func (.func 224) #[] #[]) underlying213 underlying9 rfl
 have h3:=kQ w #[⟨.string ⟨#[115,116,111,110,101]⟩,.func (.func 222) #[] #[],0⟩,⟨.string ⟨#[119,105,100,116,104]⟩,.func (.func 224) #[] #[],1⟩] 2 ⟨#[97,108,111,110,103]⟩ (.func (.func 226) #[] #[]) underlying213 underlying9 rfl
 have h4:=kQ w #[⟨.string ⟨#[115,116,111,110,101]⟩,.func (.func 222) #[] #[],0⟩,⟨.string ⟨#[119,105,100,116,104]⟩,.func (.func 224) #[] #[],1⟩,⟨.string ⟨#[97,108,111,110,103]⟩,.func (.func 226) #[] #[],2⟩] 3 ⟨#[108,101,118,101,108]⟩ (.func (.func 228) #[] #[]) underlying213 underlying9 rfl
 have h5:=kQ w #[⟨.string ⟨#[115,116,111,110,101]⟩,.func (.func 222) #[] #[],0⟩,⟨.string ⟨#[119,105,100,116,104]⟩,.func (.func 224) #[] #[],1⟩,⟨.string ⟨#[97,108,111,110,103]⟩,.func (.func 226) #[] #[],2⟩,⟨.string ⟨#[108,101,118,101,108]⟩,.func (.func 228) #[] #[],3⟩] 4 ⟨#[99,111,117,114,115,101]⟩ (.func (.func 230) #[] #[]) underlying213 underlying9 rfl
 simp only[List.push_toArray,List.nil_append,List.cons_append]at h1 h2 h3 h4 h5
 go_enter func167,ntmps167
 go_wp2
 go_ret
 exact⟨rfl,rfl⟩
theorem uM (w:World):Calls prog 167 #[] w fun e w'=>e=.returned (.map (some w.heap.size))∧w'.heap[w.heap.size]?=some (.map gB 5)∧Below w.heap.size w w':=
 (DC w).mono fun _ _ ⟨he,hw⟩=>⟨he,by rw[hw];exact heap_alloc_new _ _,by rw[hw];exact(Below.refl _ w).alloc (Nat.le_refl _) _⟩
theorem Jt (W:World)(b:Nat)(hb:W.heap[b]?=some (.map gB 5)):(Instr.lookup 213 (.map (some b)) (.string Pl.bq) true).run prog W=.ok (.tuple #[.func (.func 222) #[] #[],.bool true]) W:=
 jq W b gB 5 0 _ _ underlying213 underlying9 hb (by kernel_rfl)
theorem Ju (W:World)(b:Nat)(hb:W.heap[b]?=some (.map gB 5)):(Instr.lookup 213 (.map (some b)) (.string Pl.bA) true).run prog W=.ok (.tuple #[.func (.func 224) #[] #[],.bool true]) W:=
 jq W b gB 5 1 _ _ underlying213 underlying9 hb (by kernel_rfl)
theorem Jv (W:World)(b:Nat)(hb:W.heap[b]?=some (.map gB 5)):(Instr.lookup 213 (.map (some b)) (.string Pl.bC) true).run prog W=.ok (.tuple #[.func (.func 226) #[] #[],.bool true]) W:=
 jq W b gB 5 2 _ _ underlying213 underlying9 hb (by kernel_rfl)
theorem Jw (W:World)(b:Nat)(hb:W.heap[b]?=some (.map gB 5)):(Instr.lookup 213 (.map (some b)) (.string Pl.bg) true).run prog W=.ok (.tuple #[.func (.func 228) #[] #[],.bool true]) W:=
 jq W b gB 5 3 _ _ underlying213 underlying9 hb (by kernel_rfl)
theorem F5 (W:World)(b:Nat)(hb:W.heap[b]?=some (.map gB 5)):(Instr.lookup 213 (.map (some b)) (.string Pl.aV) true).run prog W=.ok (.tuple #[.func (.func 230) #[] #[],.bool true]) W:=
 jq W b gB 5 4 _ _ underlying213 underlying9 hb (by kernel_rfl)
theorem F6 (k:ByteArray)(h1:k≠Pl.bq)(h2:k≠Pl.bA)(h3:k≠Pl.bC)(h4:k≠Pl.bg)(h5:k≠Pl.aV):Instr.findNow .string (.string k) gB.toList 0=some none:=by
 have e1:(k==Pl.bq)=false:=by rw[jN];exact decide_eq_false h1
 have e2:(k==Pl.bA)=false:=by rw[jN];exact decide_eq_false h2
 have e3:(k==Pl.bC)=false:=by rw[jN];exact decide_eq_false h3
 have e4:(k==Pl.bg)=false:=by rw[jN];exact decide_eq_false h4
 have e5:(k==Pl.aV)=false:=by rw[jN];exact decide_eq_false h5
 simp[gB,Instr.findNow,Instr.sameNow,e1,e2,e3,e4,e5]
theorem Lx (k:ByteArray)(h1:k≠Pl.bq)(h2:k≠Pl.bA)(h3:k≠Pl.bC)(h4:k≠Pl.bg)(h5:k≠Pl.aV)(W:World)(b:Nat)(hb:W.heap[b]?=some (.map gB 5)):(Instr.lookup 213 (.map (some b)) (.string k) true).run prog W=.ok (.tuple #[.nilFunc,.bool false]) W:=
 Dz W b gB 5 k .nilFunc underlying213 underlying9 (fun W=>by kernel_rfl) hb (F6 k h1 h2 h3 h4 h5)
def kK (n₀:Nat)(w:World)(o:Option Pl.kZ)(e:Ending)(w':World):Prop:=
 Below n₀ w w'∧match o with
  |some x=> ∃v,e=.returned v∧oQ n₀ w'.heap.size w' v x
  |none=>e=.panicked (gave 4)
theorem kK.ok {n₀:Nat}{w w':World}{o:Option Pl.kZ}{e:Ending}{x:Pl.kZ}{v:Value}(ho:o=some x)(hb:Below n₀ w w')(he:e=.returned v)(hF:oQ n₀ w'.heap.size w' v x):kK n₀ w o e w':=by subst ho;exact⟨hb,v,he,hF⟩
theorem kK.no {n₀:Nat}{w w':World}{o:Option Pl.kZ}{e:Ending}(ho:o=none)(hb:Below n₀ w w')(he:e=.panicked (gave 4)):kK n₀ w o e w':=by subst ho;exact⟨hb,he⟩
theorem F7 (A:Option Addr)(c:Nat)(w:World):Calls prog 100 #[.slice A 0 c] w (kK w.heap.size w (Pl.form [])):=by
 go_enter func100,ntmps100
 go_wp2_with (go_at_call 97;refine(bD _ _).mono ?_;rintro e w1 ⟨rfl,hx⟩)
 exact⟨rfl,kK.no rfl hx rfl⟩
theorem DF (A:Option Addr)(c:Nat)(k:ByteArray)(ws:List ByteArray)(w:World)(hw:d9 w w.heap.size A (k::ws))(hm:ws.length<=100000)
  (hlk: ∀W b,W.heap[b]?=some (.map gB 5)->(Instr.lookup 213 (.map (some b)) (.string k) true).run prog W=.ok (.tuple #[.nilFunc,.bool false]) W):
  Calls prog 100 #[.slice A (ws.length+1) c] w (kK w.heap.size w none):=by
 obtain⟨b,off,rfl,hb,q0⟩:=d9.gY hw (k:=0) (by simp)
 simp only[Nat.add_zero,List.getElem_cons_zero]at q0
 have e1:(0:Int)<((ws.length:Nat):Int)+1:=by omega
 go_enter func100,ntmps100
 go_wp2_with ((go_at_call 97;refine(uYs _ _).mono ?_;rintro e w' ⟨rfl,rfl⟩))
 go_region_held3 (fun W=>W.cell? ⟨b,off,none⟩=some (.string k)) (first|exact q0|exact q2) ((go_at_call 167;refine(uM _).mono ?_;rintro e w1 ⟨rfl,hmap,hx⟩;have q2:=(hx.cell (p:=⟨b,off,none⟩) hb).trans q0;have hb1:Below w.heap.size w w1:=((Below.refl _ w).drew).trans hx;have hmap:w1.heap[w.heap.size]?=some (.map gB 5):=(by simpa using hmap);have Ra:=hlk w1 _ hmap;clear hx))
 all_goals go_wp2_with (go_at_call 97;refine(bD _ _).mono ?_;rintro e w2 ⟨rfl,hx⟩)
 all_goals exact⟨rfl,kK.no rfl (hb1.trans (hx.mono hb1.size)) rfl⟩
theorem DK {o:Option (Pl.kZ×List ByteArray)}{x:Pl.kZ}(h:o=some (x,[])):whole o=some x:=by subst h;rfl
theorem DL {o:Option (Pl.kZ×List ByteArray)}(h:o=none):whole o=none:=by subst h;rfl
theorem xH {o:Option (Pl.kZ×List ByteArray)}{x:Pl.kZ}{z:ByteArray}{l:List ByteArray}(h:o=some (x,z::l)):whole o=none:=by subst h;rfl
theorem kG (A:Option Addr)(c:Nat)(k:ByteArray)(ws:List ByteArray)(g:FuncId)(R:Option (Pl.kZ×List ByteArray))(w:World)(hE:Env w)(hw:d9 w w.heap.size A (k::ws))(hc:ws.length+1<=c)(hm:ws.length<=100000)
  (hen: ∀args w,(callFunc g args).run prog w=.ok (.enter g args) w)
  (hlk: ∀W b,W.heap[b]?=some (.map gB 5)->(Instr.lookup 213 (.map (some b)) (.string k) true).run prog W=.ok (.tuple #[.func (.func g) #[] #[],.bool true]) W)
  (hform: ∀W br,Env W->Rd W br ws->8<=br->w.heap.size<=W.heap.size->Calls prog g #[.pointer (some ⟨br,0,none⟩)] W (cu w.heap.size br W R)):
  Calls prog 100 #[.slice A (ws.length+1) c] w (kK w.heap.size w (whole R)):=by
 obtain⟨b,off,rfl,hb,q0⟩:=d9.gY hw (k:=0) (by simp)
 simp only[Nat.add_zero,List.getElem_cons_zero]at q0
 have e1:(0:Int)<((ws.length:Nat):Int)+1:=by omega
 have h8:=hE.size
 go_enter func100,ntmps100
 go_wp2_with ((go_at_call 97;refine(uYs _ _).mono ?_;rintro e w' ⟨rfl,rfl⟩))
 go_region_held3 (fun W=>W.cell? ⟨b,off,none⟩=some (.string k)) (first|exact q0|exact q2) ((go_at_call 167;refine(uM _).mono ?_;rintro e w1 ⟨rfl,hmap,hx⟩;have q2:=(hx.cell (p:=⟨b,off,none⟩) hb).trans q0;have hb1:Below w.heap.size w w1:=((Below.refl _ w).drew).trans hx;have hmap:w1.heap[w.heap.size]?=some (.map gB 5):=(by simpa using hmap);have Ra:=hlk w1 _ hmap;clear hx))
 all_goals go_wp2_with ((go_at_call 97;refine(uYs _ _).mono ?_;rintro e w' ⟨rfl,rfl⟩))
 all_goals have hsz1:=hb1.size
 all_goals have hE1:Env w1:=hE.up hb1
 ·have hws:=(rest_of hw hc).1 ‹_›
  have hR:Rd (w1.alloc (.cells #[.slice (some ⟨b,off,none⟩) ws.length 0] 188)) w1.heap.size ws:=⟨some ⟨b,off,none⟩,0,heap_alloc_new _ _,.inl hws,by rw[hws];simp⟩
  have hBa:Below w.heap.size w (w1.alloc (.cells #[.slice (some ⟨b,off,none⟩) ws.length 0] 188)):=hb1.alloc hsz1 _
  refine(hform _ _ (hE.up hBa) hR (by omega) hBa.size).mono ?_
  rintro e w2 ⟨hg,hm⟩
  have hB2:Below w.heap.size w w2:=hBa.grown hg hBa.size (fun k e=>by cases e;omega)
  cases R with
  |none=>
   subst hm
   exact⟨rfl,kK.no (DL rfl) hB2 rfl⟩
  | some p=>
   obtain⟨x,rr⟩:=p
   obtain⟨⟨v,rfl,hF⟩,hR2⟩:=hm
   cases rr with
   |nil=>
    go_wp2_with (go_at_call 159;refine(ql _ _ hR2).mono ?_;rintro e w3 ⟨rfl,rfl⟩)
    go_ret
    exact kK.ok (DK rfl) hB2 rfl hF
   |cons z l=>
    go_wp2_with (go_at_call 159;refine(t_ _ z l _ hR2).mono ?_;rintro e w3 ⟨rfl,hx3⟩)
    exact⟨rfl,kK.no (xH rfl) (hB2.trans (hx3.mono hB2.size)) rfl⟩
 ·obtain⟨hn,hl⟩:=(rest_of hw hc).2 ‹_›
  have hR:Rd (w1.alloc (.cells #[.slice (some ⟨b,off+1,none⟩) ws.length (c-1)] 188)) w1.heap.size ws:=⟨some ⟨b,off+1,none⟩,c-1,heap_alloc_new _ _,(hn.below (hb1.alloc hsz1 _)).more hsz1,hl⟩
  have hBa:Below w.heap.size w (w1.alloc (.cells #[.slice (some ⟨b,off+1,none⟩) ws.length (c-1)] 188)):=hb1.alloc hsz1 _
  refine(hform _ _ (hE.up hBa) hR (by omega) hBa.size).mono ?_
  rintro e w2 ⟨hg,hm⟩
  have hB2:Below w.heap.size w w2:=hBa.grown hg hBa.size (fun k e=>by cases e;omega)
  cases R with
  |none=>
   subst hm
   exact⟨rfl,kK.no (DL rfl) hB2 rfl⟩
  | some p=>
   obtain⟨x,rr⟩:=p
   obtain⟨⟨v,rfl,hF⟩,hR2⟩:=hm
   cases rr with
   |nil=>
    go_wp2_with (go_at_call 159;refine(ql _ _ hR2).mono ?_;rintro e w3 ⟨rfl,rfl⟩)
    go_ret
    exact kK.ok (DK rfl) hB2 rfl hF
   |cons z l=>
    go_wp2_with (go_at_call 159;refine(t_ _ z l _ hR2).mono ?_;rintro e w3 ⟨rfl,hx3⟩)
    exact⟨rfl,kK.no (xH rfl) (hB2.trans (hx3.mono hB2.size)) rfl⟩
theorem DN (A:Option Addr)(c:Nat)(ws:List ByteArray)(w:World)(hE:Env w)(hw:d9 w w.heap.size A ws)(hc:ws.length<=c)(hs:dK ws):
  Calls prog 100 #[.slice A ws.length c] w (kK w.heap.size w (Pl.form ws)):=by
 cases ws with
 |nil=>exact F7 A c w
 | cons k ws=>
  obtain⟨_,hm,hs'⟩:=hs.tail
  by_cases h1:k=Pl.bq
  ·subst h1
   rw[xC]
   exact kG A c _ ws 222 _ w hE hw hc hm (fun _ _=>by simp[go_sem]) Jt (fun W br hE hR hbr hn=>FR w.heap.size br ws W hE hR hbr hs' hn)
  by_cases h2:k=Pl.bA
  ·subst h2
   rw[xD]
   exact kG A c _ ws 224 _ w hE hw hc hm (fun _ _=>by simp[go_sem]) Ju (fun W br hE hR hbr hn=>FT w.heap.size br ws W hE hR hbr hs' hn)
  by_cases h3:k=Pl.bC
  ·subst h3
   rw[xE]
   exact kG A c _ ws 226 _ w hE hw hc hm (fun _ _=>by simp[go_sem]) Jv (fun W br hE hR hbr hn=>FU w.heap.size br ws W hE hR hbr hs' hn)
  by_cases h4:k=Pl.bg
  ·subst h4
   rw[xG]
   exact kG A c _ ws 228 _ w hE hw hc hm (fun _ _=>by simp[go_sem]) Jw (fun W br hE hR hbr hn=>FV w.heap.size br ws W hE hR hbr hs' hn)
  by_cases h5:k=Pl.aV
  ·subst h5
   rw[uL]
   exact kG A c _ ws 230 _ w hE hw hc hm (fun _ _=>by simp[go_sem]) F5 (fun W br hE hR hbr hn=>Dw w.heap.size br ws W hE hR hbr hs' hn)
  ·rw[zT k ws h1 h2 h5 h3 h4]
   exact DF A c k ws w hw hm (Lx k h1 h2 h3 h4 h5)
theorem lG {o:Option (Pl.kZ×List ByteArray)}{x:Pl.kZ}(h:whole o=some x): ∃r,o=some (x,r):=by
 cases o with
 |none=>cases h
 |some p=>
  obtain⟨y,r⟩:=p
  unfold whole at h
  simp only[Option.bind_some]at h
  split at h
  ·cases h;exact⟨r,rfl⟩
  ·cases h
theorem DR {ws r:List ByteArray}{x:Pl.kZ}(h:jk ws=some (x,r)):x.kind=1:=by
 unfold jk at h
 obtain⟨_,_,h⟩:=Option.bind_eq_some_iff.1 h
 obtain⟨_,_,h⟩:=Option.bind_eq_some_iff.1 h
 obtain⟨_,_,h⟩:=Option.bind_eq_some_iff.1 h
 obtain⟨_,_,h⟩:=Option.bind_eq_some_iff.1 h
 cases h
 rfl
theorem DT {ws r:List ByteArray}{x:Pl.kZ}(h:iC ws=some (x,r)):x.kind=2:=by
 unfold iC at h
 obtain⟨_,_,h⟩:=Option.bind_eq_some_iff.1 h
 obtain⟨_,_,h⟩:=Option.bind_eq_some_iff.1 h
 obtain⟨_,_,h⟩:=Option.bind_eq_some_iff.1 h
 obtain⟨_,_,h⟩:=Option.bind_eq_some_iff.1 h
 obtain⟨_,_,h⟩:=Option.bind_eq_some_iff.1 h
 cases h
 rfl
theorem DU {ws r:List ByteArray}{x:Pl.kZ}(h:jl ws=some (x,r)):x.kind=4:=by
 unfold jl at h
 obtain⟨_,_,h⟩:=Option.bind_eq_some_iff.1 h
 obtain⟨_,_,h⟩:=Option.bind_eq_some_iff.1 h
 obtain⟨_,_,h⟩:=Option.bind_eq_some_iff.1 h
 obtain⟨_,_,h⟩:=Option.bind_eq_some_iff.1 h
 cases h
 rfl
theorem DV {ws r:List ByteArray}{x:Pl.kZ}(h:iD ws=some (x,r)):x.kind=5:=by
 unfold iD at h
 obtain⟨_,_,h⟩:=Option.bind_eq_some_iff.1 h
 obtain⟨_,_,h⟩:=Option.bind_eq_some_iff.1 h
 obtain⟨_,_,h⟩:=Option.bind_eq_some_iff.1 h
 obtain⟨_,_,h⟩:=Option.bind_eq_some_iff.1 h
 obtain⟨_,_,h⟩:=Option.bind_eq_some_iff.1 h
 cases h
 rfl
theorem Bu {ws r:List ByteArray}{x:Pl.kZ}(h:dR ws=some (x,r)):x.kind=3:=by
 unfold dR at h
 obtain⟨_,_,h⟩:=Option.bind_eq_some_iff.1 h
 obtain⟨_,_,h⟩:=Option.bind_eq_some_iff.1 h
 obtain⟨_,_,h⟩:=Option.bind_eq_some_iff.1 h
 obtain⟨_,_,h⟩:=Option.bind_eq_some_iff.1 h
 obtain⟨_,_,h⟩:=Option.bind_eq_some_iff.1 h
 obtain⟨_,_,h⟩:=Option.bind_eq_some_iff.1 h
 obtain⟨_,_,h⟩:=Option.bind_eq_some_iff.1 h
 obtain⟨_,_,h⟩:=Option.bind_eq_some_iff.1 h
 obtain⟨_,_,h⟩:=Option.bind_eq_some_iff.1 h
 obtain⟨_,_,h⟩:=Option.bind_eq_some_iff.1 h
 obtain⟨_,_,h⟩:=Option.bind_eq_some_iff.1 h
 obtain⟨_,_,h⟩:=Option.bind_eq_some_iff.1 h
 cases h
 rfl
theorem Jy {ws:List ByteArray}{x:Pl.kZ}(h:Pl.form ws=some x):x.kind<=5:=by
 cases ws with
 |nil=>cases h
 | cons k r=>
  by_cases h1:k=Pl.bq
  ·subst h1
   rw[xC]at h
   obtain⟨_,h⟩:=lG h
   have:=DR h;omega
  by_cases h2:k=Pl.bA
  ·subst h2
   rw[xD]at h
   obtain⟨_,h⟩:=lG h
   have:=DT h;omega
  by_cases h3:k=Pl.bC
  ·subst h3
   rw[xE]at h
   obtain⟨_,h⟩:=lG h
   have:=DU h;omega
  by_cases h4:k=Pl.bg
  ·subst h4
   rw[xG]at h
   obtain⟨_,h⟩:=lG h
   have:=DV h;omega
  by_cases h5:k=Pl.aV
  ·subst h5
   rw[uL]at h
   obtain⟨_,h⟩:=lG h
   have:=Bu h;omega
  ·rw[zT k r h1 h2 h5 h3 h4]at h
   cases h
theorem DW {f:Pl.aL}{x:Pl.kZ}{y:Int}{c:Pl.aZ}(h:Pl.looked f x y=some c):c.kind=x.kind:=by
 unfold Pl.looked at h
 obtain⟨l,_,h⟩:=Option.bind_eq_some_iff.1 h
 obtain⟨o,_,h⟩:=Option.bind_eq_some_iff.1 h
 obtain⟨s,_,h⟩:=Option.bind_eq_some_iff.1 h
 obtain⟨t,_,rfl⟩:=Option.map_eq_some_iff.1 h
 rfl
def uN (n₀:Nat)(w:World)(r:Except Int Pl.aZ)(e:Ending)(w':World):Prop:=
 Below n₀ w w'∧match r with
  | .ok c=>e=.returned (.agg (kq c))
  | .error E=>e=.panicked (gave E)
theorem uN.ok {n₀:Nat}{w w':World}{r:Except Int Pl.aZ}{e:Ending}(c:Pl.aZ)(hr:r=.ok c)(hb:Below n₀ w w')(he:e=.returned (.agg (kq c))):uN n₀ w r e w':=by subst hr;exact⟨hb,he⟩
theorem uN.no {n₀:Nat}{w w':World}{r:Except Int Pl.aZ}{e:Ending}(E:Int)(hr:r=.error E)(hb:Below n₀ w w')(he:e=.panicked (gave E)):uN n₀ w r e w':=by subst hr;exact⟨hb,he⟩
attribute [-go_sem] run_equalIn_agg storeVar loadVar
attribute [local go_sem] bZ bH dU aT eB
def mH :Array Value:=bP
theorem Rb (n₀ N:Nat)(v:Value)(x:Pl.kZ)(year:Int)(w:World)(hF:oQ n₀ N w v x)(hN:N<=w.heap.size)(hx5:x.kind<=255)(hf:bB w n₀ A1 A2 A3 A4 f)(hn:n₀<=w.heap.size)(hm:Small f)(hc:dY c1 c2 c3 c4 f)(hE:Pl.aR f=0):
  Calls prog 99 #[v,.agg (fq A1 A2 A3 A4 c1 c2 c3 c4 f),.int .i64 year] w (uN n₀ w (Pl.jF f x year)):=by
 obtain⟨g,cap,rfl,hen,hF⟩:=hF
 have kf:=heap_alloc2_old w (.cells (fq A1 A2 A3 A4 c1 c2 c3 c4 f) 28) (.cells mH 48)
 have kr:=heap_alloc2_new w (.cells (fq A1 A2 A3 A4 c1 c2 c3 c4 f) 28) (.cells mH 48)
 have hb:Below w.heap.size w ((w.alloc (.cells (fq A1 A2 A3 A4 c1 c2 c3 c4 f) 28)).alloc (.cells mH 48)):=((Below.refl _ w).alloc (Nat.le_refl _) _).alloc (by simp) _
 have hl1:=ak kf underlying28 rfl av
 have hz:((w.alloc (.cells (fq A1 A2 A3 A4 c1 c2 c3 c4 f) 28)).alloc (.cells mH 48)).heap.size=w.heap.size+2:=by simp
 have hform:=hF _ hb A1 A2 A3 A4 c1 c2 c3 c4 f year (hf.below (hb.mono hn)) (by omega) hm
 unfold mH at kf kr hb hl1 hz hform
 clear hF
 go_enter func99,ntmps99
 go_wp2_with fail
 refine hform.mono ?_
 rintro e w1 ⟨hx,hm1⟩
 have hbn:=(hb.mono hn).trans hx.b
 have hsz0:w.heap.size+2<=w1.heap.size:=by have:=hx.b.size;omega
 cases ho:Pl.looked f x year with
 |none=>
  rw[ho]at hm1
  subst hm1
  exact⟨rfl,uN.no 5 (by unfold Pl.jF;rw[ho]) hbn rfl⟩
 |some c=>
 rw[ho]at hm1
 subst hm1
 have hk:c.kind<=255:=by rw[DW ho];exact hx5
 have HO:=Lib.hid ho
 clear ho
 have kf:=(hx.k w.heap.size (by omega) (by omega)).trans kf
 have kr:=(hx.k (w.heap.size+1) (by omega) (by omega)).trans kr
 have hB2:Below w1.heap.size w1 (w1.alloc (.cells bP 48)):=(Below.refl _ w1).alloc (Nat.le_refl _) _
 obtain⟨W2,hst,k7,hg2⟩:=aG _ w1.heap.size _ 48 _ (kq c) (heap_alloc_new w1 (.cells bP 48)) aj rfl (by simp[Value.oneCell'])
 have hB2:Below w1.heap.size w1 W2:=hB2.grown hg2 hB2.size (fun k e=>by cases e;exact Nat.le_refl _)
 have kf:=(hB2.block w.heap.size (by omega)).trans kf
 have kr:=(hB2.block (w.heap.size+1) (by omega)).trans kr
 have hsz2:=hB2.size
 have hl2:=ak kf underlying28 rfl av
 have hl3:=ak k7 underlying48 rfl aj
 have Rc:Below n₀ w W2:=hbn.trans (hB2.mono (by omega))
 obtain⟨E,Vq⟩: ∃E,Pl.fP f c=E:=⟨_,rfl⟩
 have WS:=Lib.hid Vq
 have hck:=Ie A1 A2 A3 A4 c1 c2 c3 c4 f c W2 ((hf.below Rc).more (by omega)) hm hc hE hk
 rw[Vq]at hck
 clear Vq hform hl1 hx hg2
 by_cases h0:E=0
 ·subst h0
  go_wp2_with (go_at_call 108;refine hck.mono ?_;rintro e w3 ⟨rfl,hx⟩;have xI:=kE hx kr;have Vr:=kE hx k7;have Rf:Below n₀ w w3:=Rc.trans (hx.mono (by omega));have oq:=hx.size;have hl4:=ak Vr underlying48 rfl aj;obtain⟨W5,Vs,FM,hg5⟩:=aG _ (w.heap.size+1) _ 48 _ (kq c) xI aj rfl (by simp[Value.oneCell']);have hl5:=ak FM underlying48 rfl aj;clear hx)
  refine bodyPost_ret (v:=.agg (kq c)) (by simp[results,results99,go_sem,hl5]) rfl ?_
  exact uN.ok c (by unfold Pl.jF;rw[HO.out];simp[WS.out]) (Rf.grown hg5 (by omega) (fun k e=>by cases e;omega)) rfl
 ·have hne:(E !=0)=true:=by simpa using h0
  go_wp2_with (go_at_call 108;refine hck.mono ?_;rintro e w3 ⟨rfl,hx⟩;have xI:=kE hx kr;have Vr:=kE hx k7;have Rf:Below n₀ w w3:=Rc.trans (hx.mono (by omega));have oq:=hx.size;have hl4:=ak Vr underlying48 rfl aj;obtain⟨W5,Vs,FM,hg5⟩:=aG _ (w.heap.size+1) _ 48 _ (kq c) xI aj rfl (by simp[Value.oneCell']);have hl5:=ak FM underlying48 rfl aj;clear hx)
  exact⟨rfl,uN.no E (by unfold Pl.jF;rw[HO.out];simp[WS.out,h0]) Rf rfl⟩
