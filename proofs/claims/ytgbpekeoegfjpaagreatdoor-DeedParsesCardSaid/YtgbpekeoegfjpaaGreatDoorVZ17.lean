/- Proved: parts of the walk. -/
import Derived.Test.YtgbpekeoegfjpaaGreatDoorVZ12
import Derived.Test.YtgbpekeoegfjpaaGreatDoorVZ16
set_option maxRecDepth 100000
set_option maxHeartbeats 4000000
namespace Go.Proofs
open Tryz RowKit
def dR (ws:List ByteArray):Option (Pl.kZ×List ByteArray):=
 (aP ws).bind fun p1=>(aP p1.2).bind fun p2=>(aP p2.2).bind fun p3=>(Pl.upTo Pl.rM 6 p3.2).bind fun p4=>(Pl.iQ p4.1).bind fun n=>(Pl.upTo Pl.eD 3 p4.2).bind fun p5=>(Pl.fQ p5.1).bind fun d=>
  (bN p5.2).bind fun p6=>(ou Pl.fT p6.2).bind fun p7=>(gL p7.2).bind fun p8=>(ou Pl.eu p8.2).bind fun p9=>(bN p9.2).bind fun QV=>some (⟨3,p1.1,⟨#[]⟩,p2.1,p3.1,0,0,⟨d,p6.1,n,0,p8.1,QV.1⟩⟩,QV.2)
theorem xB {k:ByteArray}{ws r:List ByteArray}{u:Unit}(h:ou k ws=some (u,r))(hs:dK ws):dK r:=by
 cases ws with
 |nil=>cases h
 |cons x l=>
  by_cases hx:x=k
  ·rw[Dp hx]at h;cases h;exact hs.tail.2.2
  ·rw[Ii hx]at h;cases h
theorem Lr {l:List ByteArray}{n:Nat}(hs: ∀x∈l,x.size<=n)(hl:l.length<=6):(Pl.eZ l).size<=6+n*6:=by
 have:=Pl.join_le [32] (xs:=l.map (·.data.toList)) (N:=n) (by
  intro x hx
  obtain⟨y,hy,rfl⟩:=List.mem_map.1 hx
  have:=hs y hy
  have e:y.data.toList.length=y.size:=Array.length_toList
  omega)
 simp only[List.length_map,List.length_singleton]at this
 have h1:n*l.length<=n*6:=Nat.mul_le_mul_left n hl
 show(Lib.join (l.map (·.data.toList)) [32]).toArray.size<=6+n*6
 rw[List.size_toArray]
 omega
theorem Jr {k s:ByteArray}{most n:Nat}{ws r:List ByteArray}(h:Pl.upTo k most ws=some (s,r))(hm:most<=6)(hs: ∀x∈ws,x.size<=n):s.size<=6+n*6:=by
 unfold Pl.upTo at h
 obtain⟨i,_,h⟩:=Option.bind_eq_some_iff.1 h
 split at h
 ·cases h
  exact Lr (fun x hx=>hs x (List.mem_of_mem_take hx)) (by simp;omega)
 ·cases h
theorem Dw (n₀ br:Nat)(ws:List ByteArray)(w:World)(hE:Env w)(hR:Rd w br ws)(hbr:8<=br)(hs:dK ws)(hn:n₀<=w.heap.size):
  Calls prog 230 #[.pointer (some ⟨br,0,none⟩)] w (cu n₀ br w (dR ws)):=by
 have hlt:=hR.lt
 have hG:w.grownBy w (some br):=lu w (some br)
 have Cv: ∀(fn:Fn) (first cap:Array Value) (w:World),(Instr.makeFunc fn first cap).run prog w=.ok (.func fn first cap) w:=fun _ _ _ _=>rfl
 go_enter func230,ntmps230
 go_wp2_with fail
 refine(fM br ws _ hR hs).mono ?_
 rintro e w1 ⟨hg,hm⟩
 cases h1:aP ws with
 |none=>
  rw[h1]at hm
  subst hm
  exact⟨rfl,cu.no (by simp[dR,h1]) (hG.trans hg) rfl⟩
 |some p1=>
 obtain⟨v1,r1⟩:=p1
 rw[h1]at hm
 obtain⟨rfl,hR⟩:=hm
 have hs1:=b_ h1 hs
 have H1:=Lib.hid h1
 clear h1
 have hG:=(hG.trans hg).trans ((World.grownBy_alloc w1 (.cells #[.string v1] 9) none).but (some br))
 have hR:=hR.below ((Below.refl _ w1).alloc (Nat.le_refl _) (.cells #[.string v1] 9))
 have hlo1:br<w1.heap.size:=by have:=hg.size;omega
 have hw1:w.heap.size<=w1.heap.size:=hg.size
 have k1:=heap_alloc_new w1 (.cells #[.string v1] 9)
 clear hg
 go_wp2_with fail
 generalize mK:w1.alloc (.cells #[.string v1] 9)=W1 at*
 clear mK
 refine(fM br r1 _ hR hs1).mono ?_
 rintro e w2 ⟨hg,hm⟩
 cases h2:aP r1 with
 |none=>
  rw[h2]at hm
  subst hm
  exact⟨rfl,cu.no (by simp[dR,H1.out,h2]) (hG.trans hg) rfl⟩
 |some p2=>
 obtain⟨v2,r2⟩:=p2
 rw[h2]at hm
 obtain⟨rfl,hR⟩:=hm
 have hs2:=b_ h2 hs1
 have H2:=Lib.hid h2
 clear h2
 have hG:=(hG.trans hg).trans ((World.grownBy_alloc w2 (.cells #[.string v2] 9) none).but (some br))
 have hR:=hR.below ((Below.refl _ w2).alloc (Nat.le_refl _) (.cells #[.string v2] 9))
 have hlo2:br<w2.heap.size:=by have:=hg.size;have:=(lO k1);omega
 have hw2:w1.heap.size<w2.heap.size:=by have:=hg.size;have:=(lO k1);omega
 have k1:=aF hg k1 hlo1
 have k1:=(Below.heap_alloc w2 (.cells #[.string v2] 9) _ (lO k1)).trans k1
 have k2:=heap_alloc_new w2 (.cells #[.string v2] 9)
 clear hg
 go_wp2_with fail
 generalize mK:w2.alloc (.cells #[.string v2] 9)=W2 at*
 clear mK
 refine(fM br r2 _ hR hs2).mono ?_
 rintro e w3 ⟨hg,hm⟩
 cases h3:aP r2 with
 |none=>
  rw[h3]at hm
  subst hm
  exact⟨rfl,cu.no (by simp[dR,H1.out,H2.out,h3]) (hG.trans hg) rfl⟩
 |some p3=>
 obtain⟨v3,r3⟩:=p3
 rw[h3]at hm
 obtain⟨rfl,hR⟩:=hm
 have hs3:=b_ h3 hs2
 have H3:=Lib.hid h3
 clear h3
 have hG:=(hG.trans hg).trans ((World.grownBy_alloc w3 (.cells #[.string v3] 9) none).but (some br))
 have hR:=hR.below ((Below.refl _ w3).alloc (Nat.le_refl _) (.cells #[.string v3] 9))
 have hlo3:br<w3.heap.size:=by have:=hg.size;have:=(lO k2);omega
 have hw3:w2.heap.size<w3.heap.size:=by have:=hg.size;have:=(lO k2);omega
 have k1:=aF hg k1 hlo1
 have k1:=(Below.heap_alloc w3 (.cells #[.string v3] 9) _ (lO k1)).trans k1
 have k2:=aF hg k2 hlo2
 have k2:=(Below.heap_alloc w3 (.cells #[.string v3] 9) _ (lO k2)).trans k2
 have k3:=heap_alloc_new w3 (.cells #[.string v3] 9)
 clear hg
 generalize mK:w3.alloc (.cells #[.string v3] 9)=W3 at*
 have hz3:W3.heap.size=w3.heap.size+1:=by rw[<-mK];simp
 have kx:=heap_alloc_new W3 (.cells z6 46)
 rw[hz3]at kx
 have hG:=hG.trans ((World.grownBy_alloc W3 (.cells z6 46) none).but (some br))
 have hR:=hR.below ((Below.refl _ W3).alloc (Nat.le_refl _) (.cells z6 46))
 have k1:=(Below.heap_alloc W3 (.cells z6 46) _ (lO k1)).trans k1
 have k2:=(Below.heap_alloc W3 (.cells z6 46) _ (lO k2)).trans k2
 have k3:=(Below.heap_alloc W3 (.cells z6 46) _ (lO k3)).trans k3
 subst mK
 go_wp2_with fail
 generalize (w3.alloc (.cells #[.string v3] 9)).alloc (.cells z6 46)=W4 at*
 clear hz3
 obtain⟨bx,hbx⟩: ∃bx,w3.heap.size+1=bx:=⟨_,rfl⟩
 have vE:br<bx:=by omega
 have Ls:w.heap.size<=bx:=by omega
 have Yd:w1.heap.size<bx:=by omega
 have Ye:w2.heap.size<bx:=by omega
 have Yf:w3.heap.size<bx:=by omega
 rw[hbx]at kx ⊢
 clear hbx
 refine(Ij br r3 Pl.rM 6 _ hR hs3 (by decide)).mono ?_
 rintro e w4 ⟨hg,hm⟩
 cases h4:Pl.upTo Pl.rM 6 r3 with
 |none=>
  rw[h4]at hm
  subst hm
  exact⟨rfl,cu.no (by simp[dR,H1.out,H2.out,H3.out,h4]) (hG.trans hg) rfl⟩
 |some p4=>
 obtain⟨v4,r4⟩:=p4
 rw[h4]at hm
 obtain⟨rfl,hR⟩:=hm
 have hs4:=xk h4 hs3
 have hv4:v4.size<=1000000:=by have:=Jr h4 (by decide) hs3.2;omega
 have H4:=Lib.hid h4
 clear h4
 have hG:=hG.trans hg
 have kx:=aF hg kx vE
 have k1:=aF hg k1 hlo1
 have k2:=aF hg k2 hlo2
 have k3:=aF hg k3 hlo3
 clear hg
 go_wp2_with fail
 refine(OQ v4 _ (hE.below (aO hlt hG) hbr) hv4).mono ?_
 rintro e w5 ⟨rfl,hx⟩
 have hG:=bO hG hx
 have hR:=hR.below hx
 have kx:=kE hx kx
 have k1:=kE hx k1
 have k2:=kE hx k2
 have k3:=kE hx k3
 clear hx
 obtain⟨hcx,hfx⟩:=ah kx
 cases h5:Pl.fG Pl.cO Pl.aY v4 with
 |none=>
  have HN:Hid (Pl.iQ v4=none):=Lib.hid (by unfold Pl.iQ;rw[h5];rfl)
  simp only[kJ,lZ,Option.getD_none,Option.isSome_none,Bool.false_eq_true,if_false]
  clear h5
  go_wp2_with (go_at_call 97;refine(bD _ _).mono ?_;rintro e w6 ⟨rfl,hx⟩)
  exact⟨rfl,cu.no (by simp[dR,H1.out,H2.out,H3.out,H4.out,HN.out]) (bO hG hx) rfl⟩
 |some n=>
 simp only[kJ,lZ,Option.getD_some,Option.isSome_some,if_true]
 cases hin:Pl.bQ n 1 100000 with
 |false=>
  have HN:Hid (Pl.iQ v4=none):=Lib.hid (by unfold Pl.iQ;rw[h5];simp[Pl.bQ]at hin ⊢;omega)
  clear h5
  go_wp2_with (first|(go_at_call 84;refine(dP _ _ _ _).mono ?_;rintro e w' ⟨rfl,rfl⟩)|(go_at_call 97;refine(bD _ _).mono ?_;rintro e w6 ⟨rfl,hx⟩))
  exact⟨rfl,cu.no (by simp[dR,H1.out,H2.out,H3.out,H4.out,HN.out]) (bO hG hx) rfl⟩
 |true=>
 have H5:Hid (Pl.iQ v4=some n):=Lib.hid (by unfold Pl.iQ;rw[h5];simp[Pl.bQ]at hin ⊢;omega)
 clear h5
 have hgs:=cB w5 bx 2 (.int .i64 n)
 have hG:=hG.andThen hgs (fun j e=>by cases e;exact .inl Ls)
 have hR:=hR.kept hgs vE
 have k1:=(hgs.block _ (lO k1) (by simp;omega)).trans k1
 have k2:=(hgs.block _ (lO k2) (by simp;omega)).trans k2
 have k3:=(hgs.block _ (lO k3) (by simp;omega)).trans k3
 have kx:=heap_setCell_same w5 bx 2 _ _ (.int .i64 n) kx
 simp only[q1,q2,q3]at kx
 clear hgs
 go_wp2_with (first|(go_at_call 84;refine(dP _ _ _ _).mono ?_;rintro e w' ⟨rfl,rfl⟩)|(go_at_call 97;refine(uYs _ _).mono ?_;rintro e w' ⟨rfl,rfl⟩))
 clear hcx hfx hin
 generalize w5.setCell ⟨bx,2,none⟩ (.int .i64 n)=W5 at*
 refine(Ij br r4 Pl.eD 3 _ hR hs4 (by decide)).mono ?_
 rintro e w6 ⟨hg,hm⟩
 cases h6:Pl.upTo Pl.eD 3 r4 with
 |none=>
  rw[h6]at hm
  subst hm
  exact⟨rfl,cu.no (by simp[dR,H1.out,H2.out,H3.out,H4.out,H5.out,h6]) (hG.trans hg) rfl⟩
 |some p6=>
 obtain⟨v6,r6⟩:=p6
 rw[h6]at hm
 obtain⟨rfl,hR⟩:=hm
 have hs6:=xk h6 hs4
 have H6:=Lib.hid h6
 clear h6
 have hG:=hG.trans hg
 have kx:=aF hg kx vE
 have k1:=aF hg k1 hlo1
 have k2:=aF hg k2 hlo2
 have k3:=aF hg k3 hlo3
 clear hg
 go_wp2_with fail
 refine(QU v6 _).mono ?_
 rintro e w7 ⟨rfl,hx⟩
 have hG:=bO hG hx
 have hR:=hR.below hx
 have kx:=kE hx kx
 have k1:=kE hx k1
 have k2:=kE hx k2
 have k3:=kE hx k3
 clear hx
 obtain⟨hcx,hfx⟩:=ah kx
 cases h7:Pl.fQ v6 with
 |none=>
  simp only[kJ,lZ,Option.getD_none,Option.isSome_none,Bool.false_eq_true,if_false]
  have H7:=Lib.hid h7
  clear h7
  go_wp2_with (go_at_call 97;refine(bD _ _).mono ?_;rintro e w8 ⟨rfl,hx⟩)
  exact⟨rfl,cu.no (by simp[dR,H1.out,H2.out,H3.out,H4.out,H5.out,H6.out,H7.out]) (bO hG hx) rfl⟩
 |some d=>
 simp only[kJ,lZ,Option.getD_some,Option.isSome_some,if_true]
 have H7:=Lib.hid h7
 clear h7
 have hgs:=cB w7 bx 0 (.int .i64 d)
 have hG:=hG.andThen hgs (fun j e=>by cases e;exact .inl Ls)
 have hR:=hR.kept hgs vE
 have k1:=(hgs.block _ (lO k1) (by simp;omega)).trans k1
 have k2:=(hgs.block _ (lO k2) (by simp;omega)).trans k2
 have k3:=(hgs.block _ (lO k3) (by simp;omega)).trans k3
 have kx:=heap_setCell_same w7 bx 0 _ _ (.int .i64 d) kx
 simp only[List.setIfInBounds_toArray]at kx
 clear hgs
 go_wp2_with ((go_at_call 97;refine(uYs _ _).mono ?_;rintro e w' ⟨rfl,rfl⟩))
 clear hcx hfx
 generalize w7.setCell ⟨bx,0,none⟩ (.int .i64 d)=W7 at*
 refine(iL br r6 _ (hE.below (aO hlt hG) hbr) hR hbr hs6).mono ?_
 rintro e w8 ⟨hg,hm⟩
 cases h8:bN r6 with
 |none=>
  rw[h8]at hm
  subst hm
  exact⟨rfl,cu.no (by simp[dR,H1.out,H2.out,H3.out,H4.out,H5.out,H6.out,H7.out,h8]) (hG.trans hg) rfl⟩
 |some p8=>
 obtain⟨v8,r8⟩:=p8
 rw[h8]at hm
 obtain⟨rfl,hR⟩:=hm
 have WH:=iT h8 hs6
 have H8:=Lib.hid h8
 clear h8
 have hG:=hG.trans hg
 have kx:=aF hg kx vE
 have k1:=aF hg k1 hlo1
 have k2:=aF hg k2 hlo2
 have k3:=aF hg k3 hlo3
 clear hg
 obtain⟨hcx,hfx⟩:=ah kx
 have hgs:=cB w8 bx 1 (.int .i64 v8)
 have hG:=hG.andThen hgs (fun j e=>by cases e;exact .inl Ls)
 have hR:=hR.kept hgs vE
 have k1:=(hgs.block _ (lO k1) (by simp;omega)).trans k1
 have k2:=(hgs.block _ (lO k2) (by simp;omega)).trans k2
 have k3:=(hgs.block _ (lO k3) (by simp;omega)).trans k3
 have kx:=heap_setCell_same w8 bx 1 _ _ (.int .i64 v8) kx
 simp only[List.setIfInBounds_toArray]at kx
 clear hgs
 go_wp2_with fail
 clear hcx hfx
 generalize w8.setCell ⟨bx,1,none⟩ (.int .i64 v8)=W8 at*
 refine(zS br r8 Pl.fT _ hR WH).mono ?_
 rintro e w9 ⟨hg,hm⟩
 cases h9:ou Pl.fT r8 with
 |none=>
  rw[h9]at hm
  subst hm
  exact⟨rfl,cu.no (by simp[dR,H1.out,H2.out,H3.out,H4.out,H5.out,H6.out,H7.out,H8.out,h9]) (hG.trans hg) rfl⟩
 |some p9=>
 obtain⟨u9,r9⟩:=p9
 rw[h9]at hm
 obtain⟨rfl,hR⟩:=hm
 have WI:=xB h9 WH
 have H9:=Lib.hid h9
 clear h9
 have hG:=hG.trans hg
 have kx:=aF hg kx vE
 have k1:=aF hg k1 hlo1
 have k2:=aF hg k2 hlo2
 have k3:=aF hg k3 hlo3
 clear hg
 go_wp2_with fail
 refine(oO br r9 _ (hE.below (aO hlt hG) hbr) hR hbr WI).mono ?_
 rintro e Js ⟨hg,hm⟩
 cases h10:gL r9 with
 |none=>
  rw[h10]at hm
  subst hm
  exact⟨rfl,cu.no (by simp[dR,H1.out,H2.out,H3.out,H4.out,H5.out,H6.out,H7.out,H8.out,H9.out,h10]) (hG.trans hg) rfl⟩
 |some QV=>
 obtain⟨v10,WJ⟩:=QV
 rw[h10]at hm
 obtain⟨rfl,hR⟩:=hm
 have S_:=w_ h10 WI
 have Vg:=Lib.hid h10
 clear h10
 have hG:=hG.trans hg
 have kx:=aF hg kx vE
 have k1:=aF hg k1 hlo1
 have k2:=aF hg k2 hlo2
 have k3:=aF hg k3 hlo3
 clear hg
 obtain⟨hcx,hfx⟩:=ah kx
 have hgs:=cB Js bx 4 (.int .i64 v10)
 have hG:=hG.andThen hgs (fun j e=>by cases e;exact .inl Ls)
 have hR:=hR.kept hgs vE
 have k1:=(hgs.block _ (lO k1) (by simp;omega)).trans k1
 have k2:=(hgs.block _ (lO k2) (by simp;omega)).trans k2
 have k3:=(hgs.block _ (lO k3) (by simp;omega)).trans k3
 have kx:=heap_setCell_same Js bx 4 _ _ (.int .i64 v10) kx
 simp only[q1,q2,q3]at kx
 clear hgs
 go_wp2_with fail
 clear hcx hfx
 generalize Js.setCell ⟨bx,4,none⟩ (.int .i64 v10)=ZO at*
 refine(zS br WJ Pl.eu _ hR S_).mono ?_
 rintro e ZP ⟨hg,hm⟩
 cases h11:ou Pl.eu WJ with
 |none=>
  rw[h11]at hm
  subst hm
  exact⟨rfl,cu.no (by simp[dR,H1.out,H2.out,H3.out,H4.out,H5.out,H6.out,H7.out,H8.out,H9.out,Vg.out,h11]) (hG.trans hg) rfl⟩
 |some Yg=>
 obtain⟨ZQ,WK⟩:=Yg
 rw[h11]at hm
 obtain⟨rfl,hR⟩:=hm
 have Ta:=xB h11 S_
 have WL:=Lib.hid h11
 clear h11
 have hG:=hG.trans hg
 have kx:=aF hg kx vE
 have k1:=aF hg k1 hlo1
 have k2:=aF hg k2 hlo2
 have k3:=aF hg k3 hlo3
 clear hg
 go_wp2_with fail
 refine(iL br WK _ (hE.below (aO hlt hG) hbr) hR hbr Ta).mono ?_
 rintro e Vh ⟨hg,hm⟩
 cases h12:bN WK with
 |none=>
  rw[h12]at hm
  subst hm
  exact⟨rfl,cu.no (by simp[dR,H1.out,H2.out,H3.out,H4.out,H5.out,H6.out,H7.out,H8.out,H9.out,Vg.out,WL.out,h12]) (hG.trans hg) rfl⟩
 |some Vi=>
 obtain⟨v12,Yh⟩:=Vi
 rw[h12]at hm
 obtain⟨rfl,hR⟩:=hm
 have Vj:=iT h12 Ta
 have Yi:=Lib.hid h12
 clear h12
 have hG:=hG.trans hg
 have kx:=aF hg kx vE
 have k1:=aF hg k1 hlo1
 have k2:=aF hg k2 hlo2
 have k3:=aF hg k3 hlo3
 clear hg
 obtain⟨hcx,hfx⟩:=ah kx
 have hgs:=cB Vh bx 5 (.int .i64 v12)
 have hG:=hG.andThen hgs (fun j e=>by cases e;exact .inl Ls)
 have hR:=hR.kept hgs vE
 have k1:=(hgs.block _ (lO k1) (by simp;omega)).trans k1
 have k2:=(hgs.block _ (lO k2) (by simp;omega)).trans k2
 have k3:=(hgs.block _ (lO k3) (by simp;omega)).trans k3
 have kx:=heap_setCell_same Vh bx 5 _ _ (.int .i64 v12) kx
 simp only[q1,q2,q3]at kx
 clear hgs
 go_wp2
 clear hcx hfx
 generalize Vh.setCell ⟨bx,5,none⟩ (.int .i64 v12)=WM at*
 go_ret
 refine cu.ok (x:=⟨3,v1,⟨#[]⟩,v2,v3,0,0,⟨d,v8,n,0,v10,v12⟩⟩) (r:=Yh) (by simp[dR,H1.out,H2.out,H3.out,H4.out,H5.out,H6.out,H7.out,H8.out,H9.out,Vg.out,WL.out,Yi.out]) hG rfl ⟨235,#[.pointer (some ⟨bx,0,none⟩),.pointer (some ⟨w1.heap.size,0,none⟩),.pointer (some ⟨w2.heap.size,0,none⟩),.pointer (some ⟨w3.heap.size,0,none⟩)],rfl,fun args W=>enters_of (P:=prog) func235 (by kernel_rfl) rfl args W,fun W' hW' A1 A2 A3 A4 c1 c2 c3 c4 f year hf hn' hm=> ?_⟩ hR
 have hk: ∀b o,WM.heap[b]?=some o->W'.heap[b]?=some o:=fun b o h=>(hW'.block b (lO h)).trans h
 have:=Dk A1 A2 A3 A4 c1 c2 c3 c4 f n₀ WM.heap.size v1 v2 v3 ⟨d,v8,n,0,v10,v12⟩ bx w1.heap.size w2.heap.size w3.heap.size year W' hf hn' hm (by omega) (lO kx) (hk _ _ kx) (hk _ _ k1) (hk _ _ k2) (hk _ _ k3)
 simpa using this
open RowKit
def whole (o:Option (Pl.kZ×List ByteArray)):Option Pl.kZ:=o.bind fun p=>if p.2=[]then some p.1 else none
theorem xC : ∀r:List ByteArray,Pl.form (Pl.bq::r)=whole (jk r)
 | []=>rfl
 | [a]=>by cases h:Pl.isName a<;>simp[Pl.form,whole,jk,aP,bN,h]
 | [a,b]=>by cases h:Pl.isName a<;>cases h2:Pl.isName b<;>simp[Pl.form,whole,jk,aP,bN,h,h2]
 | [a,b,c]=>by cases h:Pl.isName a<;>cases h2:Pl.isName b<;>cases h3:Pl.bV c<;>simp[Pl.form,whole,jk,aP,bN,h,h2,h3]
 | [a,b,c,d]=>by cases h:Pl.isName a<;>cases h2:Pl.isName b<;>cases h3:Pl.bV c<;>cases h4:Pl.bV d<;>simp[Pl.form,whole,jk,aP,bN,h,h2,h3,h4]
 |a::b::c::d::e::r=>by cases h:Pl.isName a<;>cases h2:Pl.isName b<;>cases h3:Pl.bV c<;>cases h4:Pl.bV d<;>simp[Pl.form,whole,jk,aP,bN,h,h2,h3,h4]
theorem xD : ∀r:List ByteArray,Pl.form (Pl.bA::r)=whole (iC r)
 | []=>rfl
 | [a]=>by cases h:Pl.isName a<;>simp[Pl.form,whole,iC,aP,bN,h,show ¬Pl.bA=Pl.bq by decide]
 | [a,b]=>by cases h:Pl.isName a<;>cases h2:Pl.isName b<;>simp[Pl.form,whole,iC,aP,bN,h,h2,show ¬Pl.bA=Pl.bq by decide]
 | [a,b,c]=>by cases h:Pl.isName a<;>cases h2:Pl.isName b<;>cases h3:Pl.isName c<;>simp[Pl.form,whole,iC,aP,bN,h,h2,h3,show ¬Pl.bA=Pl.bq by decide]
 | [a,b,c,d]=>by cases h:Pl.isName a<;>cases h2:Pl.isName b<;>cases h3:Pl.isName c<;>cases h4:Pl.bV d<;>simp[Pl.form,whole,iC,aP,bN,h,h2,h3,h4,show ¬Pl.bA=Pl.bq by decide]
 | [a,b,c,d,e]=>by cases h:Pl.isName a<;>cases h2:Pl.isName b<;>cases h3:Pl.isName c<;>cases h4:Pl.bV d<;>cases h5:Pl.bV e<;>simp[Pl.form,whole,iC,aP,bN,h,h2,h3,h4,h5,show ¬Pl.bA=Pl.bq by decide]
 |a::b::c::d::e::g::r=>by cases h:Pl.isName a<;>cases h2:Pl.isName b<;>cases h3:Pl.isName c<;>cases h4:Pl.bV d<;>cases h5:Pl.bV e<;>simp[Pl.form,whole,iC,aP,bN,h,h2,h3,h4,h5,show ¬Pl.bA=Pl.bq by decide]
theorem xE : ∀r:List ByteArray,Pl.form (Pl.bC::r)=whole (jl r)
 | []=>rfl
 | [a]=>by cases h:Pl.isName a<;>simp[Pl.form,whole,jl,aP,h,show ¬Pl.bC=Pl.bq by decide,show ¬Pl.bC=Pl.bA by decide,show ¬Pl.bC=Pl.aV by decide]
 | [a,b]=>by cases h:Pl.isName a<;>cases h2:Pl.isName b<;>simp[Pl.form,whole,jl,aP,h,h2,show ¬Pl.bC=Pl.bq by decide,show ¬Pl.bC=Pl.bA by decide,show ¬Pl.bC=Pl.aV by decide]
 | [a,b,c]=>by cases h:Pl.isName a<;>cases h2:Pl.isName b<;>cases h3:Pl.isName c<;>simp[Pl.form,whole,jl,aP,h,h2,h3,show ¬Pl.bC=Pl.bq by decide,show ¬Pl.bC=Pl.bA by decide,show ¬Pl.bC=Pl.aV by decide]
 | [a,b,c,d]=>by cases h:Pl.isName a<;>cases h2:Pl.isName b<;>cases h3:Pl.isName c<;>cases h4:Pl.isName d<;>simp[Pl.form,whole,jl,aP,h,h2,h3,h4,show ¬Pl.bC=Pl.bq by decide,show ¬Pl.bC=Pl.bA by decide,show ¬Pl.bC=Pl.aV by decide]
 |a::b::c::d::e::r=>by cases h:Pl.isName a<;>cases h2:Pl.isName b<;>cases h3:Pl.isName c<;>cases h4:Pl.isName d<;>simp[Pl.form,whole,jl,aP,h,h2,h3,h4,show ¬Pl.bC=Pl.bq by decide,show ¬Pl.bC=Pl.bA by decide,show ¬Pl.bC=Pl.aV by decide]
theorem xG : ∀r:List ByteArray,Pl.form (Pl.bg::r)=whole (iD r)
 | []=>rfl
 | [a]=>by cases h:Pl.isName a<;>simp[Pl.form,whole,iD,aP,h,show ¬Pl.bg=Pl.bq by decide,show ¬Pl.bg=Pl.bA by decide,show ¬Pl.bg=Pl.aV by decide,show ¬Pl.bg=Pl.bC by decide]
 | [a,b]=>by cases h:Pl.isName a<;>cases h2:Pl.isName b<;>simp[Pl.form,whole,iD,aP,h,h2,show ¬Pl.bg=Pl.bq by decide,show ¬Pl.bg=Pl.bA by decide,show ¬Pl.bg=Pl.aV by decide,show ¬Pl.bg=Pl.bC by decide]
 | [a,b,c]=>by cases h:Pl.isName a<;>cases h2:Pl.isName b<;>cases h3:Pl.isName c<;>simp[Pl.form,whole,iD,aP,gL,h,h2,h3,show ¬Pl.bg=Pl.bq by decide,show ¬Pl.bg=Pl.bA by decide,show ¬Pl.bg=Pl.aV by decide,show ¬Pl.bg=Pl.bC by decide]
 | [a,b,c,d]=>by cases h:Pl.isName a<;>cases h2:Pl.isName b<;>cases h3:Pl.isName c<;>cases h4:Pl.fK d<;>simp[Pl.form,whole,iD,aP,gL,bN,h,h2,h3,h4,show ¬Pl.bg=Pl.bq by decide,show ¬Pl.bg=Pl.bA by decide,show ¬Pl.bg=Pl.aV by decide,show ¬Pl.bg=Pl.bC by decide]
 | [a,b,c,d,e]=>by cases h:Pl.isName a<;>cases h2:Pl.isName b<;>cases h3:Pl.isName c<;>cases h4:Pl.fK d<;>cases h5:Pl.bV e<;>simp[Pl.form,whole,iD,aP,gL,bN,h,h2,h3,h4,h5,show ¬Pl.bg=Pl.bq by decide,show ¬Pl.bg=Pl.bA by decide,show ¬Pl.bg=Pl.aV by decide,show ¬Pl.bg=Pl.bC by decide]
 |a::b::c::d::e::g::r=>by cases h:Pl.isName a<;>cases h2:Pl.isName b<;>cases h3:Pl.isName c<;>cases h4:Pl.fK d<;>cases h5:Pl.bV e<;>simp[Pl.form,whole,iD,aP,gL,bN,h,h2,h3,h4,h5,show ¬Pl.bg=Pl.bq by decide,show ¬Pl.bg=Pl.bA by decide,show ¬Pl.bg=Pl.aV by decide,show ¬Pl.bg=Pl.bC by decide]
def qH (q:List ByteArray):Option ((Int×Int×Int)×List ByteArray):=
 (bN q).bind fun p6=>(ou Pl.fT p6.2).bind fun p7=>(gL p7.2).bind fun p8=>(ou Pl.eu p8.2).bind fun p9=>(bN p9.2).bind fun QV=>some ((p6.1,p8.1,QV.1),QV.2)
theorem tRW (d n:Int): ∀q:List ByteArray,((qH q).bind fun p=>if p.2=[]then some (⟨d,p.1.1,n,0,p.1.2.1,p.1.2.2⟩:Pl.bF)else none)=(match q with
  | [ne,we,x,sl,s]=>if we=Pl.fT∧sl=Pl.eu then (Pl.bV ne).bind fun ne=>(Pl.fK x).bind fun x=>(Pl.bV s).map fun s=>(⟨d,ne,n,0,x,s⟩:Pl.bF)else none
  |_=>none)
 | []=>rfl
 | [a]=>by cases h:Pl.bV a<;>simp[qH,bN,ou,h]
 | [a,b]=>by cases h:Pl.bV a<;>by_cases h2:b=Pl.fT<;>simp[qH,bN,ou,gL,h,h2]
 | [a,b,c]=>by cases h:Pl.bV a<;>by_cases h2:b=Pl.fT<;>cases h3:Pl.fK c<;>simp[qH,bN,ou,gL,h,h2,h3]
 | [a,b,c,e]=>by cases h:Pl.bV a<;>by_cases h2:b=Pl.fT<;>cases h3:Pl.fK c<;>by_cases h4:e=Pl.eu<;>simp[qH,bN,ou,gL,h,h2,h3,h4]
 | [a,b,c,e,g]=>by cases h:Pl.bV a<;>by_cases h2:b=Pl.fT<;>cases h3:Pl.fK c<;>by_cases h4:e=Pl.eu<;>cases h5:Pl.bV g<;>simp[qH,bN,ou,gL,h,h2,h3,h4,h5]
 |a::b::c::e::g::i::r=>by cases h:Pl.bV a<;>by_cases h2:b=Pl.fT<;>cases h3:Pl.fK c<;>by_cases h4:e=Pl.eu<;>cases h5:Pl.bV g<;>simp[qH,bN,ou,gL,h,h2,h3,h4,h5]
theorem FZ (ws:List ByteArray):dR ws=(aP ws).bind fun p1=>(aP p1.2).bind fun p2=>(aP p2.2).bind fun p3=>(Pl.upTo Pl.rM 6 p3.2).bind fun p4=>(Pl.iQ p4.1).bind fun n=>(Pl.upTo Pl.eD 3 p4.2).bind fun p5=>(Pl.fQ p5.1).bind fun d=>
  (qH p5.2).bind fun p=>some (⟨3,p1.1,⟨#[]⟩,p2.1,p3.1,0,0,⟨d,p.1.1,n,0,p.1.2.1,p.1.2.2⟩⟩,p.2):=by
 unfold dR qH
 simp only[Option.bind_assoc,Option.bind_some]
theorem lC {α:Type}(o:Option α)(g:α->Option (Pl.kZ×List ByteArray)):whole (o.bind g)=o.bind fun a=>whole (g a):=by
 cases o<;>rfl
theorem OU (a b c:ByteArray)(w:List ByteArray):whole ((Pl.upTo Pl.rM 6 w).bind fun p4=>(Pl.iQ p4.1).bind fun n=>(Pl.upTo Pl.eD 3 p4.2).bind fun p5=>(Pl.fQ p5.1).bind fun d=>
  (qH p5.2).bind fun p=>some (⟨3,a,⟨#[]⟩,b,c,0,0,⟨d,p.1.1,n,0,p.1.2.1,p.1.2.2⟩⟩,p.2))=(Pl.Fw w).map fun x=>⟨3,a,⟨#[]⟩,b,c,0,0,x⟩:=by
 unfold Pl.Fw
 rw[lC,Option.map_bind]
 congr 1;funext p4
 rw[lC]
 show _=Option.map _ ((Pl.iQ p4.1).bind _)
 rw[Option.map_bind]
 congr 1;funext n
 rw[lC]
 show _=Option.map _ ((Pl.upTo Pl.eD 3 p4.2).bind _)
 rw[Option.map_bind]
 congr 1;funext p5
 rw[lC]
 show _=Option.map _ ((Pl.fQ p5.1).bind _)
 rw[Option.map_bind]
 congr 1;funext d
 have h:=tRW d n p5.2
 simp only[Function.comp_apply]
 refine Eq.trans ?_ (congrArg (Option.map fun x=>(⟨3,a,⟨#[]⟩,b,c,0,0,x⟩:Pl.kZ)) h)
 rw[lC,Option.map_bind]
 congr 1;funext p
 unfold whole
 by_cases hp:p.2=[]<;>simp[hp]
theorem uL : ∀r:List ByteArray,Pl.form (Pl.aV::r)=whole (dR r)
 | []=>rfl
 | [a]=>by cases h:Pl.isName a<;>simp[Pl.form,whole,dR,aP,h,show ¬Pl.aV=Pl.bq by decide,show ¬Pl.aV=Pl.bA by decide]
 | [a,b]=>by cases h:Pl.isName a<;>cases h2:Pl.isName b<;>simp[Pl.form,whole,dR,aP,h,h2,show ¬Pl.aV=Pl.bq by decide,show ¬Pl.aV=Pl.bA by decide]
 | a::b::c::w=>by
  rw[FZ]
  cases h:Pl.isName a with
  |false=>simp[Pl.form,whole,aP,h,show ¬Pl.aV=Pl.bq by decide,show ¬Pl.aV=Pl.bA by decide]
  |true=>
  cases h2:Pl.isName b with
  |false=>simp[Pl.form,whole,aP,h,h2,show ¬Pl.aV=Pl.bq by decide,show ¬Pl.aV=Pl.bA by decide]
  |true=>
  cases h3:Pl.isName c with
  |false=>simp[Pl.form,whole,aP,h,h2,h3,show ¬Pl.aV=Pl.bq by decide,show ¬Pl.aV=Pl.bA by decide]
  |true=>
   have hk:=OU a b c w
   rw[mY h,Option.bind_some,mY h2,Option.bind_some,mY h3,Option.bind_some]
   rw[hk]
   simp[Pl.form,h,h2,h3,show ¬Pl.aV=Pl.bq by decide,show ¬Pl.aV=Pl.bA by decide]
theorem zT (k:ByteArray)(r:List ByteArray)(h1:k≠Pl.bq)(h2:k≠Pl.bA)(h3:k≠Pl.aV)(h4:k≠Pl.bC)(h5:k≠Pl.bg):Pl.form (k::r)=none:=by
 simp[Pl.form,h1,h2,h3,h4,h5]
