/- Texts of mine, merged: EK, EL. -/
import Derived.Test.YtgbpekeoegfjpaaGreatDoorZ13
import Derived.Test.YtgbpekeoegfjpaaGreatDoorZ16
import Derived.Test.YtgbpekeoegfjpaaGreatDoorZ00
import Derived.Test.YtgbpekeoegfjpaaGreatDoorZ02
/- Walk: the words of a course read, as far as no field is needed. -/
set_option maxRecDepth 100000
namespace Go.Proofs.YtgbpekeoegfjpaaGreatDoor
open Go.RowKit
def courseR (ws:List ByteArray):Option (Pl.Frm×List ByteArray):=
 (nameR ws).bind fun p1=>(nameR p1.2).bind fun p2=>(nameR p2.2).bind fun p3=>(Pl.upTo Pl.wBy 6 p3.2).bind fun p4=>(Pl.linksV p4.1).bind fun n=>(Pl.upTo Pl.wGive 3 p4.2).bind fun p5=>(Pl.bearV p5.1).bind fun d=>
  (numR p5.2).bind fun p6=>(litR Pl.wWear p6.2).bind fun p7=>(sgnR p7.2).bind fun p8=>(litR Pl.wSlack p8.2).bind fun p9=>(numR p9.2).bind fun p10=>some (⟨3,p1.1,⟨#[]⟩,p2.1,p3.1,0,0,⟨d,p6.1,n,0,p8.1,p10.1⟩⟩,p10.2)
theorem litR_sizes {k:ByteArray}{ws r:List ByteArray}{u:Unit}(h:litR k ws=some (u,r))(hs:Sizes ws):Sizes r:=by
 cases ws with
 |nil=>cases h
 |cons x l=>
  by_cases hx:x=k
  ·rw[litR_yes hx]at h;cases h;exact hs.tail.2.2
  ·rw[litR_no hx]at h;cases h
theorem joinB_le {l:List ByteArray}{n:Nat}(hs: ∀x∈l,x.size<=n)(hl:l.length<=6):(Pl.joinB l).size<=6+n*6:=by
 have:=Pl.join_le [32] (xs:=l.map (·.data.toList)) (N:=n) (by
  intro x hx
  obtain⟨y,hy,rfl⟩:=List.mem_map.1 hx
  have:=hs y hy
  have e:y.data.toList.length=y.size:=Array.length_toList
  omega)
 simp only[List.length_map,List.length_singleton]at this
 have h1:n*l.length<=n*6:=Nat.mul_le_mul_left n hl
 show(Lib.join (l.map (·.data.toList)) [32]).toArray.size<=6+n*6
 rw[List.size_toArray]
 omega
theorem upTo_word {k s:ByteArray}{most n:Nat}{ws r:List ByteArray}(h:Pl.upTo k most ws=some (s,r))(hm:most<=6)(hs: ∀x∈ws,x.size<=n):s.size<=6+n*6:=by
 unfold Pl.upTo at h
 obtain⟨i,_,h⟩:=Option.bind_eq_some_iff.1 h
 split at h
 ·cases h
  exact joinB_le (fun x hx=>hs x (List.mem_of_mem_take hx)) (by simp;omega)
 ·cases h
set_option maxHeartbeats 4000000 in
theorem read_course (n₀ br:Nat)(ws:List ByteArray)(w:World)(hE:Env w)(hR:Rd w br ws)(hbr:8<=br)(hs:Sizes ws)(hn:n₀<=w.heap.size):
  Calls Tryz.prog 230 #[.pointer (some ⟨br,0,none⟩)] w (EndFm n₀ br w (courseR ws)):=by
 have hlt:=hR.lt
 have hG:w.grownBy w (some br):=grown_self w (some br)
 have hmf: ∀(fn:Fn) (first cap:Array Value) (w:World),(Instr.makeFunc fn first cap).run Tryz.prog w=.ok (.func fn first cap) w:=fun _ _ _ _=>rfl
 go_enter Tryz.func230,Tryz.ntmps230
 go_wp2_with fail
 refine(name_a br ws _ hR hs).mono ?_
 rintro e w1 ⟨hg,hm⟩
 cases h1:nameR ws with
 |none=>
  rw[h1]at hm
  subst hm
  exact⟨rfl,EndFm.no (by simp[courseR,h1]) (hG.trans hg) rfl⟩
 |some p1=>
 obtain⟨v1,r1⟩:=p1
 rw[h1]at hm
 obtain⟨rfl,hR⟩:=hm
 have hs1:=nameR_sizes h1 hs
 have H1:=Lib.hid h1
 clear h1
 have hG:=(hG.trans hg).trans ((World.grownBy_alloc w1 (.cells #[.string v1] 9) none).but (some br))
 have hR:=hR.below ((Below.refl _ w1).alloc (Nat.le_refl _) (.cells #[.string v1] 9))
 have hlo1:br<w1.heap.size:=by have:=hg.size;omega
 have hw1:w.heap.size<=w1.heap.size:=hg.size
 have k1:=heap_alloc_new w1 (.cells #[.string v1] 9)
 clear hg
 go_wp2_with fail
 generalize hWW:w1.alloc (.cells #[.string v1] 9)=W1 at*
 clear hWW
 refine(name_a br r1 _ hR hs1).mono ?_
 rintro e w2 ⟨hg,hm⟩
 cases h2:nameR r1 with
 |none=>
  rw[h2]at hm
  subst hm
  exact⟨rfl,EndFm.no (by simp[courseR,H1.out,h2]) (hG.trans hg) rfl⟩
 |some p2=>
 obtain⟨v2,r2⟩:=p2
 rw[h2]at hm
 obtain⟨rfl,hR⟩:=hm
 have hs2:=nameR_sizes h2 hs1
 have H2:=Lib.hid h2
 clear h2
 have hG:=(hG.trans hg).trans ((World.grownBy_alloc w2 (.cells #[.string v2] 9) none).but (some br))
 have hR:=hR.below ((Below.refl _ w2).alloc (Nat.le_refl _) (.cells #[.string v2] 9))
 have hlo2:br<w2.heap.size:=by have:=hg.size;have:=(lO k1);omega
 have hw2:w1.heap.size<w2.heap.size:=by have:=hg.size;have:=(lO k1);omega
 have k1:=grown_ne hg k1 hlo1
 have k1:=(Below.heap_alloc w2 (.cells #[.string v2] 9) _ (lO k1)).trans k1
 have k2:=heap_alloc_new w2 (.cells #[.string v2] 9)
 clear hg
 go_wp2_with fail
 generalize hWW:w2.alloc (.cells #[.string v2] 9)=W2 at*
 clear hWW
 refine(name_a br r2 _ hR hs2).mono ?_
 rintro e w3 ⟨hg,hm⟩
 cases h3:nameR r2 with
 |none=>
  rw[h3]at hm
  subst hm
  exact⟨rfl,EndFm.no (by simp[courseR,H1.out,H2.out,h3]) (hG.trans hg) rfl⟩
 |some p3=>
 obtain⟨v3,r3⟩:=p3
 rw[h3]at hm
 obtain⟨rfl,hR⟩:=hm
 have hs3:=nameR_sizes h3 hs2
 have H3:=Lib.hid h3
 clear h3
 have hG:=(hG.trans hg).trans ((World.grownBy_alloc w3 (.cells #[.string v3] 9) none).but (some br))
 have hR:=hR.below ((Below.refl _ w3).alloc (Nat.le_refl _) (.cells #[.string v3] 9))
 have hlo3:br<w3.heap.size:=by have:=hg.size;have:=(lO k2);omega
 have hw3:w2.heap.size<w3.heap.size:=by have:=hg.size;have:=(lO k2);omega
 have k1:=grown_ne hg k1 hlo1
 have k1:=(Below.heap_alloc w3 (.cells #[.string v3] 9) _ (lO k1)).trans k1
 have k2:=grown_ne hg k2 hlo2
 have k2:=(Below.heap_alloc w3 (.cells #[.string v3] 9) _ (lO k2)).trans k2
 have k3:=heap_alloc_new w3 (.cells #[.string v3] 9)
 clear hg
 generalize hWW:w3.alloc (.cells #[.string v3] 9)=W3 at*
 have hz3:W3.heap.size=w3.heap.size+1:=by rw[<-hWW];simp
 have kx:=heap_alloc_new W3 (.cells z6 46)
 rw[hz3]at kx
 have hG:=hG.trans ((World.grownBy_alloc W3 (.cells z6 46) none).but (some br))
 have hR:=hR.below ((Below.refl _ W3).alloc (Nat.le_refl _) (.cells z6 46))
 have k1:=(Below.heap_alloc W3 (.cells z6 46) _ (lO k1)).trans k1
 have k2:=(Below.heap_alloc W3 (.cells z6 46) _ (lO k2)).trans k2
 have k3:=(Below.heap_alloc W3 (.cells z6 46) _ (lO k3)).trans k3
 subst hWW
 go_wp2_with fail
 generalize (w3.alloc (.cells #[.string v3] 9)).alloc (.cells z6 46)=W4 at*
 clear hz3
 obtain⟨bx,hbx⟩: ∃bx,w3.heap.size+1=bx:=⟨_,rfl⟩
 have hbxr:br<bx:=by omega
 have hbxw:w.heap.size<=bx:=by omega
 have hbx1:w1.heap.size<bx:=by omega
 have hbx2:w2.heap.size<bx:=by omega
 have hbx3:w3.heap.size<bx:=by omega
 rw[hbx]at kx ⊢
 clear hbx
 refine(until_a br r3 Pl.wBy 6 _ hR hs3 (by decide)).mono ?_
 rintro e w4 ⟨hg,hm⟩
 cases h4:Pl.upTo Pl.wBy 6 r3 with
 |none=>
  rw[h4]at hm
  subst hm
  exact⟨rfl,EndFm.no (by simp[courseR,H1.out,H2.out,H3.out,h4]) (hG.trans hg) rfl⟩
 |some p4=>
 obtain⟨v4,r4⟩:=p4
 rw[h4]at hm
 obtain⟨rfl,hR⟩:=hm
 have hs4:=upTo_sizes h4 hs3
 have hv4:v4.size<=1000000:=by have:=upTo_word h4 (by decide) hs3.2;omega
 have H4:=Lib.hid h4
 clear h4
 have hG:=hG.trans hg
 have kx:=grown_ne hg kx hbxr
 have k1:=grown_ne hg k1 hlo1
 have k2:=grown_ne hg k2 hlo2
 have k3:=grown_ne hg k3 hlo3
 clear hg
 go_wp2_with fail
 refine(links_a v4 _ (hE.below (below_of_grown hlt hG) hbr) hv4).mono ?_
 rintro e w5 ⟨rfl,hx⟩
 have hG:=grown_up hG hx
 have hR:=hR.below hx
 have kx:=kE hx kx
 have k1:=kE hx k1
 have k2:=kE hx k2
 have k3:=kE hx k3
 clear hx
 obtain⟨hcx,hfx⟩:=blk_cells kx
 cases h5:Pl.readV Pl.poles Pl.lengthV v4 with
 |none=>
  have HN:Hid (Pl.linksV v4=none):=Lib.hid (by unfold Pl.linksV;rw[h5];rfl)
  simp only[readN,readE,Option.getD_none,Option.isSome_none,Bool.false_eq_true,if_false]
  clear h5
  go_wp2_with (go_at_call 97;refine(unless_no _ _).mono ?_;rintro e w6 ⟨rfl,hx⟩)
  exact⟨rfl,EndFm.no (by simp[courseR,H1.out,H2.out,H3.out,H4.out,HN.out]) (grown_up hG hx) rfl⟩
 |some n=>
 simp only[readN,readE,Option.getD_some,Option.isSome_some,if_true]
 cases hin:Pl.inB n 1 100000 with
 |false=>
  have HN:Hid (Pl.linksV v4=none):=Lib.hid (by unfold Pl.linksV;rw[h5];simp[Pl.inB]at hin ⊢;omega)
  clear h5
  go_wp2_with (first|(go_at_call 84;refine(inD_a _ _ _ _).mono ?_;rintro e w' ⟨rfl,rfl⟩)|(go_at_call 97;refine(unless_no _ _).mono ?_;rintro e w6 ⟨rfl,hx⟩))
  exact⟨rfl,EndFm.no (by simp[courseR,H1.out,H2.out,H3.out,H4.out,HN.out]) (grown_up hG hx) rfl⟩
 |true=>
 have H5:Hid (Pl.linksV v4=some n):=Lib.hid (by unfold Pl.linksV;rw[h5];simp[Pl.inB]at hin ⊢;omega)
 clear h5
 have hgs:=grown_set w5 bx 2 (.int .i64 n)
 have hG:=hG.andThen hgs (fun j e=>by cases e;exact .inl hbxw)
 have hR:=hR.kept hgs hbxr
 have k1:=(hgs.block _ (lO k1) (by simp;omega)).trans k1
 have k2:=(hgs.block _ (lO k2) (by simp;omega)).trans k2
 have k3:=(hgs.block _ (lO k3) (by simp;omega)).trans k3
 have kx:=heap_setCell_same w5 bx 2 _ _ (.int .i64 n) kx
 simp only[q1,q2,q3]at kx
 clear hgs
 go_wp2_with (first|(go_at_call 84;refine(inD_a _ _ _ _).mono ?_;rintro e w' ⟨rfl,rfl⟩)|(go_at_call 97;refine(unless_yes _ _).mono ?_;rintro e w' ⟨rfl,rfl⟩))
 clear hcx hfx hin
 generalize w5.setCell ⟨bx,2,none⟩ (.int .i64 n)=W5 at*
 refine(until_a br r4 Pl.wGive 3 _ hR hs4 (by decide)).mono ?_
 rintro e w6 ⟨hg,hm⟩
 cases h6:Pl.upTo Pl.wGive 3 r4 with
 |none=>
  rw[h6]at hm
  subst hm
  exact⟨rfl,EndFm.no (by simp[courseR,H1.out,H2.out,H3.out,H4.out,H5.out,h6]) (hG.trans hg) rfl⟩
 |some p6=>
 obtain⟨v6,r6⟩:=p6
 rw[h6]at hm
 obtain⟨rfl,hR⟩:=hm
 have hs6:=upTo_sizes h6 hs4
 have H6:=Lib.hid h6
 clear h6
 have hG:=hG.trans hg
 have kx:=grown_ne hg kx hbxr
 have k1:=grown_ne hg k1 hlo1
 have k2:=grown_ne hg k2 hlo2
 have k3:=grown_ne hg k3 hlo3
 clear hg
 go_wp2_with fail
 refine(bear_a v6 _).mono ?_
 rintro e w7 ⟨rfl,hx⟩
 have hG:=grown_up hG hx
 have hR:=hR.below hx
 have kx:=kE hx kx
 have k1:=kE hx k1
 have k2:=kE hx k2
 have k3:=kE hx k3
 clear hx
 obtain⟨hcx,hfx⟩:=blk_cells kx
 cases h7:Pl.bearV v6 with
 |none=>
  simp only[readN,readE,Option.getD_none,Option.isSome_none,Bool.false_eq_true,if_false]
  have H7:=Lib.hid h7
  clear h7
  go_wp2_with (go_at_call 97;refine(unless_no _ _).mono ?_;rintro e w8 ⟨rfl,hx⟩)
  exact⟨rfl,EndFm.no (by simp[courseR,H1.out,H2.out,H3.out,H4.out,H5.out,H6.out,H7.out]) (grown_up hG hx) rfl⟩
 |some d=>
 simp only[readN,readE,Option.getD_some,Option.isSome_some,if_true]
 have H7:=Lib.hid h7
 clear h7
 have hgs:=grown_set w7 bx 0 (.int .i64 d)
 have hG:=hG.andThen hgs (fun j e=>by cases e;exact .inl hbxw)
 have hR:=hR.kept hgs hbxr
 have k1:=(hgs.block _ (lO k1) (by simp;omega)).trans k1
 have k2:=(hgs.block _ (lO k2) (by simp;omega)).trans k2
 have k3:=(hgs.block _ (lO k3) (by simp;omega)).trans k3
 have kx:=heap_setCell_same w7 bx 0 _ _ (.int .i64 d) kx
 simp only[List.setIfInBounds_toArray]at kx
 clear hgs
 go_wp2_with ((go_at_call 97;refine(unless_yes _ _).mono ?_;rintro e w' ⟨rfl,rfl⟩))
 clear hcx hfx
 generalize w7.setCell ⟨bx,0,none⟩ (.int .i64 d)=W7 at*
 refine(number_a br r6 _ (hE.below (below_of_grown hlt hG) hbr) hR hbr hs6).mono ?_
 rintro e w8 ⟨hg,hm⟩
 cases h8:numR r6 with
 |none=>
  rw[h8]at hm
  subst hm
  exact⟨rfl,EndFm.no (by simp[courseR,H1.out,H2.out,H3.out,H4.out,H5.out,H6.out,H7.out,h8]) (hG.trans hg) rfl⟩
 |some p8=>
 obtain⟨v8,r8⟩:=p8
 rw[h8]at hm
 obtain⟨rfl,hR⟩:=hm
 have hs8:=numR_sizes h8 hs6
 have H8:=Lib.hid h8
 clear h8
 have hG:=hG.trans hg
 have kx:=grown_ne hg kx hbxr
 have k1:=grown_ne hg k1 hlo1
 have k2:=grown_ne hg k2 hlo2
 have k3:=grown_ne hg k3 hlo3
 clear hg
 obtain⟨hcx,hfx⟩:=blk_cells kx
 have hgs:=grown_set w8 bx 1 (.int .i64 v8)
 have hG:=hG.andThen hgs (fun j e=>by cases e;exact .inl hbxw)
 have hR:=hR.kept hgs hbxr
 have k1:=(hgs.block _ (lO k1) (by simp;omega)).trans k1
 have k2:=(hgs.block _ (lO k2) (by simp;omega)).trans k2
 have k3:=(hgs.block _ (lO k3) (by simp;omega)).trans k3
 have kx:=heap_setCell_same w8 bx 1 _ _ (.int .i64 v8) kx
 simp only[List.setIfInBounds_toArray]at kx
 clear hgs
 go_wp2_with fail
 clear hcx hfx
 generalize w8.setCell ⟨bx,1,none⟩ (.int .i64 v8)=W8 at*
 refine(literal_a br r8 Pl.wWear _ hR hs8).mono ?_
 rintro e w9 ⟨hg,hm⟩
 cases h9:litR Pl.wWear r8 with
 |none=>
  rw[h9]at hm
  subst hm
  exact⟨rfl,EndFm.no (by simp[courseR,H1.out,H2.out,H3.out,H4.out,H5.out,H6.out,H7.out,H8.out,h9]) (hG.trans hg) rfl⟩
 |some p9=>
 obtain⟨u9,r9⟩:=p9
 rw[h9]at hm
 obtain⟨rfl,hR⟩:=hm
 have hs9:=litR_sizes h9 hs8
 have H9:=Lib.hid h9
 clear h9
 have hG:=hG.trans hg
 have kx:=grown_ne hg kx hbxr
 have k1:=grown_ne hg k1 hlo1
 have k2:=grown_ne hg k2 hlo2
 have k3:=grown_ne hg k3 hlo3
 clear hg
 go_wp2_with fail
 refine(signed_a br r9 _ (hE.below (below_of_grown hlt hG) hbr) hR hbr hs9).mono ?_
 rintro e w10 ⟨hg,hm⟩
 cases h10:sgnR r9 with
 |none=>
  rw[h10]at hm
  subst hm
  exact⟨rfl,EndFm.no (by simp[courseR,H1.out,H2.out,H3.out,H4.out,H5.out,H6.out,H7.out,H8.out,H9.out,h10]) (hG.trans hg) rfl⟩
 |some p10=>
 obtain⟨v10,r10⟩:=p10
 rw[h10]at hm
 obtain⟨rfl,hR⟩:=hm
 have hs10:=sgnR_sizes h10 hs9
 have H10:=Lib.hid h10
 clear h10
 have hG:=hG.trans hg
 have kx:=grown_ne hg kx hbxr
 have k1:=grown_ne hg k1 hlo1
 have k2:=grown_ne hg k2 hlo2
 have k3:=grown_ne hg k3 hlo3
 clear hg
 obtain⟨hcx,hfx⟩:=blk_cells kx
 have hgs:=grown_set w10 bx 4 (.int .i64 v10)
 have hG:=hG.andThen hgs (fun j e=>by cases e;exact .inl hbxw)
 have hR:=hR.kept hgs hbxr
 have k1:=(hgs.block _ (lO k1) (by simp;omega)).trans k1
 have k2:=(hgs.block _ (lO k2) (by simp;omega)).trans k2
 have k3:=(hgs.block _ (lO k3) (by simp;omega)).trans k3
 have kx:=heap_setCell_same w10 bx 4 _ _ (.int .i64 v10) kx
 simp only[q1,q2,q3]at kx
 clear hgs
 go_wp2_with fail
 clear hcx hfx
 generalize w10.setCell ⟨bx,4,none⟩ (.int .i64 v10)=W10 at*
 refine(literal_a br r10 Pl.wSlack _ hR hs10).mono ?_
 rintro e w11 ⟨hg,hm⟩
 cases h11:litR Pl.wSlack r10 with
 |none=>
  rw[h11]at hm
  subst hm
  exact⟨rfl,EndFm.no (by simp[courseR,H1.out,H2.out,H3.out,H4.out,H5.out,H6.out,H7.out,H8.out,H9.out,H10.out,h11]) (hG.trans hg) rfl⟩
 |some p11=>
 obtain⟨u11,r11⟩:=p11
 rw[h11]at hm
 obtain⟨rfl,hR⟩:=hm
 have hs11:=litR_sizes h11 hs10
 have H11:=Lib.hid h11
 clear h11
 have hG:=hG.trans hg
 have kx:=grown_ne hg kx hbxr
 have k1:=grown_ne hg k1 hlo1
 have k2:=grown_ne hg k2 hlo2
 have k3:=grown_ne hg k3 hlo3
 clear hg
 go_wp2_with fail
 refine(number_a br r11 _ (hE.below (below_of_grown hlt hG) hbr) hR hbr hs11).mono ?_
 rintro e w12 ⟨hg,hm⟩
 cases h12:numR r11 with
 |none=>
  rw[h12]at hm
  subst hm
  exact⟨rfl,EndFm.no (by simp[courseR,H1.out,H2.out,H3.out,H4.out,H5.out,H6.out,H7.out,H8.out,H9.out,H10.out,H11.out,h12]) (hG.trans hg) rfl⟩
 |some p12=>
 obtain⟨v12,r12⟩:=p12
 rw[h12]at hm
 obtain⟨rfl,hR⟩:=hm
 have hs12:=numR_sizes h12 hs11
 have H12:=Lib.hid h12
 clear h12
 have hG:=hG.trans hg
 have kx:=grown_ne hg kx hbxr
 have k1:=grown_ne hg k1 hlo1
 have k2:=grown_ne hg k2 hlo2
 have k3:=grown_ne hg k3 hlo3
 clear hg
 obtain⟨hcx,hfx⟩:=blk_cells kx
 have hgs:=grown_set w12 bx 5 (.int .i64 v12)
 have hG:=hG.andThen hgs (fun j e=>by cases e;exact .inl hbxw)
 have hR:=hR.kept hgs hbxr
 have k1:=(hgs.block _ (lO k1) (by simp;omega)).trans k1
 have k2:=(hgs.block _ (lO k2) (by simp;omega)).trans k2
 have k3:=(hgs.block _ (lO k3) (by simp;omega)).trans k3
 have kx:=heap_setCell_same w12 bx 5 _ _ (.int .i64 v12) kx
 simp only[q1,q2,q3]at kx
 clear hgs
 go_wp2
 clear hcx hfx
 generalize w12.setCell ⟨bx,5,none⟩ (.int .i64 v12)=W12 at*
 go_ret
 refine EndFm.ok (x:=⟨3,v1,⟨#[]⟩,v2,v3,0,0,⟨d,v8,n,0,v10,v12⟩⟩) (r:=r12) (by simp[courseR,H1.out,H2.out,H3.out,H4.out,H5.out,H6.out,H7.out,H8.out,H9.out,H10.out,H11.out,H12.out]) hG rfl ⟨235,#[.pointer (some ⟨bx,0,none⟩),.pointer (some ⟨w1.heap.size,0,none⟩),.pointer (some ⟨w2.heap.size,0,none⟩),.pointer (some ⟨w3.heap.size,0,none⟩)],rfl,fun args W=>enters_of (P:=Tryz.prog) Tryz.func235 (by kernel_rfl) rfl args W,fun W' hW' A1 A2 A3 A4 c1 c2 c3 c4 f year hf hn' hm=> ?_⟩ hR
 have hk: ∀b o,W12.heap[b]?=some o->W'.heap[b]?=some o:=fun b o h=>(hW'.block b (lO h)).trans h
 have:=made_course A1 A2 A3 A4 c1 c2 c3 c4 f n₀ W12.heap.size v1 v2 v3 ⟨d,v8,n,0,v10,v12⟩ bx w1.heap.size w2.heap.size w3.heap.size year W' hf hn' hm (by omega) (lO kx) (hk _ _ kx) (hk _ _ k1) (hk _ _ k2) (hk _ _ k3)
 simpa using this
open Go.RowKit
def whole (o:Option (Pl.Frm×List ByteArray)):Option Pl.Frm:=o.bind fun p=>if p.2=[]then some p.1 else none
theorem form_stone : ∀r:List ByteArray,Pl.form (Pl.wStone::r)=whole (stoneR r)
 | []=>rfl
 | [a]=>by cases h:Pl.isName a<;>simp[Pl.form,whole,stoneR,nameR,numR,h]
 | [a,b]=>by cases h:Pl.isName a<;>cases h2:Pl.isName b<;>simp[Pl.form,whole,stoneR,nameR,numR,h,h2]
 | [a,b,c]=>by cases h:Pl.isName a<;>cases h2:Pl.isName b<;>cases h3:Pl.numF c<;>simp[Pl.form,whole,stoneR,nameR,numR,h,h2,h3]
 | [a,b,c,d]=>by cases h:Pl.isName a<;>cases h2:Pl.isName b<;>cases h3:Pl.numF c<;>cases h4:Pl.numF d<;>simp[Pl.form,whole,stoneR,nameR,numR,h,h2,h3,h4]
 |a::b::c::d::e::r=>by cases h:Pl.isName a<;>cases h2:Pl.isName b<;>cases h3:Pl.numF c<;>cases h4:Pl.numF d<;>simp[Pl.form,whole,stoneR,nameR,numR,h,h2,h3,h4]
theorem form_width : ∀r:List ByteArray,Pl.form (Pl.wWidth::r)=whole (widthR r)
 | []=>rfl
 | [a]=>by cases h:Pl.isName a<;>simp[Pl.form,whole,widthR,nameR,numR,h,show ¬Pl.wWidth=Pl.wStone by decide]
 | [a,b]=>by cases h:Pl.isName a<;>cases h2:Pl.isName b<;>simp[Pl.form,whole,widthR,nameR,numR,h,h2,show ¬Pl.wWidth=Pl.wStone by decide]
 | [a,b,c]=>by cases h:Pl.isName a<;>cases h2:Pl.isName b<;>cases h3:Pl.isName c<;>simp[Pl.form,whole,widthR,nameR,numR,h,h2,h3,show ¬Pl.wWidth=Pl.wStone by decide]
 | [a,b,c,d]=>by cases h:Pl.isName a<;>cases h2:Pl.isName b<;>cases h3:Pl.isName c<;>cases h4:Pl.numF d<;>simp[Pl.form,whole,widthR,nameR,numR,h,h2,h3,h4,show ¬Pl.wWidth=Pl.wStone by decide]
 | [a,b,c,d,e]=>by cases h:Pl.isName a<;>cases h2:Pl.isName b<;>cases h3:Pl.isName c<;>cases h4:Pl.numF d<;>cases h5:Pl.numF e<;>simp[Pl.form,whole,widthR,nameR,numR,h,h2,h3,h4,h5,show ¬Pl.wWidth=Pl.wStone by decide]
 |a::b::c::d::e::g::r=>by cases h:Pl.isName a<;>cases h2:Pl.isName b<;>cases h3:Pl.isName c<;>cases h4:Pl.numF d<;>cases h5:Pl.numF e<;>simp[Pl.form,whole,widthR,nameR,numR,h,h2,h3,h4,h5,show ¬Pl.wWidth=Pl.wStone by decide]
theorem form_along : ∀r:List ByteArray,Pl.form (Pl.wAlong::r)=whole (alongR r)
 | []=>rfl
 | [a]=>by cases h:Pl.isName a<;>simp[Pl.form,whole,alongR,nameR,h,show ¬Pl.wAlong=Pl.wStone by decide,show ¬Pl.wAlong=Pl.wWidth by decide,show ¬Pl.wAlong=Pl.wCourse by decide]
 | [a,b]=>by cases h:Pl.isName a<;>cases h2:Pl.isName b<;>simp[Pl.form,whole,alongR,nameR,h,h2,show ¬Pl.wAlong=Pl.wStone by decide,show ¬Pl.wAlong=Pl.wWidth by decide,show ¬Pl.wAlong=Pl.wCourse by decide]
 | [a,b,c]=>by cases h:Pl.isName a<;>cases h2:Pl.isName b<;>cases h3:Pl.isName c<;>simp[Pl.form,whole,alongR,nameR,h,h2,h3,show ¬Pl.wAlong=Pl.wStone by decide,show ¬Pl.wAlong=Pl.wWidth by decide,show ¬Pl.wAlong=Pl.wCourse by decide]
 | [a,b,c,d]=>by cases h:Pl.isName a<;>cases h2:Pl.isName b<;>cases h3:Pl.isName c<;>cases h4:Pl.isName d<;>simp[Pl.form,whole,alongR,nameR,h,h2,h3,h4,show ¬Pl.wAlong=Pl.wStone by decide,show ¬Pl.wAlong=Pl.wWidth by decide,show ¬Pl.wAlong=Pl.wCourse by decide]
 |a::b::c::d::e::r=>by cases h:Pl.isName a<;>cases h2:Pl.isName b<;>cases h3:Pl.isName c<;>cases h4:Pl.isName d<;>simp[Pl.form,whole,alongR,nameR,h,h2,h3,h4,show ¬Pl.wAlong=Pl.wStone by decide,show ¬Pl.wAlong=Pl.wWidth by decide,show ¬Pl.wAlong=Pl.wCourse by decide]
theorem form_level : ∀r:List ByteArray,Pl.form (Pl.wLevel::r)=whole (levelR r)
 | []=>rfl
 | [a]=>by cases h:Pl.isName a<;>simp[Pl.form,whole,levelR,nameR,h,show ¬Pl.wLevel=Pl.wStone by decide,show ¬Pl.wLevel=Pl.wWidth by decide,show ¬Pl.wLevel=Pl.wCourse by decide,show ¬Pl.wLevel=Pl.wAlong by decide]
 | [a,b]=>by cases h:Pl.isName a<;>cases h2:Pl.isName b<;>simp[Pl.form,whole,levelR,nameR,h,h2,show ¬Pl.wLevel=Pl.wStone by decide,show ¬Pl.wLevel=Pl.wWidth by decide,show ¬Pl.wLevel=Pl.wCourse by decide,show ¬Pl.wLevel=Pl.wAlong by decide]
 | [a,b,c]=>by cases h:Pl.isName a<;>cases h2:Pl.isName b<;>cases h3:Pl.isName c<;>simp[Pl.form,whole,levelR,nameR,sgnR,h,h2,h3,show ¬Pl.wLevel=Pl.wStone by decide,show ¬Pl.wLevel=Pl.wWidth by decide,show ¬Pl.wLevel=Pl.wCourse by decide,show ¬Pl.wLevel=Pl.wAlong by decide]
 | [a,b,c,d]=>by cases h:Pl.isName a<;>cases h2:Pl.isName b<;>cases h3:Pl.isName c<;>cases h4:Pl.sgnV d<;>simp[Pl.form,whole,levelR,nameR,sgnR,numR,h,h2,h3,h4,show ¬Pl.wLevel=Pl.wStone by decide,show ¬Pl.wLevel=Pl.wWidth by decide,show ¬Pl.wLevel=Pl.wCourse by decide,show ¬Pl.wLevel=Pl.wAlong by decide]
 | [a,b,c,d,e]=>by cases h:Pl.isName a<;>cases h2:Pl.isName b<;>cases h3:Pl.isName c<;>cases h4:Pl.sgnV d<;>cases h5:Pl.numF e<;>simp[Pl.form,whole,levelR,nameR,sgnR,numR,h,h2,h3,h4,h5,show ¬Pl.wLevel=Pl.wStone by decide,show ¬Pl.wLevel=Pl.wWidth by decide,show ¬Pl.wLevel=Pl.wCourse by decide,show ¬Pl.wLevel=Pl.wAlong by decide]
 |a::b::c::d::e::g::r=>by cases h:Pl.isName a<;>cases h2:Pl.isName b<;>cases h3:Pl.isName c<;>cases h4:Pl.sgnV d<;>cases h5:Pl.numF e<;>simp[Pl.form,whole,levelR,nameR,sgnR,numR,h,h2,h3,h4,h5,show ¬Pl.wLevel=Pl.wStone by decide,show ¬Pl.wLevel=Pl.wWidth by decide,show ¬Pl.wLevel=Pl.wCourse by decide,show ¬Pl.wLevel=Pl.wAlong by decide]
def tailR (q:List ByteArray):Option ((Int×Int×Int)×List ByteArray):=
 (numR q).bind fun p6=>(litR Pl.wWear p6.2).bind fun p7=>(sgnR p7.2).bind fun p8=>(litR Pl.wSlack p8.2).bind fun p9=>(numR p9.2).bind fun p10=>some ((p6.1,p8.1,p10.1),p10.2)
theorem tailR_whole (d n:Int): ∀q:List ByteArray,((tailR q).bind fun p=>if p.2=[]then some (⟨d,p.1.1,n,0,p.1.2.1,p.1.2.2⟩:Pl.Crs)else none)=(match q with
  | [ne,we,x,sl,s]=>if we=Pl.wWear∧sl=Pl.wSlack then (Pl.numF ne).bind fun ne=>(Pl.sgnV x).bind fun x=>(Pl.numF s).map fun s=>(⟨d,ne,n,0,x,s⟩:Pl.Crs)else none
  |_=>none)
 | []=>rfl
 | [a]=>by cases h:Pl.numF a<;>simp[tailR,numR,litR,h]
 | [a,b]=>by cases h:Pl.numF a<;>by_cases h2:b=Pl.wWear<;>simp[tailR,numR,litR,sgnR,h,h2]
 | [a,b,c]=>by cases h:Pl.numF a<;>by_cases h2:b=Pl.wWear<;>cases h3:Pl.sgnV c<;>simp[tailR,numR,litR,sgnR,h,h2,h3]
 | [a,b,c,e]=>by cases h:Pl.numF a<;>by_cases h2:b=Pl.wWear<;>cases h3:Pl.sgnV c<;>by_cases h4:e=Pl.wSlack<;>simp[tailR,numR,litR,sgnR,h,h2,h3,h4]
 | [a,b,c,e,g]=>by cases h:Pl.numF a<;>by_cases h2:b=Pl.wWear<;>cases h3:Pl.sgnV c<;>by_cases h4:e=Pl.wSlack<;>cases h5:Pl.numF g<;>simp[tailR,numR,litR,sgnR,h,h2,h3,h4,h5]
 |a::b::c::e::g::i::r=>by cases h:Pl.numF a<;>by_cases h2:b=Pl.wWear<;>cases h3:Pl.sgnV c<;>by_cases h4:e=Pl.wSlack<;>cases h5:Pl.numF g<;>simp[tailR,numR,litR,sgnR,h,h2,h3,h4,h5]
theorem courseR_eq (ws:List ByteArray):courseR ws=(nameR ws).bind fun p1=>(nameR p1.2).bind fun p2=>(nameR p2.2).bind fun p3=>(Pl.upTo Pl.wBy 6 p3.2).bind fun p4=>(Pl.linksV p4.1).bind fun n=>(Pl.upTo Pl.wGive 3 p4.2).bind fun p5=>(Pl.bearV p5.1).bind fun d=>
  (tailR p5.2).bind fun p=>some (⟨3,p1.1,⟨#[]⟩,p2.1,p3.1,0,0,⟨d,p.1.1,n,0,p.1.2.1,p.1.2.2⟩⟩,p.2):=by
 unfold courseR tailR
 simp only[Option.bind_assoc,Option.bind_some]
theorem whole_bind {α:Type}(o:Option α)(g:α->Option (Pl.Frm×List ByteArray)):whole (o.bind g)=o.bind fun a=>whole (g a):=by
 cases o<;>rfl
theorem crsW_eq (a b c:ByteArray)(w:List ByteArray):whole ((Pl.upTo Pl.wBy 6 w).bind fun p4=>(Pl.linksV p4.1).bind fun n=>(Pl.upTo Pl.wGive 3 p4.2).bind fun p5=>(Pl.bearV p5.1).bind fun d=>
  (tailR p5.2).bind fun p=>some (⟨3,a,⟨#[]⟩,b,c,0,0,⟨d,p.1.1,n,0,p.1.2.1,p.1.2.2⟩⟩,p.2))=(Pl.crsW w).map fun x=>⟨3,a,⟨#[]⟩,b,c,0,0,x⟩:=by
 unfold Pl.crsW
 rw[whole_bind,Option.map_bind]
 congr 1;funext p4
 rw[whole_bind]
 show _=Option.map _ ((Pl.linksV p4.1).bind _)
 rw[Option.map_bind]
 congr 1;funext n
 rw[whole_bind]
 show _=Option.map _ ((Pl.upTo Pl.wGive 3 p4.2).bind _)
 rw[Option.map_bind]
 congr 1;funext p5
 rw[whole_bind]
 show _=Option.map _ ((Pl.bearV p5.1).bind _)
 rw[Option.map_bind]
 congr 1;funext d
 have h:=tailR_whole d n p5.2
 simp only[Function.comp_apply]
 refine Eq.trans ?_ (congrArg (Option.map fun x=>(⟨3,a,⟨#[]⟩,b,c,0,0,x⟩:Pl.Frm)) h)
 rw[whole_bind,Option.map_bind]
 congr 1;funext p
 unfold whole
 by_cases hp:p.2=[]<;>simp[hp]
theorem form_course : ∀r:List ByteArray,Pl.form (Pl.wCourse::r)=whole (courseR r)
 | []=>rfl
 | [a]=>by cases h:Pl.isName a<;>simp[Pl.form,whole,courseR,nameR,h,show ¬Pl.wCourse=Pl.wStone by decide,show ¬Pl.wCourse=Pl.wWidth by decide]
 | [a,b]=>by cases h:Pl.isName a<;>cases h2:Pl.isName b<;>simp[Pl.form,whole,courseR,nameR,h,h2,show ¬Pl.wCourse=Pl.wStone by decide,show ¬Pl.wCourse=Pl.wWidth by decide]
 | a::b::c::w=>by
  rw[courseR_eq]
  cases h:Pl.isName a with
  |false=>simp[Pl.form,whole,nameR,h,show ¬Pl.wCourse=Pl.wStone by decide,show ¬Pl.wCourse=Pl.wWidth by decide]
  |true=>
  cases h2:Pl.isName b with
  |false=>simp[Pl.form,whole,nameR,h,h2,show ¬Pl.wCourse=Pl.wStone by decide,show ¬Pl.wCourse=Pl.wWidth by decide]
  |true=>
  cases h3:Pl.isName c with
  |false=>simp[Pl.form,whole,nameR,h,h2,h3,show ¬Pl.wCourse=Pl.wStone by decide,show ¬Pl.wCourse=Pl.wWidth by decide]
  |true=>
   have hk:=crsW_eq a b c w
   rw[nameR_yes h,Option.bind_some,nameR_yes h2,Option.bind_some,nameR_yes h3,Option.bind_some]
   rw[hk]
   simp[Pl.form,h,h2,h3,show ¬Pl.wCourse=Pl.wStone by decide,show ¬Pl.wCourse=Pl.wWidth by decide]
theorem form_miss (k:ByteArray)(r:List ByteArray)(h1:k≠Pl.wStone)(h2:k≠Pl.wWidth)(h3:k≠Pl.wCourse)(h4:k≠Pl.wAlong)(h5:k≠Pl.wLevel):Pl.form (k::r)=none:=by
 simp[Pl.form,h1,h2,h3,h4,h5]
end Go.Proofs.YtgbpekeoegfjpaaGreatDoor
