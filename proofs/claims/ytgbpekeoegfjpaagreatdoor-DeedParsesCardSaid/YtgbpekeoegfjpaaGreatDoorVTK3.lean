/- Proved: parts of the walk. -/
import Derived.Test.YtgbpekeoegfjpaaGreatDoorVZ23
import Derived.Test.YtgbpekeoegfjpaaGreatDoorVP3a
set_option maxRecDepth 100000
set_option maxHeartbeats 64000000
namespace Go.Proofs
open Tryz RowKit
attribute [-go_sem] run_equalIn_agg loadVar storeVar
attribute [local go_sem] bZ bH dU aT dD nE nK
structure Nw (w:World)(fa xa ca:Array Value)(W:World):Prop where
 kf:W.heap[w.heap.size]?=some (.cells fa 28 (0,0))
 kx:W.heap[w.heap.size+1]?=some (.cells xa 141 (0,0))
 kr:W.heap[w.heap.size+2]?=some (.cells bP 48 (0,0))
 kc:W.heap[w.heap.size+3]?=some (.cells ca 48 (0,0))
 all:Below w.heap.size w W
theorem Nw.set {w:World}{fa xa ca:Array Value}{W:World}(h:Nw w fa xa ca W)(o:Nat)(v:Value):Nw w fa xa (ca.setIfInBounds o v) (W.setCell ⟨w.heap.size+3,o,none⟩ v):=
 ⟨(Below.heap_setCell _ _ _ _ (show w.heap.size≠w.heap.size+3 by omega)).trans h.kf,(Below.heap_setCell _ _ _ _ (show w.heap.size+1≠w.heap.size+3 by omega)).trans h.kx,(Below.heap_setCell _ _ _ _ (show w.heap.size+2≠w.heap.size+3 by omega)).trans h.kr,heap_setCell_same _ _ _ _ _ _ h.kc,h.all.setCell (p:=⟨w.heap.size+3,o,none⟩) (show w.heap.size<=w.heap.size+3 by omega) _⟩
theorem Nw.IU {w:World}{fa xa ca:Array Value}{W W':World}(h:Nw w fa xa ca W)(hx:Below W.heap.size W W'):Nw w fa xa ca W':=
 ⟨(hx.block _ (lO h.kf)).trans h.kf,(hx.block _ (lO h.kx)).trans h.kx,(hx.block _ (lO h.kr)).trans h.kr,(hx.block _ (lO h.kc)).trans h.kc,h.all.trans (hx.mono h.all.size)⟩
theorem Nw.drew {w:World}{fa xa ca:Array Value}{W:World}(h:Nw w fa xa ca W):Nw w fa xa ca W.drew:=⟨h.kf,h.kx,h.kr,h.kc,h.all.drew⟩
theorem PE {w:World}{g:Nat}{a0 a1 a2 a3 a4 a5 a6 a7 a8 a9 Xj Xk a12 pp qq:Value}(hg:w.heap[g]?=some (.cells #[a0,a1,a2,a3,a4,a5,a6,a7,a8,a9,Xj,Xk,a12,pp,qq] 141 (0,0))):
  (loadVar 48 ⟨g,0,none⟩).run prog w=.ok (.agg #[a0,a1,a2,a3,a4,a5,a6,a7,a8,a9,Xj,Xk,a12]) w:=
 run_loadVar_mid w g 0 _ _ _ (wX (n:=13) hg rfl) underlying48 rfl (by kernel_rfl)
theorem RN (A1 A2 A3 A4:Option Addr)(c1 c2 c3 c4:Nat)(f:Pl.aL)(k nl ns:Nat)(gl ol cl gs os cs:Nat)(z er yr yf:Int)(cr:Pl.bF)(n1 n2 n3 n4:ByteArray)(a b vo vt E:Int)(w:World)
  (u1: ∀W,Below w.heap.size w W->W.cell? ⟨gl,ol,none⟩=some (.string n1)) (u2: ∀W,Below w.heap.size w W->W.cell? ⟨gs,os,none⟩=some (.string n2)) (p1: ∀W,Below w.heap.size w W->Calls prog 115 #[.slice A2 f.li.length c2,.string n1] W fun e w'=>e=.returned (.int .i64 a)∧W=w')
  (pn: ∀W,Below w.heap.size w W->Calls prog 113 #[.agg (fq A1 A2 A3 A4 c1 c2 c3 c4 f),.int .i64 0] W (nD f.sn W))
  (p2: ∀W B d,d9 W W.heap.size B f.sn->Calls prog 115 #[.slice B f.sn.length d,.string n2] W fun e w'=>e=.returned (.int .i64 b)∧W=w')
  (hnl:(nl=1∧vo=0)∨(nl=2∧(∀W,Below w.heap.size w W->W.cell? ⟨gl,ol+1,none⟩=some (.string n3))∧(∀W,Below w.heap.size w W->Calls prog 115 #[.slice A2 f.li.length c2,.string n3] W fun e w'=>e=.returned (.int .i64 vo)∧W=w')))
  (hns:(ns=1∧vt=0)∨(ns=2∧(∀W,Below w.heap.size w W->W.cell? ⟨gs,os+1,none⟩=some (.string n4))∧(∀W B d,d9 W W.heap.size B f.sn->Calls prog 115 #[.slice B f.sn.length d,.string n4] W fun e w'=>e=.returned (.int .i64 vt)∧W=w')))
  (hk:(k=3∧yf=yr)∨(k≠3∧yf=cr.y))
  (R:Array Value) (D:Int) (hR:((a<0∨b<0∨vo<0∨vt<0)∧R=bP∧D=5)∨((¬a<0∧ ¬b<0∧ ¬vo<0∧ ¬vt<0∧ ∀W,Below w.heap.size w W->Calls prog 129 #[.agg (fq A1 A2 A3 A4 c1 c2 c3 c4 f),.agg (bR k a vo b vt z er cr.b cr.n cr.l yf cr.x cr.s)] W fun e w'=>e=.returned (.int .i64 E)∧Below W.heap.size W w')∧((E≠0∧R=bP∧D=E)∨(E=0∧R=(bR k a vo b vt z er cr.b cr.n cr.l yf cr.x cr.s)∧D=0)))):
  Calls prog 104 #[.agg (fq A1 A2 A3 A4 c1 c2 c3 c4 f),.agg #[.int .u8 k,.int .i64 0,.int .i64 0,.int .i64 0,.int .i64 0,.int .i64 z,.int .i64 er,.int .i64 cr.b,.int .i64 cr.n,.int .i64 cr.l,.int .i64 cr.y,.int .i64 cr.x,.int .i64 cr.s,.slice (some ⟨gl,ol,none⟩) nl cl,.slice (some ⟨gs,os,none⟩) ns cs],.int .i64 yr] w fun e w'=>e=.returned (.tuple #[.agg R,.int .i64 D])∧Below w.heap.size w w':=by
 have HRR:=Lib.hid hR
 have UJ:=Lib.hid hns
 have HKK:=Lib.hid hk
 clear hR hns hk
 obtain⟨W0,hW0⟩: ∃W,(((w.alloc (.cells (fq A1 A2 A3 A4 c1 c2 c3 c4 f) 28)).alloc (.cells #[.int .u8 k,.int .i64 0,.int .i64 0,.int .i64 0,.int .i64 0,.int .i64 z,.int .i64 er,.int .i64 cr.b,.int .i64 cr.n,.int .i64 cr.l,.int .i64 cr.y,.int .i64 cr.x,.int .i64 cr.s,.slice (some ⟨gl,ol,none⟩) nl cl,.slice (some ⟨gs,os,none⟩) ns cs] 141)).alloc (.cells bP 48)).alloc (.cells bP 48)=W:=⟨_,rfl⟩
 have k0:=heap_alloc_new w (.cells (fq A1 A2 A3 A4 c1 c2 c3 c4 f) 28)
 have k1:=heap_alloc_new (w.alloc (.cells (fq A1 A2 A3 A4 c1 c2 c3 c4 f) 28)) (.cells #[.int .u8 k,.int .i64 0,.int .i64 0,.int .i64 0,.int .i64 0,.int .i64 z,.int .i64 er,.int .i64 cr.b,.int .i64 cr.n,.int .i64 cr.l,.int .i64 cr.y,.int .i64 cr.x,.int .i64 cr.s,.slice (some ⟨gl,ol,none⟩) nl cl,.slice (some ⟨gs,os,none⟩) ns cs] 141)
 have k2:=heap_alloc_new ((w.alloc (.cells (fq A1 A2 A3 A4 c1 c2 c3 c4 f) 28)).alloc (.cells #[.int .u8 k,.int .i64 0,.int .i64 0,.int .i64 0,.int .i64 0,.int .i64 z,.int .i64 er,.int .i64 cr.b,.int .i64 cr.n,.int .i64 cr.l,.int .i64 cr.y,.int .i64 cr.x,.int .i64 cr.s,.slice (some ⟨gl,ol,none⟩) nl cl,.slice (some ⟨gs,os,none⟩) ns cs] 141)) (.cells bP 48)
 have k3:=heap_alloc_new (((w.alloc (.cells (fq A1 A2 A3 A4 c1 c2 c3 c4 f) 28)).alloc (.cells #[.int .u8 k,.int .i64 0,.int .i64 0,.int .i64 0,.int .i64 0,.int .i64 z,.int .i64 er,.int .i64 cr.b,.int .i64 cr.n,.int .i64 cr.l,.int .i64 cr.y,.int .i64 cr.x,.int .i64 cr.s,.slice (some ⟨gl,ol,none⟩) nl cl,.slice (some ⟨gs,os,none⟩) ns cs] 141)).alloc (.cells bP 48)) (.cells bP 48)
 simp only[World.size_alloc]at k1 k2 k3
 have kf:=(Below.heap_alloc _ (.cells bP 48) _ (by first|(simp;done)|(simp;omega))).trans ((Below.heap_alloc _ (.cells bP 48) _ (by first|(simp;done)|(simp;omega))).trans ((Below.heap_alloc _ (.cells #[.int .u8 k,.int .i64 0,.int .i64 0,.int .i64 0,.int .i64 0,.int .i64 z,.int .i64 er,.int .i64 cr.b,.int .i64 cr.n,.int .i64 cr.l,.int .i64 cr.y,.int .i64 cr.x,.int .i64 cr.s,.slice (some ⟨gl,ol,none⟩) nl cl,.slice (some ⟨gs,os,none⟩) ns cs] 141) _ (lO k0)).trans k0))
 have kx:=(Below.heap_alloc _ (.cells bP 48) _ (by first|(simp;done)|(simp;omega))).trans ((Below.heap_alloc _ (.cells bP 48) _ (lO k1)).trans k1)
 have kr:=(Below.heap_alloc _ (.cells bP 48) _ (lO k2)).trans k2
 have hall:Below w.heap.size w W0:=by rw[<-hW0];exact((((Below.refl _ w).alloc (Nat.le_refl _) _).alloc (by simp) _).alloc (by first|(simp;done)|(simp;omega)) _).alloc (by first|(simp;done)|(simp;omega)) _
 have QE:=PE ((Below.heap_alloc _ (.cells bP 48) _ (lO k1)).trans k1)
 obtain⟨W1,st1,Y7,hg1⟩:=aG _ _ 48 48 bP (bR k 0 0 0 0 z er cr.b cr.n cr.l cr.y cr.x cr.s) k3 aj rfl (by simp[Value.oneCell'])
 rw[hW0]at kf kx kr st1 hg1
 have H:Nw w (fq A1 A2 A3 A4 c1 c2 c3 c4 f) #[.int .u8 k,.int .i64 0,.int .i64 0,.int .i64 0,.int .i64 0,.int .i64 z,.int .i64 er,.int .i64 cr.b,.int .i64 cr.n,.int .i64 cr.l,.int .i64 cr.y,.int .i64 cr.x,.int .i64 cr.s,.slice (some ⟨gl,ol,none⟩) nl cl,.slice (some ⟨gs,os,none⟩) ns cs] (bR k 0 0 0 0 z er cr.b cr.n cr.l cr.y cr.x cr.s) W1:=⟨(hg1.block _ (by have:=lO kf;omega) (by first|(simp;done)|(simp;omega))).trans kf,(hg1.block _ (lO kx) (by first|(simp;done)|(simp;omega))).trans kx,(hg1.block _ (lO kr) (by first|(simp;done)|(simp;omega))).trans kr,Y7,hall.grown hg1 hall.size (fun j e=>by cases e;omega)⟩
 obtain⟨hcx,hfx⟩:=ah H.kx
 obtain⟨hcc,hfc⟩:=ah H.kc
 have VT:0<nl:=by rcases hnl with ⟨h,_⟩|⟨h,_⟩<;>omega
 have VU:0<ns:=by rcases UJ.out with ⟨h,_⟩|⟨h,_⟩<;>omega
 have Y8:(0:Int)<(nl:Int):=by rcases hnl with ⟨h,_⟩|⟨h,_⟩<;>omega
 have Y9:(0:Int)<(ns:Int):=by rcases UJ.out with ⟨h,_⟩|⟨h,_⟩<;>omega
 have Xl:=Lib.hid hnl
 clear hnl
 go_enter func104,ntmps104
 go_wp2
 try simp only[Nat.add_assoc,Nat.reduceAdd]
 have H0:=H
 replace H:=H.drew
 clear hcc hfc hcx hfx
 obtain⟨hcc,hfc⟩:=ah H.kc
 refine wp_region_held_drew (S:=fun W=>W.cell? ⟨w.heap.size,1,none⟩=some (.slice A2 f.li.length c2)∧W.cell? ⟨w.heap.size+1,13,none⟩=some (.slice (some ⟨gl,ol,none⟩) nl cl)∧W.cell? ⟨gl,ol,none⟩=some (.string n1)) (by kernel_rfl) ⟨(ah H.kf).1 1,(ah H.kx).1 13,u1 _ H.all⟩ (fun hHeld=> ?_)
 refine tJ 0 13 rfl rfl ?_
 try simp only[au]
 refine tJ 1 14 rfl rfl ?_
 try simp only[au]
 refine tJ 2 15 rfl rfl ?_
 try simp only[au]
 refine tJ 3 16 rfl rfl ?_
 try simp only[au]
 refine tJ 4 17 rfl rfl ?_
 try simp only[au]
 refine tJ 5 18 rfl rfl ?_
 try simp only[au]
 refine wpAnyH_ready (rs:=[6]) (by kernel_rfl) (by simp) ?_
 refine aI (some 19) rfl rfl (fun K hK=> ?_) AllReadyH.nil
 go_simp
 refine(p1 _ H.all).mono ?_
 rintro e w' ⟨rfl,rfl⟩
 refine hK.out _ _ ⟨(ah H.kf).1 1,(ah H.kx).1 13,u1 _ H.all⟩ (fun hHeld=> ?_)
 clear hK K
 try simp only[au]
 refine tJ 7 20 rfl rfl ?_
 try simp only[au]
 have H2:=(H0.set 1 (.int .i64 a)).drew
 refine wpAnyH_ready (rs:=[8]) (by kernel_rfl) (by simp) ?_
 refine aI none rfl rfl (fun K hK=> ?_) AllReadyH.nil
 go_simp
 refine hK.out _ _ ⟨(ah H2.kf).1 1,(ah H2.kx).1 13,u1 _ H2.all⟩ (fun hHeld=> ?_)
 clear hK K
 try simp only[au]
 refine wpAnyH_done (by kernel_rfl) ?_ _
 clear hHeld hcc hfc H H0
 have H:=H2
 clear H2
 simp only[q1,q2,q3]at H
 obtain⟨V1,uD⟩: ∃X,(W1.setCell ⟨w.heap.size+3,1,none⟩ (.int .i64 a)).drew=X:=⟨_,rfl⟩
 rw[uD]at H ⊢
 clear uD
 obtain⟨hcc,hfc⟩:=ah H.kc
 obtain⟨hcx,hfx⟩:=ah H.kx
 go_wp2_with fail
 have H0:=H
 replace H:=H.drew
 clear hcc hfc hcx hfx
 obtain⟨hcc,hfc⟩:=ah H.kc
 refine wp_region_held_drew (S:=fun W=>(loadVar 28 ⟨w.heap.size,0,none⟩).run prog W=.ok (.agg (fq A1 A2 A3 A4 c1 c2 c3 c4 f)) W∧W.cell? ⟨w.heap.size+1,14,none⟩=some (.slice (some ⟨gs,os,none⟩) ns cs)∧W.cell? ⟨gs,os,none⟩=some (.string n2)) (by kernel_rfl) ⟨ak H.kf underlying28 rfl av,(ah H.kx).1 14,u2 _ H.all⟩ (fun hHeld=> ?_)
 refine tJ 0 21 rfl rfl ?_
 try simp only[au]
 refine tJ 2 23 rfl rfl ?_
 try simp only[au]
 refine tJ 3 24 rfl rfl ?_
 try simp only[au]
 refine tJ 4 25 rfl rfl ?_
 try simp only[au]
 refine tJ 5 26 rfl rfl ?_
 try simp only[au]
 refine wpAnyH_ready (rs:=[1]) (by kernel_rfl) (by simp) ?_
 refine aI (some 22) rfl rfl (fun K hK=> ?_) AllReadyH.nil
 go_simp
 refine(pn _ H.all).mono ?_
 rintro e Y_ ⟨B,d,rfl,hN,hd,_,hx⟩
 replace H:=H.IU hx
 clear hx hcc hfc
 obtain⟨hcc,hfc⟩:=ah H.kc
 refine hK.out _ _ ⟨ak H.kf underlying28 rfl av,(ah H.kx).1 14,u2 _ H.all⟩ (fun hHeld=> ?_)
 clear hK K
 try simp only[au]
 refine wpAnyH_ready (rs:=[6]) (by kernel_rfl) (by simp) ?_
 refine aI (some 27) rfl rfl (fun K hK=> ?_) AllReadyH.nil
 go_simp
 refine(p2 _ B d hN).mono ?_
 rintro e w'' ⟨rfl,rfl⟩
 refine hK.out _ _ ⟨ak H.kf underlying28 rfl av,(ah H.kx).1 14,u2 _ H.all⟩ (fun hHeld=> ?_)
 clear hK K hN hd
 try simp only[au]
 refine tJ 7 28 rfl rfl ?_
 try simp only[au]
 have H2:=H.set 3 (.int .i64 b)
 refine wpAnyH_ready (rs:=[8]) (by kernel_rfl) (by simp) ?_
 refine aI none rfl rfl (fun K hK=> ?_) AllReadyH.nil
 go_simp
 refine hK.out _ _ ⟨ak H2.kf underlying28 rfl av,(ah H2.kx).1 14,u2 _ H2.all⟩ (fun hHeld=> ?_)
 clear hK K
 try simp only[au]
 refine wpAnyH_done (by kernel_rfl) ?_ _
 clear hHeld hcc hfc H H0
 have H:=H2
 clear H2
 simp only[q1,q2,q3]at H
 obtain⟨V2,uD⟩: ∃X,Y_.setCell ⟨w.heap.size+3,3,none⟩ (.int .i64 b)=X:=⟨_,rfl⟩
 rw[uD]at H ⊢
 clear uD
 obtain⟨hcc,hfc⟩:=ah H.kc
 obtain⟨hcx,hfx⟩:=ah H.kx
 have hnl:=Xl.out
 have hns:=UJ.out
 clear Xl UJ Y8 Y9 VT VU p1 p2 u1 u2
 rcases hnl with ⟨rfl,hvo⟩|⟨rfl,u3,p3⟩<;>rcases hns with ⟨rfl,hvt⟩|⟨rfl,u4,p4⟩
 case' inl.inl=>
  have H:Nw w (fq A1 A2 A3 A4 c1 c2 c3 c4 f) #[.int .u8 k,.int .i64 0,.int .i64 0,.int .i64 0,.int .i64 0,.int .i64 z,.int .i64 er,.int .i64 cr.b,.int .i64 cr.n,.int .i64 cr.l,.int .i64 cr.y,.int .i64 cr.x,.int .i64 cr.s,.slice (some ⟨gl,ol,none⟩) 1 cl,.slice (some ⟨gs,os,none⟩) 1 cs] (bR k a vo b vt z er cr.b cr.n cr.l cr.y cr.x cr.s) V2:=by subst hvo;subst hvt;exact H
  obtain⟨VZ,hVZ⟩: ∃X,V2=X:=⟨_,rfl⟩
  rw[hVZ]at H ⊢
  clear hVZ hcc hfc hcx hfx
  obtain⟨hcc,hfc⟩:=ah H.kc
  obtain⟨hcx,hfx⟩:=ah H.kx
  have HVO:=Lib.hid hvo
  clear hvo
  have HVT:=Lib.hid hvt
  clear hvt
 case' inl.inr=>
  go_wp2_with fail
  all_goals (
   have H0:=H
   replace H:=H.drew
   clear hcc hfc hcx hfx
   obtain⟨hcc,hfc⟩:=ah H.kc
   refine wp_region_held_drew (S:=fun W=>(loadVar 28 ⟨w.heap.size,0,none⟩).run prog W=.ok (.agg (fq A1 A2 A3 A4 c1 c2 c3 c4 f)) W∧W.cell? ⟨w.heap.size+1,14,none⟩=some (.slice (some ⟨gs,os,none⟩) 2 cs)∧W.cell? ⟨gs,os+1,none⟩=some (.string n4)) (by kernel_rfl) ⟨ak H.kf underlying28 rfl av,(ah H.kx).1 14,u4 _ H.all⟩ (fun hHeld=> ?_)
   refine tJ 0 59 rfl rfl ?_
   try simp only[au]
   refine tJ 2 61 rfl rfl ?_
   try simp only[au]
   refine tJ 3 62 rfl rfl ?_
   try simp only[au]
   refine tJ 4 63 rfl rfl ?_
   try simp only[au]
   refine tJ 5 64 rfl rfl ?_
   try simp only[au]
   refine wpAnyH_ready (rs:=[1]) (by kernel_rfl) (by simp) ?_
   refine aI (some 60) rfl rfl (fun K hK=> ?_) AllReadyH.nil
   go_simp
   refine(pn _ H.all).mono ?_
   rintro e Za ⟨B,d,rfl,hN,hd,_,hx⟩
   replace H:=H.IU hx
   clear hx hcc hfc
   obtain⟨hcc,hfc⟩:=ah H.kc
   refine hK.out _ _ ⟨ak H.kf underlying28 rfl av,(ah H.kx).1 14,u4 _ H.all⟩ (fun hHeld=> ?_)
   clear hK K
   try simp only[au]
   refine wpAnyH_ready (rs:=[6]) (by kernel_rfl) (by simp) ?_
   refine aI (some 65) rfl rfl (fun K hK=> ?_) AllReadyH.nil
   go_simp
   refine(p4 _ B d hN).mono ?_
   rintro e w'' ⟨rfl,rfl⟩
   refine hK.out _ _ ⟨ak H.kf underlying28 rfl av,(ah H.kx).1 14,u4 _ H.all⟩ (fun hHeld=> ?_)
   clear hK K hN hd
   try simp only[au]
   refine tJ 7 66 rfl rfl ?_
   try simp only[au]
   have H2:=H.set 4 (.int .i64 vt)
   refine wpAnyH_ready (rs:=[8]) (by kernel_rfl) (by simp) ?_
   refine aI none rfl rfl (fun K hK=> ?_) AllReadyH.nil
   go_simp
   refine hK.out _ _ ⟨ak H2.kf underlying28 rfl av,(ah H2.kx).1 14,u4 _ H2.all⟩ (fun hHeld=> ?_)
   clear hK K
   try simp only[au]
   refine wpAnyH_done (by kernel_rfl) ?_ _
   clear hHeld hcc hfc H H0
   have H:=H2
   clear H2
   simp only[q1,q2,q3]at H
   obtain⟨V4,uD⟩: ∃X,Za.setCell ⟨w.heap.size+3,4,none⟩ (.int .i64 vt)=X:=⟨_,rfl⟩
   rw[uD]at H ⊢
   clear uD
   obtain⟨hcc,hfc⟩:=ah H.kc
   obtain⟨hcx,hfx⟩:=ah H.kx
   have H:Nw w (fq A1 A2 A3 A4 c1 c2 c3 c4 f) #[.int .u8 k,.int .i64 0,.int .i64 0,.int .i64 0,.int .i64 0,.int .i64 z,.int .i64 er,.int .i64 cr.b,.int .i64 cr.n,.int .i64 cr.l,.int .i64 cr.y,.int .i64 cr.x,.int .i64 cr.s,.slice (some ⟨gl,ol,none⟩) 1 cl,.slice (some ⟨gs,os,none⟩) 2 cs] (bR k a vo b vt z er cr.b cr.n cr.l cr.y cr.x cr.s) V4:=by subst hvo;exact H
   obtain⟨VZ,hVZ⟩: ∃X,V4=X:=⟨_,rfl⟩
   rw[hVZ]at H ⊢
   clear hVZ hcc hfc hcx hfx
   obtain⟨hcc,hfc⟩:=ah H.kc
   obtain⟨hcx,hfx⟩:=ah H.kx
   have HVO:=Lib.hid hvo
   clear hvo)
 case' inr.inl=>
  go_wp2_with fail
  all_goals (
   have H0:=H
   replace H:=H.drew
   clear hcc hfc hcx hfx
   obtain⟨hcc,hfc⟩:=ah H.kc
   refine wp_region_held_drew (S:=fun W=>W.cell? ⟨w.heap.size,1,none⟩=some (.slice A2 f.li.length c2)∧W.cell? ⟨w.heap.size+1,13,none⟩=some (.slice (some ⟨gl,ol,none⟩) 2 cl)∧W.cell? ⟨gl,ol+1,none⟩=some (.string n3)) (by kernel_rfl) ⟨(ah H.kf).1 1,(ah H.kx).1 13,u3 _ H.all⟩ (fun hHeld=> ?_)
   refine tJ 0 41 rfl rfl ?_
   try simp only[au]
   refine tJ 1 42 rfl rfl ?_
   try simp only[au]
   refine tJ 2 43 rfl rfl ?_
   try simp only[au]
   refine tJ 3 44 rfl rfl ?_
   try simp only[au]
   refine tJ 4 45 rfl rfl ?_
   try simp only[au]
   refine tJ 5 46 rfl rfl ?_
   try simp only[au]
   refine wpAnyH_ready (rs:=[6]) (by kernel_rfl) (by simp) ?_
   refine aI (some 47) rfl rfl (fun K hK=> ?_) AllReadyH.nil
   go_simp
   refine(p3 _ H.all).mono ?_
   rintro e w' ⟨rfl,rfl⟩
   refine hK.out _ _ ⟨(ah H.kf).1 1,(ah H.kx).1 13,u3 _ H.all⟩ (fun hHeld=> ?_)
   clear hK K
   try simp only[au]
   refine tJ 7 48 rfl rfl ?_
   try simp only[au]
   have H2:=(H0.set 2 (.int .i64 vo)).drew
   refine wpAnyH_ready (rs:=[8]) (by kernel_rfl) (by simp) ?_
   refine aI none rfl rfl (fun K hK=> ?_) AllReadyH.nil
   go_simp
   refine hK.out _ _ ⟨(ah H2.kf).1 1,(ah H2.kx).1 13,u3 _ H2.all⟩ (fun hHeld=> ?_)
   clear hK K
   try simp only[au]
   refine wpAnyH_done (by kernel_rfl) ?_ _
   clear hHeld hcc hfc H H0
   have H:=H2
   clear H2
   simp only[q1,q2,q3]at H
   obtain⟨V3,uD⟩: ∃X,(V2.setCell ⟨w.heap.size+3,2,none⟩ (.int .i64 vo)).drew=X:=⟨_,rfl⟩
   rw[uD]at H ⊢
   clear uD
   obtain⟨hcc,hfc⟩:=ah H.kc
   obtain⟨hcx,hfx⟩:=ah H.kx
   have H:Nw w (fq A1 A2 A3 A4 c1 c2 c3 c4 f) #[.int .u8 k,.int .i64 0,.int .i64 0,.int .i64 0,.int .i64 0,.int .i64 z,.int .i64 er,.int .i64 cr.b,.int .i64 cr.n,.int .i64 cr.l,.int .i64 cr.y,.int .i64 cr.x,.int .i64 cr.s,.slice (some ⟨gl,ol,none⟩) 2 cl,.slice (some ⟨gs,os,none⟩) 1 cs] (bR k a vo b vt z er cr.b cr.n cr.l cr.y cr.x cr.s) V3:=by subst hvt;exact H
   obtain⟨VZ,hVZ⟩: ∃X,V3=X:=⟨_,rfl⟩
   rw[hVZ]at H ⊢
   clear hVZ hcc hfc hcx hfx
   obtain⟨hcc,hfc⟩:=ah H.kc
   obtain⟨hcx,hfx⟩:=ah H.kx
   have HVT:=Lib.hid hvt
   clear hvt)
 case' inr.inr=>
  go_wp2_with fail
  all_goals (
   have H0:=H
   replace H:=H.drew
   clear hcc hfc hcx hfx
   obtain⟨hcc,hfc⟩:=ah H.kc
   refine wp_region_held_drew (S:=fun W=>W.cell? ⟨w.heap.size,1,none⟩=some (.slice A2 f.li.length c2)∧W.cell? ⟨w.heap.size+1,13,none⟩=some (.slice (some ⟨gl,ol,none⟩) 2 cl)∧W.cell? ⟨gl,ol+1,none⟩=some (.string n3)) (by kernel_rfl) ⟨(ah H.kf).1 1,(ah H.kx).1 13,u3 _ H.all⟩ (fun hHeld=> ?_)
   refine tJ 0 41 rfl rfl ?_
   try simp only[au]
   refine tJ 1 42 rfl rfl ?_
   try simp only[au]
   refine tJ 2 43 rfl rfl ?_
   try simp only[au]
   refine tJ 3 44 rfl rfl ?_
   try simp only[au]
   refine tJ 4 45 rfl rfl ?_
   try simp only[au]
   refine tJ 5 46 rfl rfl ?_
   try simp only[au]
   refine wpAnyH_ready (rs:=[6]) (by kernel_rfl) (by simp) ?_
   refine aI (some 47) rfl rfl (fun K hK=> ?_) AllReadyH.nil
   go_simp
   refine(p3 _ H.all).mono ?_
   rintro e w' ⟨rfl,rfl⟩
   refine hK.out _ _ ⟨(ah H.kf).1 1,(ah H.kx).1 13,u3 _ H.all⟩ (fun hHeld=> ?_)
   clear hK K
   try simp only[au]
   refine tJ 7 48 rfl rfl ?_
   try simp only[au]
   have H2:=(H0.set 2 (.int .i64 vo)).drew
   refine wpAnyH_ready (rs:=[8]) (by kernel_rfl) (by simp) ?_
   refine aI none rfl rfl (fun K hK=> ?_) AllReadyH.nil
   go_simp
   refine hK.out _ _ ⟨(ah H2.kf).1 1,(ah H2.kx).1 13,u3 _ H2.all⟩ (fun hHeld=> ?_)
   clear hK K
   try simp only[au]
   refine wpAnyH_done (by kernel_rfl) ?_ _
   clear hHeld hcc hfc H H0
   have H:=H2
   clear H2
   simp only[q1,q2,q3]at H
   obtain⟨V3,uD⟩: ∃X,(V2.setCell ⟨w.heap.size+3,2,none⟩ (.int .i64 vo)).drew=X:=⟨_,rfl⟩
   rw[uD]at H ⊢
   clear uD
   obtain⟨hcc,hfc⟩:=ah H.kc
   obtain⟨hcx,hfx⟩:=ah H.kx
   go_wp2_with fail
   all_goals (
    have H0:=H
    replace H:=H.drew
    clear hcc hfc hcx hfx
    obtain⟨hcc,hfc⟩:=ah H.kc
    refine wp_region_held_drew (S:=fun W=>(loadVar 28 ⟨w.heap.size,0,none⟩).run prog W=.ok (.agg (fq A1 A2 A3 A4 c1 c2 c3 c4 f)) W∧W.cell? ⟨w.heap.size+1,14,none⟩=some (.slice (some ⟨gs,os,none⟩) 2 cs)∧W.cell? ⟨gs,os+1,none⟩=some (.string n4)) (by kernel_rfl) ⟨ak H.kf underlying28 rfl av,(ah H.kx).1 14,u4 _ H.all⟩ (fun hHeld=> ?_)
    refine tJ 0 59 rfl rfl ?_
    try simp only[au]
    refine tJ 2 61 rfl rfl ?_
    try simp only[au]
    refine tJ 3 62 rfl rfl ?_
    try simp only[au]
    refine tJ 4 63 rfl rfl ?_
    try simp only[au]
    refine tJ 5 64 rfl rfl ?_
    try simp only[au]
    refine wpAnyH_ready (rs:=[1]) (by kernel_rfl) (by simp) ?_
    refine aI (some 60) rfl rfl (fun K hK=> ?_) AllReadyH.nil
    go_simp
    refine(pn _ H.all).mono ?_
    rintro e Zb ⟨B,d,rfl,hN,hd,_,hx⟩
    replace H:=H.IU hx
    clear hx hcc hfc
    obtain⟨hcc,hfc⟩:=ah H.kc
    refine hK.out _ _ ⟨ak H.kf underlying28 rfl av,(ah H.kx).1 14,u4 _ H.all⟩ (fun hHeld=> ?_)
    clear hK K
    try simp only[au]
    refine wpAnyH_ready (rs:=[6]) (by kernel_rfl) (by simp) ?_
    refine aI (some 65) rfl rfl (fun K hK=> ?_) AllReadyH.nil
    go_simp
    refine(p4 _ B d hN).mono ?_
    rintro e w'' ⟨rfl,rfl⟩
    refine hK.out _ _ ⟨ak H.kf underlying28 rfl av,(ah H.kx).1 14,u4 _ H.all⟩ (fun hHeld=> ?_)
    clear hK K hN hd
    try simp only[au]
    refine tJ 7 66 rfl rfl ?_
    try simp only[au]
    have H2:=H.set 4 (.int .i64 vt)
    refine wpAnyH_ready (rs:=[8]) (by kernel_rfl) (by simp) ?_
    refine aI none rfl rfl (fun K hK=> ?_) AllReadyH.nil
    go_simp
    refine hK.out _ _ ⟨ak H2.kf underlying28 rfl av,(ah H2.kx).1 14,u4 _ H2.all⟩ (fun hHeld=> ?_)
    clear hK K
    try simp only[au]
    refine wpAnyH_done (by kernel_rfl) ?_ _
    clear hHeld hcc hfc H H0
    have H:=H2
    clear H2
    simp only[q1,q2,q3]at H
    obtain⟨V4,uD⟩: ∃X,Zb.setCell ⟨w.heap.size+3,4,none⟩ (.int .i64 vt)=X:=⟨_,rfl⟩
    rw[uD]at H ⊢
    clear uD
    obtain⟨hcc,hfc⟩:=ah H.kc
    obtain⟨hcx,hfx⟩:=ah H.kx
    have H:Nw w (fq A1 A2 A3 A4 c1 c2 c3 c4 f) #[.int .u8 k,.int .i64 0,.int .i64 0,.int .i64 0,.int .i64 0,.int .i64 z,.int .i64 er,.int .i64 cr.b,.int .i64 cr.n,.int .i64 cr.l,.int .i64 cr.y,.int .i64 cr.x,.int .i64 cr.s,.slice (some ⟨gl,ol,none⟩) 2 cl,.slice (some ⟨gs,os,none⟩) 2 cs] (bR k a vo b vt z er cr.b cr.n cr.l cr.y cr.x cr.s) V4:=by exact H
    obtain⟨VZ,hVZ⟩: ∃X,V4=X:=⟨_,rfl⟩
    rw[hVZ]at H ⊢
    clear hVZ hcc hfc hcx hfx
    obtain⟨hcc,hfc⟩:=ah H.kc
    obtain⟨hcx,hfx⟩:=ah H.kx))
 all_goals (
  have kP:=HRR.out
  clear HRR
  rcases kP with ⟨jG,rfl,rfl⟩|⟨⟨v0,v1,v2,v3,pc⟩,hE0⟩
  case inl=>
   have RO:=Lib.hid jG
   clear jG
   obtain⟨W9,lN,fA,fB⟩:=aG VZ (w.heap.size+2) 48 48 bP bP H.kr aj rfl (by simp[Value.oneCell'])
   have l9:=ak fA underlying48 rfl aj
   have fC:Below w.heap.size w W9:=H.all.grown fB H.all.size (fun j e=>by cases e;omega)
   go_wp2_with fail
   all_goals first
    |(exfalso;have:=RO.out;(try have:=HVO.out);(try have:=HVT.out);omega)
    |(refine bodyPost_ret (v:=.tuple #[.agg bP,.int .i64 5]) (by simp[results,results104,go_sem,l9]) rfl ?_;exact⟨rfl,fC⟩)
  case inr=>
   first
   |(exfalso;(try have:=HVO.out);(try have:=HVT.out);omega)
   | (
    have hE:=Lib.hid hE0
    clear hE0
    rcases HKK.out with ⟨rfl,rfl⟩|⟨hk3,rfl⟩
    ·replace H:=H.set 10 (.int .i64 yf)
     simp only[q1,q2,q3]at H
     have lf:=ak H.kf underlying28 rfl av
     have lc:=ak H.kc underlying48 rfl aj
     go_wp2_with fail
     refine(pc _ H.all).mono ?_
     rintro e w5 ⟨rfl,hx⟩
     replace H:=H.IU hx
     clear lf lc hx hcc hfc hcx hfx
     have hE1:=hE.out
     clear hE
     rcases hE1 with ⟨hn0,rfl,rfl⟩|⟨rfl,rfl,rfl⟩
     ·have hne:(D !=0)=true:=by simpa using hn0
      clear hn0
      obtain⟨W9,lN,fA,fB⟩:=aG w5 (w.heap.size+2) 48 48 bP bP H.kr aj rfl (by simp[Value.oneCell'])
      have l9:=ak fA underlying48 rfl aj
      have fC:Below w.heap.size w W9:=H.all.grown fB H.all.size (fun j e=>by cases e;omega)
      go_wp2
      refine bodyPost_ret (v:=.tuple #[.agg bP,.int .i64 D]) (by simp[results,results104,go_sem,l9]) rfl ?_
      exact⟨rfl,fC⟩
     ·have lc:=ak H.kc underlying48 rfl aj
      obtain⟨W9,lN,fA,fB⟩:=aG w5 (w.heap.size+2) 48 48 bP (bR 3 a vo b vt z er cr.b cr.n cr.l yf cr.x cr.s) H.kr aj rfl (by simp[Value.oneCell'])
      have l9:=ak fA underlying48 rfl aj
      have fC:Below w.heap.size w W9:=H.all.grown fB H.all.size (fun j e=>by cases e;omega)
      go_wp2
      refine bodyPost_ret (v:=.tuple #[.agg (bR 3 a vo b vt z er cr.b cr.n cr.l yf cr.x cr.s),.int .i64 0]) (by simp[results,results104,go_sem,l9]) rfl ?_
      exact⟨rfl,fC⟩
    ·have hk4:((k:Int)==3)=false:=by simpa using (show ¬(k:Int)=3 by omega)
     clear hk3
     have lf:=ak H.kf underlying28 rfl av
     have lc:=ak H.kc underlying48 rfl aj
     go_wp2_with fail
     refine(pc _ H.all).mono ?_
     rintro e w5 ⟨rfl,hx⟩
     replace H:=H.IU hx
     clear lf lc hx hcc hfc hcx hfx
     have hE1:=hE.out
     clear hE
     rcases hE1 with ⟨hn0,rfl,rfl⟩|⟨rfl,rfl,rfl⟩
     ·have hne:(D !=0)=true:=by simpa using hn0
      clear hn0
      obtain⟨W9,lN,fA,fB⟩:=aG w5 (w.heap.size+2) 48 48 bP bP H.kr aj rfl (by simp[Value.oneCell'])
      have l9:=ak fA underlying48 rfl aj
      have fC:Below w.heap.size w W9:=H.all.grown fB H.all.size (fun j e=>by cases e;omega)
      go_wp2
      refine bodyPost_ret (v:=.tuple #[.agg bP,.int .i64 D]) (by simp[results,results104,go_sem,l9]) rfl ?_
      exact⟨rfl,fC⟩
     ·have lc:=ak H.kc underlying48 rfl aj
      obtain⟨W9,lN,fA,fB⟩:=aG w5 (w.heap.size+2) 48 48 bP (bR k a vo b vt z er cr.b cr.n cr.l cr.y cr.x cr.s) H.kr aj rfl (by simp[Value.oneCell'])
      have l9:=ak fA underlying48 rfl aj
      have fC:Below w.heap.size w W9:=H.all.grown fB H.all.size (fun j e=>by cases e;omega)
      go_wp2
      refine bodyPost_ret (v:=.tuple #[.agg (bR k a vo b vt z er cr.b cr.n cr.l cr.y cr.x cr.s),.int .i64 0]) (by simp[results,results104,go_sem,l9]) rfl ?_
      exact⟨rfl,fC⟩))
