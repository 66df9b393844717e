/- Proved: parts of the walk. -/
import Derived.Test.YtgbpekeoegfjpaaGreatDoorYQK
import Derived.Test.YtgbpekeoegfjpaaGreatDoorYTA
set_option maxRecDepth 100000
set_option maxHeartbeats 8000000
namespace Go.Proofs
open Tryz RowKit
variable (A1 A2 A3 A4 : Option Addr) (c1 c2 c3 c4 : Nat) (f : Pl.aL)
attribute [-go_sem] loadVar run_equalIn_agg
attribute [local go_sem] bZ bH dU aT dD nE
theorem G5 (w:World):Calls prog 92 #[.int .u8 1] w fun e w'=>e=.returned (.string ⟨#[115,116,111,110,101]⟩)∧w=w':=by
 go_enter func92,ntmps92
 go_wp2
 go_ret
 exact⟨rfl,rfl⟩
theorem G6 (w:World):Calls prog 92 #[.int .u8 2] w fun e w'=>e=.returned (.string ⟨#[119,105,100,116,104]⟩)∧w=w':=by
 go_enter func92,ntmps92
 go_wp2
 go_ret
 exact⟨rfl,rfl⟩
theorem G7 (w:World):Calls prog 92 #[.int .u8 3] w fun e w'=>e=.returned (.string ⟨#[99,111,117,114,115,101]⟩)∧w=w':=by
 go_enter func92,ntmps92
 go_wp2
 go_ret
 exact⟨rfl,rfl⟩
theorem G8 (w:World):Calls prog 92 #[.int .u8 4] w fun e w'=>e=.returned (.string ⟨#[97,108,111,110,103]⟩)∧w=w':=by
 go_enter func92,ntmps92
 go_wp2
 go_ret
 exact⟨rfl,rfl⟩
theorem G9 (w:World):Calls prog 92 #[.int .u8 5] w fun e w'=>e=.returned (.string ⟨#[108,101,118,101,108]⟩)∧w=w':=by
 go_enter func92,ntmps92
 go_wp2
 go_ret
 exact⟨rfl,rfl⟩
theorem M7 (il ir:Nat)(o t z er:Int)(cr:Pl.bF)(L1 S1 T:List UInt8)(w:World)(hf:bB w w.heap.size A1 A2 A3 A4 f)
  (l1:il<f.li.length) (l2:ir<f.st.length) (e1:f.li[il]=⟨L1.toArray⟩) (e2:f.st[ir].1=⟨S1.toArray⟩) (b1:L1.length<=1000) (b2:S1.length<=1000) (z0: -1000000<=z∧z<=1000000) (r0: -1000000<=er∧er<=1000000)
  (hT:Hid (((((((([115,116,111,110,101]++[32])++L1)++[32])++S1)++[32])++Lib.itoa z)++[32])++Lib.itoa er=T))
  (pk: ∀W,Below w.heap.size w W->Calls prog 68 #[.agg (fq A1 A2 A3 A4 c1 c2 c3 c4 f),.agg (bR 1 (il:Int) o (ir:Int) t z er cr.b cr.n cr.l cr.y cr.x cr.s)] W fun e w'=>e=.returned (.int .i64 0)∧Below W.heap.size W w'):
  Calls prog 30 #[.agg (fq A1 A2 A3 A4 c1 c2 c3 c4 f),.agg (bR 1 (il:Int) o (ir:Int) t z er cr.b cr.n cr.l cr.y cr.x cr.s)] w fun e w'=>e=.returned (.tuple #[.string ⟨T.toArray⟩,.int .i64 0])∧Below w.heap.size w w':=by
 have kf:=heap_alloc2_old w (.cells (fq A1 A2 A3 A4 c1 c2 c3 c4 f) 28) (.cells (bR 1 (il:Int) o (ir:Int) t z er cr.b cr.n cr.l cr.y cr.x cr.s) 48)
 have kc:=heap_alloc2_new w (.cells (fq A1 A2 A3 A4 c1 c2 c3 c4 f) 28) (.cells (bR 1 (il:Int) o (ir:Int) t z er cr.b cr.n cr.l cr.y cr.x cr.s) 48)
 have hall:Below w.heap.size w ((w.alloc (.cells (fq A1 A2 A3 A4 c1 c2 c3 c4 f) 28)).alloc (.cells (bR 1 (il:Int) o (ir:Int) t z er cr.b cr.n cr.l cr.y cr.x cr.s) 48)):=((Below.refl _ w).alloc (Nat.le_refl _) _).alloc (by simp) _
 have iw:=ak kf underlying28 rfl av
 have gZ:=ak kc underlying48 rfl aj
 obtain⟨g2,o2,hA2,hg2,u1⟩:=d9.gY hf.li l1
 obtain⟨g1,o1,hA1,hg1,u2,-⟩:=iJ.at2 hf.st l2
 rw[e1]at u1
 rw[e2]at u2
 subst hA1 hA2
 have j1:(0:Int)<=(il:Int):=by omega
 have j2:(il:Int)<(f.li.length:Int):=by omega
 have j3:(0:Int)<=(ir:Int):=by omega
 have j4:(ir:Int)<(f.st.length:Int):=by omega
 have hz:(Lib.itoa z).length<=21:=Lib.itoa_length_le z (by omega) (by omega)
 have her:(Lib.itoa er).length<=21:=Lib.itoa_length_le er (by omega) (by omega)
 have t1:=fun W=>dV [115,116,111,110,101] [32] (by decide) (by decide) W
 obtain⟨Q1,Ci⟩: ∃X,([115,116,111,110,101]:List UInt8)++[32]=X:=⟨_,rfl⟩
 have y1:Q1.length<=6:=by rw[<-Ci];decide
 rw[Ci]at t1 hT
 have t2:=fun W=>dV Q1 L1 (by omega) (by omega) W
 obtain⟨Q2,Cj⟩: ∃X,Q1++L1=X:=⟨_,rfl⟩
 have y2:Q2.length<=1006:=by rw[<-Cj];simp;omega
 rw[Cj]at t2 hT
 have t3:=fun W=>dV Q2 [32] (by omega) (by decide) W
 obtain⟨Q3,Ck⟩: ∃X,Q2++[32]=X:=⟨_,rfl⟩
 have y3:Q3.length<=1007:=by rw[<-Ck];simp;omega
 rw[Ck]at t3 hT
 have t4:=fun W=>dV Q3 S1 (by omega) (by omega) W
 obtain⟨Q4,Cm⟩: ∃X,Q3++S1=X:=⟨_,rfl⟩
 have y4:Q4.length<=2007:=by rw[<-Cm];simp;omega
 rw[Cm]at t4 hT
 have t5:=fun W=>dV Q4 [32] (by omega) (by decide) W
 obtain⟨Q5,Cn⟩: ∃X,Q4++[32]=X:=⟨_,rfl⟩
 have y5:Q5.length<=2008:=by rw[<-Cn];simp;omega
 rw[Cn]at t5 hT
 have t6:=fun W=>dV Q5 (Lib.itoa z) (by omega) (by omega) W
 obtain⟨Q6,Co⟩: ∃X,Q5++Lib.itoa z=X:=⟨_,rfl⟩
 have y6:Q6.length<=2029:=by rw[<-Co];simp;omega
 rw[Co]at t6 hT
 have t7:=fun W=>dV Q6 [32] (by omega) (by decide) W
 obtain⟨Q7,Cq⟩: ∃X,Q6++[32]=X:=⟨_,rfl⟩
 have y7:Q7.length<=2030:=by rw[<-Cq];simp;omega
 rw[Cq]at t7 hT
 have t8:=fun W=>dV Q7 (Lib.itoa er) (by omega) (by omega) W
 rw[hT.out]at t8
 have dz:=fun W=>ig z W (by omega) (by omega)
 have de:=fun W=>ig er W (by omega) (by omega)
 obtain⟨tk1,_⟩: ∃n:Nat,n=n:=⟨0,rfl⟩
 clear e1 e2 b1 b2 l1 l2 hf hT z0 r0 Ci y1 Cj y2 Ck y3 Cm y4 Cn y5 Co y6 Cq y7 hz her
 go_enter func30,ntmps30
 go_wp2_with fail
 refine(pk _ hall).mono ?_
 rintro e w1 ⟨rfl,hx⟩
 have kf:=kE hx kf
 have kc:=kE hx kc
 have hall:Below w.heap.size w w1:=hall.trans (hx.mono hall.size)
 have kf:=(show w1.drew.heap[w.heap.size]?=_ from kf)
 have kc:=(show w1.drew.heap[w.heap.size+1]?=_ from kc)
 have Ar:=hall
 have hall:=hall.drew
 have u1:=(hall.cell (p:=⟨g2,o2+il,none⟩) hg2).trans u1
 have u2:=(hall.cell (p:=⟨g1,o1+ir*2,none⟩) hg1).trans u2
 clear iw gZ hx pk hg1 hg2
 obtain⟨hcf,nY⟩:=ah kf
 obtain⟨hcc,hfc⟩:=ah kc
 go_wp2_with fail
 go_region_held3 (fun W=>W.cell? ⟨w.heap.size,1,none⟩=some (.slice (some ⟨g2,o2,none⟩) f.li.length c2)∧W.cell? ⟨w.heap.size+1,0,none⟩=some (.int .u8 1)∧W.cell? ⟨w.heap.size+1,1,none⟩=some (.int .i64 (il:Int))∧W.cell? ⟨g2,o2+il,none⟩=some (.string ⟨L1.toArray⟩)) (exact⟨hcf 1,hcc 0,hcc 1,u1⟩) (first|(go_at_call 92;refine(G5 _).mono ?_;rintro e w' ⟨rfl,rfl⟩))
 all_goals go_wp2
 all_goals go_region_held3 (fun W=>W.cell? ⟨w.heap.size+1,5,none⟩=some (.int .i64 z)∧W.cell? ⟨w.heap.size+1,6,none⟩=some (.int .i64 er)) (first|exact⟨hcc 5,hcc 6⟩|exact⟨ES 5,ES 6⟩|exact⟨zx 5,zx 6⟩) (first
  |(go_at_call 95;clear tk1;refine(dz _).mono ?_;rintro e w2 ⟨rfl,hx⟩;have Ql:=kE hx kc;obtain⟨zx,O9⟩:=ah Ql;have bY:Below w.heap.size w w2:=(by first|exact hall.drew.trans (hx.mono hall.size)|exact hall.trans (hx.mono hall.size));clear hx)
  |(go_at_call 95;refine(de _).mono ?_;rintro e w4 ⟨rfl,hx⟩;have Pt:=kE hx Ql;obtain⟨ES,Ui⟩:=ah Pt;have mW:Below w.heap.size w w4:=bY.trans (hx.mono bY.size);clear hx))
 all_goals go_wp2
 all_goals go_ret2
 all_goals exact⟨rfl,mW⟩
theorem M8 (il ir io:Nat)(t z er:Int)(cr:Pl.bF)(L1 S1 L2 T:List UInt8)(w:World)(hf:bB w w.heap.size A1 A2 A3 A4 f)
  (l1:il<f.li.length) (l2:ir<f.st.length) (e1:f.li[il]=⟨L1.toArray⟩) (e2:f.st[ir].1=⟨S1.toArray⟩) (b1:L1.length<=1000) (b2:S1.length<=1000) (l3:io<f.li.length) (e3:f.li[io]=⟨L2.toArray⟩) (b3:L2.length<=1000) (z0: -1000000<=z∧z<=1000000) (r0: -1000000<=er∧er<=1000000)
  (hT:Hid (((((((((([119,105,100,116,104]++[32])++L1)++[32])++L2)++[32])++S1)++[32])++Lib.itoa z)++[32])++Lib.itoa er=T))
  (pk: ∀W,Below w.heap.size w W->Calls prog 68 #[.agg (fq A1 A2 A3 A4 c1 c2 c3 c4 f),.agg (bR 2 (il:Int) (io:Int) (ir:Int) t z er cr.b cr.n cr.l cr.y cr.x cr.s)] W fun e w'=>e=.returned (.int .i64 0)∧Below W.heap.size W w'):
  Calls prog 30 #[.agg (fq A1 A2 A3 A4 c1 c2 c3 c4 f),.agg (bR 2 (il:Int) (io:Int) (ir:Int) t z er cr.b cr.n cr.l cr.y cr.x cr.s)] w fun e w'=>e=.returned (.tuple #[.string ⟨T.toArray⟩,.int .i64 0])∧Below w.heap.size w w':=by
 have kf:=heap_alloc2_old w (.cells (fq A1 A2 A3 A4 c1 c2 c3 c4 f) 28) (.cells (bR 2 (il:Int) (io:Int) (ir:Int) t z er cr.b cr.n cr.l cr.y cr.x cr.s) 48)
 have kc:=heap_alloc2_new w (.cells (fq A1 A2 A3 A4 c1 c2 c3 c4 f) 28) (.cells (bR 2 (il:Int) (io:Int) (ir:Int) t z er cr.b cr.n cr.l cr.y cr.x cr.s) 48)
 have hall:Below w.heap.size w ((w.alloc (.cells (fq A1 A2 A3 A4 c1 c2 c3 c4 f) 28)).alloc (.cells (bR 2 (il:Int) (io:Int) (ir:Int) t z er cr.b cr.n cr.l cr.y cr.x cr.s) 48)):=((Below.refl _ w).alloc (Nat.le_refl _) _).alloc (by simp) _
 have iw:=ak kf underlying28 rfl av
 have gZ:=ak kc underlying48 rfl aj
 obtain⟨g2,o2,hA2,hg2,u1⟩:=d9.gY hf.li l1
 obtain⟨g1,o1,hA1,hg1,u2,-⟩:=iJ.at2 hf.st l2
 rw[e1]at u1
 rw[e2]at u2
 obtain⟨g2',Wj,xZ,_,u3⟩:=d9.gY hf.li l3
 rw[hA2]at xZ
 obtain⟨rfl,rfl⟩:g2=g2'∧o2=Wj:=by simpa using xZ
 clear xZ
 rw[e3]at u3
 subst hA1 hA2
 have j1:(0:Int)<=(il:Int):=by omega
 have j2:(il:Int)<(f.li.length:Int):=by omega
 have j3:(0:Int)<=(ir:Int):=by omega
 have j4:(ir:Int)<(f.st.length:Int):=by omega
 have j5:(0:Int)<=(io:Int):=by omega
 have j6:(io:Int)<(f.li.length:Int):=by omega
 have hz:(Lib.itoa z).length<=21:=Lib.itoa_length_le z (by omega) (by omega)
 have her:(Lib.itoa er).length<=21:=Lib.itoa_length_le er (by omega) (by omega)
 have t1:=fun W=>dV [119,105,100,116,104] [32] (by decide) (by decide) W
 obtain⟨Q1,Ci⟩: ∃X,([119,105,100,116,104]:List UInt8)++[32]=X:=⟨_,rfl⟩
 have y1:Q1.length<=6:=by rw[<-Ci];decide
 rw[Ci]at t1 hT
 have t2:=fun W=>dV Q1 L1 (by omega) (by omega) W
 obtain⟨Q2,Cj⟩: ∃X,Q1++L1=X:=⟨_,rfl⟩
 have y2:Q2.length<=1006:=by rw[<-Cj];simp;omega
 rw[Cj]at t2 hT
 have t3:=fun W=>dV Q2 [32] (by omega) (by decide) W
 obtain⟨Q3,Ck⟩: ∃X,Q2++[32]=X:=⟨_,rfl⟩
 have y3:Q3.length<=1007:=by rw[<-Ck];simp;omega
 rw[Ck]at t3 hT
 have t4:=fun W=>dV Q3 L2 (by omega) (by omega) W
 obtain⟨Q4,Cm⟩: ∃X,Q3++L2=X:=⟨_,rfl⟩
 have y4:Q4.length<=2007:=by rw[<-Cm];simp;omega
 rw[Cm]at t4 hT
 have t5:=fun W=>dV Q4 [32] (by omega) (by decide) W
 obtain⟨Q5,Cn⟩: ∃X,Q4++[32]=X:=⟨_,rfl⟩
 have y5:Q5.length<=2008:=by rw[<-Cn];simp;omega
 rw[Cn]at t5 hT
 have t6:=fun W=>dV Q5 S1 (by omega) (by omega) W
 obtain⟨Q6,Co⟩: ∃X,Q5++S1=X:=⟨_,rfl⟩
 have y6:Q6.length<=3008:=by rw[<-Co];simp;omega
 rw[Co]at t6 hT
 have t7:=fun W=>dV Q6 [32] (by omega) (by decide) W
 obtain⟨Q7,Cq⟩: ∃X,Q6++[32]=X:=⟨_,rfl⟩
 have y7:Q7.length<=3009:=by rw[<-Cq];simp;omega
 rw[Cq]at t7 hT
 have t8:=fun W=>dV Q7 (Lib.itoa z) (by omega) (by omega) W
 obtain⟨Q8,M9⟩: ∃X,Q7++Lib.itoa z=X:=⟨_,rfl⟩
 have y8:Q8.length<=3030:=by rw[<-M9];simp;omega
 rw[M9]at t8 hT
 have t9:=fun W=>dV Q8 [32] (by omega) (by decide) W
 obtain⟨Q9,M_⟩: ∃X,Q8++[32]=X:=⟨_,rfl⟩
 have y9:Q9.length<=3031:=by rw[<-M_];simp;omega
 rw[M_]at t9 hT
 have t10:=fun W=>dV Q9 (Lib.itoa er) (by omega) (by omega) W
 rw[hT.out]at t10
 have dz:=fun W=>ig z W (by omega) (by omega)
 have de:=fun W=>ig er W (by omega) (by omega)
 obtain⟨tk1,_⟩: ∃n:Nat,n=n:=⟨0,rfl⟩
 clear e1 e2 b1 b2 l1 l2 hf hT e3 b3 l3 z0 r0 Ci y1 Cj y2 Ck y3 Cm y4 Cn y5 Co y6 Cq y7 M9 y8 M_ y9 hz her
 go_enter func30,ntmps30
 go_wp2_with fail
 refine(pk _ hall).mono ?_
 rintro e w1 ⟨rfl,hx⟩
 have kf:=kE hx kf
 have kc:=kE hx kc
 have hall:Below w.heap.size w w1:=hall.trans (hx.mono hall.size)
 have kf:=(show w1.drew.heap[w.heap.size]?=_ from kf)
 have kc:=(show w1.drew.heap[w.heap.size+1]?=_ from kc)
 have Ar:=hall
 have hall:=hall.drew
 have u1:=(hall.cell (p:=⟨g2,o2+il,none⟩) hg2).trans u1
 have u2:=(hall.cell (p:=⟨g1,o1+ir*2,none⟩) hg1).trans u2
 have u3:=(hall.cell (p:=⟨g2,o2+io,none⟩) hg2).trans u3
 clear iw gZ hx pk hg1 hg2
 obtain⟨hcf,nY⟩:=ah kf
 obtain⟨hcc,hfc⟩:=ah kc
 go_wp2_with fail
 go_region_held3 (fun W=>W.cell? ⟨w.heap.size,1,none⟩=some (.slice (some ⟨g2,o2,none⟩) f.li.length c2)∧W.cell? ⟨w.heap.size+1,0,none⟩=some (.int .u8 2)∧W.cell? ⟨w.heap.size+1,1,none⟩=some (.int .i64 (il:Int))∧W.cell? ⟨g2,o2+il,none⟩=some (.string ⟨L1.toArray⟩)) (exact⟨hcf 1,hcc 0,hcc 1,u1⟩) (first|(go_at_call 92;refine(G6 _).mono ?_;rintro e w' ⟨rfl,rfl⟩))
 all_goals go_wp2
 all_goals go_region_held3 (fun W=>W.cell? ⟨w.heap.size+1,5,none⟩=some (.int .i64 z)∧W.cell? ⟨w.heap.size+1,6,none⟩=some (.int .i64 er)) (first|exact⟨hcc 5,hcc 6⟩|exact⟨ES 5,ES 6⟩|exact⟨zx 5,zx 6⟩) (first
  |(go_at_call 95;clear tk1;refine(dz _).mono ?_;rintro e w2 ⟨rfl,hx⟩;have Ql:=kE hx kc;obtain⟨zx,O9⟩:=ah Ql;have bY:Below w.heap.size w w2:=(by first|exact hall.drew.trans (hx.mono hall.size)|exact hall.trans (hx.mono hall.size));clear hx)
  |(go_at_call 95;refine(de _).mono ?_;rintro e w4 ⟨rfl,hx⟩;have Pt:=kE hx Ql;obtain⟨ES,Ui⟩:=ah Pt;have mW:Below w.heap.size w w4:=bY.trans (hx.mono bY.size);clear hx))
 all_goals go_wp2
 all_goals go_ret2
 all_goals exact⟨rfl,mW⟩
theorem Ki (il ir it:Nat)(o z er:Int)(cr:Pl.bF)(L1 S1 S2 U V T:List UInt8)(w:World)(hf:bB w w.heap.size A1 A2 A3 A4 f)
  (l1:il<f.li.length) (l2:ir<f.st.length) (e1:f.li[il]=⟨L1.toArray⟩) (e2:f.st[ir].1=⟨S1.toArray⟩) (b1:L1.length<=1000) (b2:S1.length<=1000) (l4:it<f.st.length) (e4:f.st[it].1=⟨S2.toArray⟩) (b4:S2.length<=1000) (e5:Pl.aY cr.l=⟨U.toArray⟩) (b5:U.length<=1000) (e6:Pl.mD cr.b=⟨V.toArray⟩) (b6:V.length<=1000) (n0: -1000000<=cr.n∧cr.n<=1000000) (x0: -1000000<=cr.x∧cr.x<=1000000) (s0: -1000000<=cr.s∧cr.s<=1000000)
  (hT:Hid (((((((((((((((([99,111,117,114,115,101]++[32])++L1)++[32])++S1)++[32])++S2)++[32])++U)++[32,98,121,32])++V)++[32,103,105,118,101,32])++Lib.itoa cr.n)++[32,119,101,97,114,32])++Lib.itoa cr.x)++[32,115,108,97,99,107,32])++Lib.itoa cr.s=T))
  (pk: ∀W,Below w.heap.size w W->Calls prog 68 #[.agg (fq A1 A2 A3 A4 c1 c2 c3 c4 f),.agg (bR 3 (il:Int) o (ir:Int) (it:Int) z er cr.b cr.n cr.l cr.y cr.x cr.s)] W fun e w'=>e=.returned (.int .i64 0)∧Below W.heap.size W w'):
  Calls prog 30 #[.agg (fq A1 A2 A3 A4 c1 c2 c3 c4 f),.agg (bR 3 (il:Int) o (ir:Int) (it:Int) z er cr.b cr.n cr.l cr.y cr.x cr.s)] w fun e w'=>e=.returned (.tuple #[.string ⟨T.toArray⟩,.int .i64 0])∧Below w.heap.size w w':=by
 have kf:=heap_alloc2_old w (.cells (fq A1 A2 A3 A4 c1 c2 c3 c4 f) 28) (.cells (bR 3 (il:Int) o (ir:Int) (it:Int) z er cr.b cr.n cr.l cr.y cr.x cr.s) 48)
 have kc:=heap_alloc2_new w (.cells (fq A1 A2 A3 A4 c1 c2 c3 c4 f) 28) (.cells (bR 3 (il:Int) o (ir:Int) (it:Int) z er cr.b cr.n cr.l cr.y cr.x cr.s) 48)
 have hall:Below w.heap.size w ((w.alloc (.cells (fq A1 A2 A3 A4 c1 c2 c3 c4 f) 28)).alloc (.cells (bR 3 (il:Int) o (ir:Int) (it:Int) z er cr.b cr.n cr.l cr.y cr.x cr.s) 48)):=((Below.refl _ w).alloc (Nat.le_refl _) _).alloc (by simp) _
 have iw:=ak kf underlying28 rfl av
 have gZ:=ak kc underlying48 rfl aj
 obtain⟨g2,o2,hA2,hg2,u1⟩:=d9.gY hf.li l1
 obtain⟨g1,o1,hA1,hg1,u2,-⟩:=iJ.at2 hf.st l2
 rw[e1]at u1
 rw[e2]at u2
 obtain⟨g1',Uj,yY,_,u4,-⟩:=iJ.at2 hf.st l4
 rw[hA1]at yY
 obtain⟨rfl,rfl⟩:g1=g1'∧o1=Uj:=by simpa using yY
 clear yY
 rw[e4]at u4
 subst hA1 hA2
 have j1:(0:Int)<=(il:Int):=by omega
 have j2:(il:Int)<(f.li.length:Int):=by omega
 have j3:(0:Int)<=(ir:Int):=by omega
 have j4:(ir:Int)<(f.st.length:Int):=by omega
 have j7:(0:Int)<=(it:Int):=by omega
 have j8:(it:Int)<(f.st.length:Int):=by omega
 have hn:(Lib.itoa cr.n).length<=21:=Lib.itoa_length_le cr.n (by omega) (by omega)
 have Zn:(Lib.itoa cr.x).length<=21:=Lib.itoa_length_le cr.x (by omega) (by omega)
 have hs:(Lib.itoa cr.s).length<=21:=Lib.itoa_length_le cr.s (by omega) (by omega)
 have t1:=fun W=>dV [99,111,117,114,115,101] [32] (by decide) (by decide) W
 obtain⟨Q1,Ci⟩: ∃X,([99,111,117,114,115,101]:List UInt8)++[32]=X:=⟨_,rfl⟩
 have y1:Q1.length<=7:=by rw[<-Ci];decide
 rw[Ci]at t1 hT
 have t2:=fun W=>dV Q1 L1 (by omega) (by omega) W
 obtain⟨Q2,Cj⟩: ∃X,Q1++L1=X:=⟨_,rfl⟩
 have y2:Q2.length<=1007:=by rw[<-Cj];simp;omega
 rw[Cj]at t2 hT
 have t3:=fun W=>dV Q2 [32] (by omega) (by decide) W
 obtain⟨Q3,Ck⟩: ∃X,Q2++[32]=X:=⟨_,rfl⟩
 have y3:Q3.length<=1008:=by rw[<-Ck];simp;omega
 rw[Ck]at t3 hT
 have t4:=fun W=>dV Q3 S1 (by omega) (by omega) W
 obtain⟨Q4,Cm⟩: ∃X,Q3++S1=X:=⟨_,rfl⟩
 have y4:Q4.length<=2008:=by rw[<-Cm];simp;omega
 rw[Cm]at t4 hT
 have t5:=fun W=>dV Q4 [32] (by omega) (by decide) W
 obtain⟨Q5,Cn⟩: ∃X,Q4++[32]=X:=⟨_,rfl⟩
 have y5:Q5.length<=2009:=by rw[<-Cn];simp;omega
 rw[Cn]at t5 hT
 have t6:=fun W=>dV Q5 S2 (by omega) (by omega) W
 obtain⟨Q6,Co⟩: ∃X,Q5++S2=X:=⟨_,rfl⟩
 have y6:Q6.length<=3009:=by rw[<-Co];simp;omega
 rw[Co]at t6 hT
 have t7:=fun W=>dV Q6 [32] (by omega) (by decide) W
 obtain⟨Q7,Cq⟩: ∃X,Q6++[32]=X:=⟨_,rfl⟩
 have y7:Q7.length<=3010:=by rw[<-Cq];simp;omega
 rw[Cq]at t7 hT
 have t8:=fun W=>dV Q7 U (by omega) (by omega) W
 obtain⟨Q8,M9⟩: ∃X,Q7++U=X:=⟨_,rfl⟩
 have y8:Q8.length<=4010:=by rw[<-M9];simp;omega
 rw[M9]at t8 hT
 have t9:=fun W=>dV Q8 [32,98,121,32] (by omega) (by decide) W
 obtain⟨Q9,M_⟩: ∃X,Q8++[32,98,121,32]=X:=⟨_,rfl⟩
 have y9:Q9.length<=4014:=by rw[<-M_];simp;omega
 rw[M_]at t9 hT
 have t10:=fun W=>dV Q9 V (by omega) (by omega) W
 obtain⟨Wl,RY⟩: ∃X,Q9++V=X:=⟨_,rfl⟩
 have Zo:Wl.length<=5014:=by rw[<-RY];simp;omega
 rw[RY]at t10 hT
 have t11:=fun W=>dV Wl [32,103,105,118,101,32] (by omega) (by decide) W
 obtain⟨Wm,RZ⟩: ∃X,Wl++[32,103,105,118,101,32]=X:=⟨_,rfl⟩
 have Zp:Wm.length<=5020:=by rw[<-RZ];simp;omega
 rw[RZ]at t11 hT
 have t12:=fun W=>dV Wm (Lib.itoa cr.n) (by omega) (by omega) W
 obtain⟨Wn,R3⟩: ∃X,Wm++Lib.itoa cr.n=X:=⟨_,rfl⟩
 have Zq:Wn.length<=5041:=by rw[<-R3];simp;omega
 rw[R3]at t12 hT
 have Zr:=fun W=>dV Wn [32,119,101,97,114,32] (by omega) (by decide) W
 obtain⟨Wo,R4⟩: ∃X,Wn++[32,119,101,97,114,32]=X:=⟨_,rfl⟩
 have y13:Wo.length<=5047:=by rw[<-R4];simp;omega
 rw[R4]at Zr hT
 have Zt:=fun W=>dV Wo (Lib.itoa cr.x) (by omega) (by omega) W
 obtain⟨Wp,R5⟩: ∃X,Wo++Lib.itoa cr.x=X:=⟨_,rfl⟩
 have Zu:Wp.length<=5068:=by rw[<-R5];simp;omega
 rw[R5]at Zt hT
 have Zv:=fun W=>dV Wp [32,115,108,97,99,107,32] (by omega) (by decide) W
 obtain⟨XB,R6⟩: ∃X,Wp++[32,115,108,97,99,107,32]=X:=⟨_,rfl⟩
 have Zw:XB.length<=5075:=by rw[<-R6];simp;omega
 rw[R6]at Zv hT
 have t16:=fun W=>dV XB (Lib.itoa cr.s) (by omega) (by omega) W
 rw[hT.out]at t16
 have dl:=fun W=>yM cr.l W
 rw[e5]at dl
 have dq:=fun W=>MS cr.b W
 rw[show(⟨(Pl.gu cr.b).toArray⟩:ByteArray)=⟨V.toArray⟩ from e6]at dq
 have dn:=fun W=>ig cr.n W (by omega) (by omega)
 have dx:=fun W=>ig cr.x W (by omega) (by omega)
 have ds:=fun W=>ig cr.s W (by omega) (by omega)
 obtain⟨tk1,_⟩: ∃n:Nat,n=n:=⟨0,rfl⟩
 obtain⟨tk2,_⟩: ∃n:Nat,n=n:=⟨0,rfl⟩
 clear e1 e2 b1 b2 l1 l2 hf hT e4 b4 l4 e5 b5 e6 b6 n0 x0 s0 Ci y1 Cj y2 Ck y3 Cm y4 Cn y5 Co y6 Cq y7 M9 y8 M_ y9 RY Zo RZ Zp R3 Zq R4 y13 R5 Zu R6 Zw hn Zn hs
 go_enter func30,ntmps30
 go_wp2_with fail
 refine(pk _ hall).mono ?_
 rintro e w1 ⟨rfl,hx⟩
 have kf:=kE hx kf
 have kc:=kE hx kc
 have hall:Below w.heap.size w w1:=hall.trans (hx.mono hall.size)
 have kf:=(show w1.drew.heap[w.heap.size]?=_ from kf)
 have kc:=(show w1.drew.heap[w.heap.size+1]?=_ from kc)
 have Ar:=hall
 have hall:=hall.drew
 have u1:=(hall.cell (p:=⟨g2,o2+il,none⟩) hg2).trans u1
 have u2:=(hall.cell (p:=⟨g1,o1+ir*2,none⟩) hg1).trans u2
 have u4:=(hall.cell (p:=⟨g1,o1+it*2,none⟩) hg1).trans u4
 have qI:=dS kc
 clear iw gZ hx pk hg1 hg2
 obtain⟨hcf,nY⟩:=ah kf
 obtain⟨hcc,hfc⟩:=ah kc
 go_wp2_with fail
 go_region_held3 (fun W=>W.cell? ⟨w.heap.size,1,none⟩=some (.slice (some ⟨g2,o2,none⟩) f.li.length c2)∧W.cell? ⟨w.heap.size+1,0,none⟩=some (.int .u8 3)∧W.cell? ⟨w.heap.size+1,1,none⟩=some (.int .i64 (il:Int))∧W.cell? ⟨g2,o2+il,none⟩=some (.string ⟨L1.toArray⟩)) (exact⟨hcf 1,hcc 0,hcc 1,u1⟩) (first|(go_at_call 92;refine(G7 _).mono ?_;rintro e w' ⟨rfl,rfl⟩))
 all_goals go_wp2
 obtain⟨w5,Zx⟩: ∃W,(w1.alloc (.cells (cq cr) 46)).drew=W:=⟨_,rfl⟩
 have kx:=(show(w1.alloc (.cells (cq cr) 46)).drew.heap[w1.heap.size]?=_ from heap_alloc_new w1 (.cells (cq cr) 46))
 have hall:=(Ar.alloc Ar.size (.cells (cq cr) 46)).drew
 rw[Zx]at kx hall ⊢
 obtain⟨hcx,hfx⟩:=ah kx
 go_region_held3 (fun W=>W.cell? ⟨w1.heap.size,2,none⟩=some (.int .i64 cr.l)∧W.cell? ⟨w1.heap.size,0,none⟩=some (.int .i64 cr.b)∧W.cell? ⟨w1.heap.size,1,none⟩=some (.int .i64 cr.n)∧W.cell? ⟨w1.heap.size,4,none⟩=some (.int .i64 cr.x)∧W.cell? ⟨w1.heap.size,5,none⟩=some (.int .i64 cr.s)) (first|exact⟨hcx 2,hcx 0,hcx 1,hcx 4,hcx 5⟩|exact⟨EU 2,EU 0,EU 1,EU 4,EU 5⟩|exact⟨Na 2,Na 0,Na 1,Na 4,Na 5⟩|exact⟨Nb 2,Nb 0,Nb 1,Nb 4,Nb 5⟩|exact⟨Nc 2,Nc 0,Nc 1,Nc 4,Nc 5⟩|exact⟨Nf 2,Nf 0,Nf 1,Nf 4,Nf 5⟩) (first
  |(go_at_call 93;refine(dl _).mono ?_;rintro e w6 ⟨rfl,hx⟩;have XC:=kE hx kx;obtain⟨Nf,Zy⟩:=ah XC;have I5:Below w.heap.size w w6:=(by first|exact hall.drew.trans (hx.mono hall.size)|exact hall.trans (hx.mono hall.size));clear hx)
  |(go_at_call 94;refine(dq _).mono ?_;rintro e w7 ⟨rfl,hx⟩;have XE:=kE hx XC;obtain⟨Nc,Zz⟩:=ah XE;have hall7:Below w.heap.size w w7:=(by first|exact I5.drew.trans (hx.mono I5.size)|exact I5.trans (hx.mono I5.size));clear hx)
  |(go_at_call 95;clear tk1;refine(dn _).mono ?_;rintro e w8 ⟨rfl,hx⟩;have XF:=kE hx XE;obtain⟨Nb,ZA⟩:=ah XF;have I6:Below w.heap.size w w8:=(by first|exact hall7.drew.trans (hx.mono hall7.size)|exact hall7.trans (hx.mono hall7.size));clear hx)
  |(go_at_call 95;clear tk2;refine(dx _).mono ?_;rintro e w9 ⟨rfl,hx⟩;have XG:=kE hx XF;obtain⟨Na,ZB⟩:=ah XG;have I7:Below w.heap.size w w9:=(by first|exact I6.drew.trans (hx.mono I6.size)|exact I6.trans (hx.mono I6.size));clear hx)
  |(go_at_call 95;refine(ds _).mono ?_;rintro e Js ⟨rfl,hx⟩;have Wq:=kE hx XG;obtain⟨EU,XH⟩:=ah Wq;have R7:Below w.heap.size w Js:=(by first|exact I7.drew.trans (hx.mono I7.size)|exact I7.trans (hx.mono I7.size));clear hx))
 all_goals go_wp2
 all_goals go_ret2
 all_goals exact⟨rfl,R7⟩
theorem Ng (il ir io it:Nat)(z er:Int)(cr:Pl.bF)(L1 S1 L2 S2 T:List UInt8)(w:World)(hf:bB w w.heap.size A1 A2 A3 A4 f)
  (l1:il<f.li.length) (l2:ir<f.st.length) (e1:f.li[il]=⟨L1.toArray⟩) (e2:f.st[ir].1=⟨S1.toArray⟩) (b1:L1.length<=1000) (b2:S1.length<=1000) (l3:io<f.li.length) (e3:f.li[io]=⟨L2.toArray⟩) (b3:L2.length<=1000) (l4:it<f.st.length) (e4:f.st[it].1=⟨S2.toArray⟩) (b4:S2.length<=1000)
  (hT:Hid (((((((([97,108,111,110,103]++[32])++L1)++[32])++L2)++[32])++S1)++[32])++S2=T))
  (pk: ∀W,Below w.heap.size w W->Calls prog 68 #[.agg (fq A1 A2 A3 A4 c1 c2 c3 c4 f),.agg (bR 4 (il:Int) (io:Int) (ir:Int) (it:Int) z er cr.b cr.n cr.l cr.y cr.x cr.s)] W fun e w'=>e=.returned (.int .i64 0)∧Below W.heap.size W w'):
  Calls prog 30 #[.agg (fq A1 A2 A3 A4 c1 c2 c3 c4 f),.agg (bR 4 (il:Int) (io:Int) (ir:Int) (it:Int) z er cr.b cr.n cr.l cr.y cr.x cr.s)] w fun e w'=>e=.returned (.tuple #[.string ⟨T.toArray⟩,.int .i64 0])∧Below w.heap.size w w':=by
 have kf:=heap_alloc2_old w (.cells (fq A1 A2 A3 A4 c1 c2 c3 c4 f) 28) (.cells (bR 4 (il:Int) (io:Int) (ir:Int) (it:Int) z er cr.b cr.n cr.l cr.y cr.x cr.s) 48)
 have kc:=heap_alloc2_new w (.cells (fq A1 A2 A3 A4 c1 c2 c3 c4 f) 28) (.cells (bR 4 (il:Int) (io:Int) (ir:Int) (it:Int) z er cr.b cr.n cr.l cr.y cr.x cr.s) 48)
 have hall:Below w.heap.size w ((w.alloc (.cells (fq A1 A2 A3 A4 c1 c2 c3 c4 f) 28)).alloc (.cells (bR 4 (il:Int) (io:Int) (ir:Int) (it:Int) z er cr.b cr.n cr.l cr.y cr.x cr.s) 48)):=((Below.refl _ w).alloc (Nat.le_refl _) _).alloc (by simp) _
 have iw:=ak kf underlying28 rfl av
 have gZ:=ak kc underlying48 rfl aj
 obtain⟨g2,o2,hA2,hg2,u1⟩:=d9.gY hf.li l1
 obtain⟨g1,o1,hA1,hg1,u2,-⟩:=iJ.at2 hf.st l2
 rw[e1]at u1
 rw[e2]at u2
 obtain⟨g2',Wj,xZ,_,u3⟩:=d9.gY hf.li l3
 rw[hA2]at xZ
 obtain⟨rfl,rfl⟩:g2=g2'∧o2=Wj:=by simpa using xZ
 clear xZ
 rw[e3]at u3
 obtain⟨g1',Uj,yY,_,u4,-⟩:=iJ.at2 hf.st l4
 rw[hA1]at yY
 obtain⟨rfl,rfl⟩:g1=g1'∧o1=Uj:=by simpa using yY
 clear yY
 rw[e4]at u4
 subst hA1 hA2
 have j1:(0:Int)<=(il:Int):=by omega
 have j2:(il:Int)<(f.li.length:Int):=by omega
 have j3:(0:Int)<=(ir:Int):=by omega
 have j4:(ir:Int)<(f.st.length:Int):=by omega
 have j5:(0:Int)<=(io:Int):=by omega
 have j6:(io:Int)<(f.li.length:Int):=by omega
 have j7:(0:Int)<=(it:Int):=by omega
 have j8:(it:Int)<(f.st.length:Int):=by omega
 have t1:=fun W=>dV [97,108,111,110,103] [32] (by decide) (by decide) W
 obtain⟨Q1,Ci⟩: ∃X,([97,108,111,110,103]:List UInt8)++[32]=X:=⟨_,rfl⟩
 have y1:Q1.length<=6:=by rw[<-Ci];decide
 rw[Ci]at t1 hT
 have t2:=fun W=>dV Q1 L1 (by omega) (by omega) W
 obtain⟨Q2,Cj⟩: ∃X,Q1++L1=X:=⟨_,rfl⟩
 have y2:Q2.length<=1006:=by rw[<-Cj];simp;omega
 rw[Cj]at t2 hT
 have t3:=fun W=>dV Q2 [32] (by omega) (by decide) W
 obtain⟨Q3,Ck⟩: ∃X,Q2++[32]=X:=⟨_,rfl⟩
 have y3:Q3.length<=1007:=by rw[<-Ck];simp;omega
 rw[Ck]at t3 hT
 have t4:=fun W=>dV Q3 L2 (by omega) (by omega) W
 obtain⟨Q4,Cm⟩: ∃X,Q3++L2=X:=⟨_,rfl⟩
 have y4:Q4.length<=2007:=by rw[<-Cm];simp;omega
 rw[Cm]at t4 hT
 have t5:=fun W=>dV Q4 [32] (by omega) (by decide) W
 obtain⟨Q5,Cn⟩: ∃X,Q4++[32]=X:=⟨_,rfl⟩
 have y5:Q5.length<=2008:=by rw[<-Cn];simp;omega
 rw[Cn]at t5 hT
 have t6:=fun W=>dV Q5 S1 (by omega) (by omega) W
 obtain⟨Q6,Co⟩: ∃X,Q5++S1=X:=⟨_,rfl⟩
 have y6:Q6.length<=3008:=by rw[<-Co];simp;omega
 rw[Co]at t6 hT
 have t7:=fun W=>dV Q6 [32] (by omega) (by decide) W
 obtain⟨Q7,Cq⟩: ∃X,Q6++[32]=X:=⟨_,rfl⟩
 have y7:Q7.length<=3009:=by rw[<-Cq];simp;omega
 rw[Cq]at t7 hT
 have t8:=fun W=>dV Q7 S2 (by omega) (by omega) W
 rw[hT.out]at t8
 clear e1 e2 b1 b2 l1 l2 hf hT e3 b3 l3 e4 b4 l4 Ci y1 Cj y2 Ck y3 Cm y4 Cn y5 Co y6 Cq y7
 go_enter func30,ntmps30
 go_wp2_with fail
 refine(pk _ hall).mono ?_
 rintro e w1 ⟨rfl,hx⟩
 have kf:=kE hx kf
 have kc:=kE hx kc
 have hall:Below w.heap.size w w1:=hall.trans (hx.mono hall.size)
 have kf:=(show w1.drew.heap[w.heap.size]?=_ from kf)
 have kc:=(show w1.drew.heap[w.heap.size+1]?=_ from kc)
 have Ar:=hall
 have hall:=hall.drew
 have u1:=(hall.cell (p:=⟨g2,o2+il,none⟩) hg2).trans u1
 have u2:=(hall.cell (p:=⟨g1,o1+ir*2,none⟩) hg1).trans u2
 have u3:=(hall.cell (p:=⟨g2,o2+io,none⟩) hg2).trans u3
 have u4:=(hall.cell (p:=⟨g1,o1+it*2,none⟩) hg1).trans u4
 clear iw gZ hx pk hg1 hg2
 obtain⟨hcf,nY⟩:=ah kf
 obtain⟨hcc,hfc⟩:=ah kc
 go_wp2_with fail
 go_region_held3 (fun W=>W.cell? ⟨w.heap.size,1,none⟩=some (.slice (some ⟨g2,o2,none⟩) f.li.length c2)∧W.cell? ⟨w.heap.size+1,0,none⟩=some (.int .u8 4)∧W.cell? ⟨w.heap.size+1,1,none⟩=some (.int .i64 (il:Int))∧W.cell? ⟨g2,o2+il,none⟩=some (.string ⟨L1.toArray⟩)) (exact⟨hcf 1,hcc 0,hcc 1,u1⟩) (first|(go_at_call 92;refine(G8 _).mono ?_;rintro e w' ⟨rfl,rfl⟩))
 all_goals go_wp2
 all_goals go_ret2
 all_goals exact⟨rfl,by first|exact hall|exact hall.drew|(go_grown;done)⟩
theorem Nh (il ir it:Nat)(o z er:Int)(cr:Pl.bF)(L1 S1 S2 T:List UInt8)(w:World)(hf:bB w w.heap.size A1 A2 A3 A4 f)
  (l1:il<f.li.length) (l2:ir<f.st.length) (e1:f.li[il]=⟨L1.toArray⟩) (e2:f.st[ir].1=⟨S1.toArray⟩) (b1:L1.length<=1000) (b2:S1.length<=1000) (l4:it<f.st.length) (e4:f.st[it].1=⟨S2.toArray⟩) (b4:S2.length<=1000) (z0: -1000000<=z∧z<=1000000) (r0: -1000000<=er∧er<=1000000)
  (hT:Hid (((((((((([108,101,118,101,108]++[32])++L1)++[32])++S1)++[32])++S2)++[32])++Lib.itoa z)++[32])++Lib.itoa er=T))
  (pk: ∀W,Below w.heap.size w W->Calls prog 68 #[.agg (fq A1 A2 A3 A4 c1 c2 c3 c4 f),.agg (bR 5 (il:Int) o (ir:Int) (it:Int) z er cr.b cr.n cr.l cr.y cr.x cr.s)] W fun e w'=>e=.returned (.int .i64 0)∧Below W.heap.size W w'):
  Calls prog 30 #[.agg (fq A1 A2 A3 A4 c1 c2 c3 c4 f),.agg (bR 5 (il:Int) o (ir:Int) (it:Int) z er cr.b cr.n cr.l cr.y cr.x cr.s)] w fun e w'=>e=.returned (.tuple #[.string ⟨T.toArray⟩,.int .i64 0])∧Below w.heap.size w w':=by
 have kf:=heap_alloc2_old w (.cells (fq A1 A2 A3 A4 c1 c2 c3 c4 f) 28) (.cells (bR 5 (il:Int) o (ir:Int) (it:Int) z er cr.b cr.n cr.l cr.y cr.x cr.s) 48)
 have kc:=heap_alloc2_new w (.cells (fq A1 A2 A3 A4 c1 c2 c3 c4 f) 28) (.cells (bR 5 (il:Int) o (ir:Int) (it:Int) z er cr.b cr.n cr.l cr.y cr.x cr.s) 48)
 have hall:Below w.heap.size w ((w.alloc (.cells (fq A1 A2 A3 A4 c1 c2 c3 c4 f) 28)).alloc (.cells (bR 5 (il:Int) o (ir:Int) (it:Int) z er cr.b cr.n cr.l cr.y cr.x cr.s) 48)):=((Below.refl _ w).alloc (Nat.le_refl _) _).alloc (by simp) _
 have iw:=ak kf underlying28 rfl av
 have gZ:=ak kc underlying48 rfl aj
 obtain⟨g2,o2,hA2,hg2,u1⟩:=d9.gY hf.li l1
 obtain⟨g1,o1,hA1,hg1,u2,-⟩:=iJ.at2 hf.st l2
 rw[e1]at u1
 rw[e2]at u2
 obtain⟨g1',Uj,yY,_,u4,-⟩:=iJ.at2 hf.st l4
 rw[hA1]at yY
 obtain⟨rfl,rfl⟩:g1=g1'∧o1=Uj:=by simpa using yY
 clear yY
 rw[e4]at u4
 subst hA1 hA2
 have j1:(0:Int)<=(il:Int):=by omega
 have j2:(il:Int)<(f.li.length:Int):=by omega
 have j3:(0:Int)<=(ir:Int):=by omega
 have j4:(ir:Int)<(f.st.length:Int):=by omega
 have j7:(0:Int)<=(it:Int):=by omega
 have j8:(it:Int)<(f.st.length:Int):=by omega
 have hz:(Lib.itoa z).length<=21:=Lib.itoa_length_le z (by omega) (by omega)
 have her:(Lib.itoa er).length<=21:=Lib.itoa_length_le er (by omega) (by omega)
 have t1:=fun W=>dV [108,101,118,101,108] [32] (by decide) (by decide) W
 obtain⟨Q1,Ci⟩: ∃X,([108,101,118,101,108]:List UInt8)++[32]=X:=⟨_,rfl⟩
 have y1:Q1.length<=6:=by rw[<-Ci];decide
 rw[Ci]at t1 hT
 have t2:=fun W=>dV Q1 L1 (by omega) (by omega) W
 obtain⟨Q2,Cj⟩: ∃X,Q1++L1=X:=⟨_,rfl⟩
 have y2:Q2.length<=1006:=by rw[<-Cj];simp;omega
 rw[Cj]at t2 hT
 have t3:=fun W=>dV Q2 [32] (by omega) (by decide) W
 obtain⟨Q3,Ck⟩: ∃X,Q2++[32]=X:=⟨_,rfl⟩
 have y3:Q3.length<=1007:=by rw[<-Ck];simp;omega
 rw[Ck]at t3 hT
 have t4:=fun W=>dV Q3 S1 (by omega) (by omega) W
 obtain⟨Q4,Cm⟩: ∃X,Q3++S1=X:=⟨_,rfl⟩
 have y4:Q4.length<=2007:=by rw[<-Cm];simp;omega
 rw[Cm]at t4 hT
 have t5:=fun W=>dV Q4 [32] (by omega) (by decide) W
 obtain⟨Q5,Cn⟩: ∃X,Q4++[32]=X:=⟨_,rfl⟩
 have y5:Q5.length<=2008:=by rw[<-Cn];simp;omega
 rw[Cn]at t5 hT
 have t6:=fun W=>dV Q5 S2 (by omega) (by omega) W
 obtain⟨Q6,Co⟩: ∃X,Q5++S2=X:=⟨_,rfl⟩
 have y6:Q6.length<=3008:=by rw[<-Co];simp;omega
 rw[Co]at t6 hT
 have t7:=fun W=>dV Q6 [32] (by omega) (by decide) W
 obtain⟨Q7,Cq⟩: ∃X,Q6++[32]=X:=⟨_,rfl⟩
 have y7:Q7.length<=3009:=by rw[<-Cq];simp;omega
 rw[Cq]at t7 hT
 have t8:=fun W=>dV Q7 (Lib.itoa z) (by omega) (by omega) W
 obtain⟨Q8,M9⟩: ∃X,Q7++Lib.itoa z=X:=⟨_,rfl⟩
 have y8:Q8.length<=3030:=by rw[<-M9];simp;omega
 rw[M9]at t8 hT
 have t9:=fun W=>dV Q8 [32] (by omega) (by decide) W
 obtain⟨Q9,M_⟩: ∃X,Q8++[32]=X:=⟨_,rfl⟩
 have y9:Q9.length<=3031:=by rw[<-M_];simp;omega
 rw[M_]at t9 hT
 have t10:=fun W=>dV Q9 (Lib.itoa er) (by omega) (by omega) W
 rw[hT.out]at t10
 have dz:=fun W=>ig z W (by omega) (by omega)
 have de:=fun W=>ig er W (by omega) (by omega)
 obtain⟨tk1,_⟩: ∃n:Nat,n=n:=⟨0,rfl⟩
 clear e1 e2 b1 b2 l1 l2 hf hT e4 b4 l4 z0 r0 Ci y1 Cj y2 Ck y3 Cm y4 Cn y5 Co y6 Cq y7 M9 y8 M_ y9 hz her
 go_enter func30,ntmps30
 go_wp2_with fail
 refine(pk _ hall).mono ?_
 rintro e w1 ⟨rfl,hx⟩
 have kf:=kE hx kf
 have kc:=kE hx kc
 have hall:Below w.heap.size w w1:=hall.trans (hx.mono hall.size)
 have kf:=(show w1.drew.heap[w.heap.size]?=_ from kf)
 have kc:=(show w1.drew.heap[w.heap.size+1]?=_ from kc)
 have Ar:=hall
 have hall:=hall.drew
 have u1:=(hall.cell (p:=⟨g2,o2+il,none⟩) hg2).trans u1
 have u2:=(hall.cell (p:=⟨g1,o1+ir*2,none⟩) hg1).trans u2
 have u4:=(hall.cell (p:=⟨g1,o1+it*2,none⟩) hg1).trans u4
 clear iw gZ hx pk hg1 hg2
 obtain⟨hcf,nY⟩:=ah kf
 obtain⟨hcc,hfc⟩:=ah kc
 go_wp2_with fail
 go_region_held3 (fun W=>W.cell? ⟨w.heap.size,1,none⟩=some (.slice (some ⟨g2,o2,none⟩) f.li.length c2)∧W.cell? ⟨w.heap.size+1,0,none⟩=some (.int .u8 5)∧W.cell? ⟨w.heap.size+1,1,none⟩=some (.int .i64 (il:Int))∧W.cell? ⟨g2,o2+il,none⟩=some (.string ⟨L1.toArray⟩)) (exact⟨hcf 1,hcc 0,hcc 1,u1⟩) (first|(go_at_call 92;refine(G9 _).mono ?_;rintro e w' ⟨rfl,rfl⟩))
 all_goals go_wp2
 all_goals go_region_held3 (fun W=>W.cell? ⟨w.heap.size+1,5,none⟩=some (.int .i64 z)∧W.cell? ⟨w.heap.size+1,6,none⟩=some (.int .i64 er)) (first|exact⟨hcc 5,hcc 6⟩|exact⟨ES 5,ES 6⟩|exact⟨zx 5,zx 6⟩) (first
  |(go_at_call 95;clear tk1;refine(dz _).mono ?_;rintro e w2 ⟨rfl,hx⟩;have Ql:=kE hx kc;obtain⟨zx,O9⟩:=ah Ql;have bY:Below w.heap.size w w2:=(by first|exact hall.drew.trans (hx.mono hall.size)|exact hall.trans (hx.mono hall.size));clear hx)
  |(go_at_call 95;refine(de _).mono ?_;rintro e w4 ⟨rfl,hx⟩;have Pt:=kE hx Ql;obtain⟨ES,Ui⟩:=ah Pt;have mW:Below w.heap.size w w4:=bY.trans (hx.mono bY.size);clear hx))
 all_goals go_wp2
 all_goals go_ret2
 all_goals exact⟨rfl,mW⟩
