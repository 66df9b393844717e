/- Proved: parts of the walk. -/
import Derived.Test.YtgbpekeoegfjpaaGreatDoorYUC
set_option maxRecDepth 100000
set_option maxHeartbeats 16000000
namespace Go.Proofs
open Tryz RowKit
variable (A1 A2 A3 A4 : Option Addr) (c1 c2 c3 c4 : Nat) (f : Pl.aL)
attribute [-go_sem] loadVar run_equalIn_agg
attribute [local go_sem] bZ bH dU aT dD nE
theorem nU (c:Pl.aZ)(n:Nat)(w:World)(hl:d9 w w.heap.size A2 f.li)(hn:n<f.li.length):
  Calls prog 273 #[.agg (jB A1 A2 A3 A4 c1 c2 c3 c4 f c),.int .i64 (n:Int)] w fun e w'=>e=.returned (.string f.li[n])∧Below w.heap.size w w':=by
 have kb:=heap_alloc_new w (.cells (jB A1 A2 A3 A4 c1 c2 c3 c4 f c) 128)
 have hb0:Below w.heap.size w (w.alloc (.cells (jB A1 A2 A3 A4 c1 c2 c3 c4 f c) 128)):=(Below.refl _ w).alloc (Nat.le_refl _) _
 obtain⟨hcb,ru⟩:=ah kb
 obtain⟨b,off,hA,mQ,q0⟩:=d9.gY (hl.below hb0) hn
 obtain⟨x,hx⟩: ∃x,f.li[n]=x:=⟨_,rfl⟩
 rw[hx]at q0 ⊢
 subst hA
 have e1:(0:Int)<=(n:Int):=by omega
 have e2:(n:Int)<(f.li.length:Int):=by omega
 go_enter func273,ntmps273
 go_wp2
 go_ret
 exact⟨rfl,hb0⟩
theorem jc (c:Pl.aZ)(n:Nat)(w:World)(hl:iJ w w.heap.size A1 f.st)(hn:n<f.st.length):
  Calls prog 274 #[.agg (jB A1 A2 A3 A4 c1 c2 c3 c4 f c),.int .i64 (n:Int)] w fun e w'=>e=.returned (.string f.st[n].1)∧Below w.heap.size w w':=by
 have kb:=heap_alloc_new w (.cells (jB A1 A2 A3 A4 c1 c2 c3 c4 f c) 128)
 have hb0:Below w.heap.size w (w.alloc (.cells (jB A1 A2 A3 A4 c1 c2 c3 c4 f c) 128)):=(Below.refl _ w).alloc (Nat.le_refl _) _
 obtain⟨hcb,ru⟩:=ah kb
 obtain⟨b,off,hA,mQ,q0,q1⟩:=iJ.at2 (hl.below hb0) hn
 obtain⟨⟨x,y⟩,hx⟩: ∃x,f.st[n]=x:=⟨_,rfl⟩
 rw[hx]at q0 q1 ⊢
 simp only at q0 q1 ⊢
 subst hA
 have e1:(0:Int)<=(n:Int):=by omega
 have e2:(n:Int)<(f.st.length:Int):=by omega
 go_enter func274,ntmps274
 go_wp2
 go_ret
 exact⟨rfl,hb0⟩
def zA (l:List ByteArray)(w:World)(e:Ending)(w':World):Prop:=
 ∃g,e=.returned (.slice (some ⟨g,0,none⟩) l.length l.length)∧w'.heap[g]?=some (.cells (l.map Value.string).toArray 9 (0,0))∧w.heap.size<=g∧Below w.heap.size w w'
theorem Cb (c:Pl.aZ)(w:World)(hE:Env w)(hf:bB w w.heap.size A1 A2 A3 A4 f)(dA iP:Nat)(hlim:c.lim=(dA:Int))(jD:dA<f.li.length)(hfr:c.fr=(iP:Int))(tL:iP<f.st.length)(bsize: -1000000<=c.size∧c.size<=1000000)(Ue: -1000000<=c.er∧c.er<=1000000):
  Calls prog 212 #[.agg (jB A1 A2 A3 A4 c1 c2 c3 c4 f c)] w (zA [f.li[dA],f.st[iP].1,Pl.spelt c.size,Pl.spelt c.er] w):=by
 have kb:=heap_alloc_new w (.cells (jB A1 A2 A3 A4 c1 c2 c3 c4 f c) 128)
 have hb0:Below w.heap.size w (w.alloc (.cells (jB A1 A2 A3 A4 c1 c2 c3 c4 f c) 128)):=(Below.refl _ w).alloc (Nat.le_refl _) _
 have nV:=fun W (hW:Below w.heap.size w W)=>nU A1 A2 A3 A4 c1 c2 c3 c4 f c dA W (hf.li.up hW) jD
 obtain⟨RV,jw⟩: ∃a,f.li[dA]=a:=⟨_,rfl⟩
 simp only[jw,<-hlim]at nV
 have Cc:=fun W (hW:Below w.heap.size w W)=>jc A1 A2 A3 A4 c1 c2 c3 c4 f c iP W (hf.st.up hW) tL
 obtain⟨VZ,nW⟩: ∃a,f.st[iP].1=a:=⟨_,rfl⟩
 simp only[nW,<-hfr]at Cc
 have pI:=fun W (hW:Below w.heap.size w W)=>eY c.size W (hE.up hW) (by omega) (by omega)
 obtain⟨EO,lJ⟩: ∃a,Pl.spelt c.size=a:=⟨_,rfl⟩
 rw[show(⟨(Lib.itoa c.size).toArray⟩:ByteArray)=EO from lJ]at pI
 have per:=fun W (hW:Below w.heap.size w W)=>eY c.er W (hE.up hW) (by omega) (by omega)
 obtain⟨Uf,yR⟩: ∃a,Pl.spelt c.er=a:=⟨_,rfl⟩
 rw[show(⟨(Lib.itoa c.er).toArray⟩:ByteArray)=Uf from yR]at per
 rw[jw,nW,lJ,yR]
 clear jw nW lJ yR hlim jD hfr tL bsize Ue hf hE
 have whole:=fun(W:World) (k:W.heap[w.heap.size]?=some (.cells (jB A1 A2 A3 A4 c1 c2 c3 c4 f c) 128 (0,0)))=>ay.whole (ay.mk (f:=f) (c:=c) (k:=(c.kind:Int)) k)
 go_enter func212,ntmps212
 go_wp2
 have kb:=(show(w.alloc (.cells (jB A1 A2 A3 A4 c1 c2 c3 c4 f c) 128)).drew.heap[w.heap.size]?=_ from kb)
 have hall:=hb0.drew
 clear hb0
 go_region_held3 (fun W=>(loadVar 128 ⟨w.heap.size,0,none⟩).run prog W=.ok (.agg (jB A1 A2 A3 A4 c1 c2 c3 c4 f c)) W∧W.cell? ⟨w.heap.size,5,none⟩=some (.int .i64 c.lim)∧W.cell? ⟨w.heap.size,7,none⟩=some (.int .i64 c.fr)∧W.cell? ⟨w.heap.size,9,none⟩=some (.int .i64 c.size)∧W.cell? ⟨w.heap.size,10,none⟩=some (.int .i64 c.er)) (first|exact⟨whole _ kb,(ah kb).1 5,(ah kb).1 7,(ah kb).1 9,(ah kb).1 10⟩|exact⟨whole _ ((Below.heap_alloc _ _ _ (lO kb)).trans kb),(ah ((Below.heap_alloc _ _ _ (lO kb)).trans kb)).1 5,(ah ((Below.heap_alloc _ _ _ (lO kb)).trans kb)).1 7,(ah ((Below.heap_alloc _ _ _ (lO kb)).trans kb)).1 9,(ah ((Below.heap_alloc _ _ _ (lO kb)).trans kb)).1 10⟩) (first
  |(go_at_call 273;refine(nV _ hall).mono ?_;rintro e w1 ⟨rfl,hx⟩;have kb:=kE hx kb;have hall:=hall.trans (hx.mono hall.size);clear hx nV)
  |(go_at_call 274;refine(Cc _ hall).mono ?_;rintro e w1 ⟨rfl,hx⟩;have kb:=kE hx kb;have hall:=hall.trans (hx.mono hall.size);clear hx Cc)
  |(go_at_call 120;refine(pI _ hall).mono ?_;rintro e w1 ⟨rfl,hx⟩;have kb:=kE hx kb;have hall:=hall.trans (hx.mono hall.size);clear hx pI)
  |(go_at_call 120;refine(per _ hall).mono ?_;rintro e w1 ⟨rfl,hx⟩;have kb:=kE hx kb;have hall:=hall.trans (hx.mono hall.size);clear hx per))
 all_goals go_wp2
 all_goals go_ret
 all_goals exact⟨_,rfl,heap_alloc_new _ _,hall.size,hall.alloc hall.size _⟩
theorem Ce (c:Pl.aZ)(w:World)(hE:Env w)(hf:bB w w.heap.size A1 A2 A3 A4 f)(dA jy iP:Nat)(hlim:c.lim=(dA:Int))(jD:dA<f.li.length)(hoth:c.bL=(jy:Int))(pJ:jy<f.li.length)(hfr:c.fr=(iP:Int))(tL:iP<f.st.length)(bsize: -1000000<=c.size∧c.size<=1000000)(Ue: -1000000<=c.er∧c.er<=1000000):
  Calls prog 214 #[.agg (jB A1 A2 A3 A4 c1 c2 c3 c4 f c)] w (zA [f.li[dA],f.li[jy],f.st[iP].1,Pl.spelt c.size,Pl.spelt c.er] w):=by
 have kb:=heap_alloc_new w (.cells (jB A1 A2 A3 A4 c1 c2 c3 c4 f c) 128)
 have hb0:Below w.heap.size w (w.alloc (.cells (jB A1 A2 A3 A4 c1 c2 c3 c4 f c) 128)):=(Below.refl _ w).alloc (Nat.le_refl _) _
 have nV:=fun W (hW:Below w.heap.size w W)=>nU A1 A2 A3 A4 c1 c2 c3 c4 f c dA W (hf.li.up hW) jD
 obtain⟨RV,jw⟩: ∃a,f.li[dA]=a:=⟨_,rfl⟩
 simp only[jw,<-hlim]at nV
 have GL:=fun W (hW:Below w.heap.size w W)=>nU A1 A2 A3 A4 c1 c2 c3 c4 f c jy W (hf.li.up hW) pJ
 obtain⟨V5,yS⟩: ∃a,f.li[jy]=a:=⟨_,rfl⟩
 simp only[yS,<-hoth]at GL
 have Cc:=fun W (hW:Below w.heap.size w W)=>jc A1 A2 A3 A4 c1 c2 c3 c4 f c iP W (hf.st.up hW) tL
 obtain⟨VZ,nW⟩: ∃a,f.st[iP].1=a:=⟨_,rfl⟩
 simp only[nW,<-hfr]at Cc
 have pI:=fun W (hW:Below w.heap.size w W)=>eY c.size W (hE.up hW) (by omega) (by omega)
 obtain⟨EO,lJ⟩: ∃a,Pl.spelt c.size=a:=⟨_,rfl⟩
 rw[show(⟨(Lib.itoa c.size).toArray⟩:ByteArray)=EO from lJ]at pI
 have per:=fun W (hW:Below w.heap.size w W)=>eY c.er W (hE.up hW) (by omega) (by omega)
 obtain⟨Uf,yR⟩: ∃a,Pl.spelt c.er=a:=⟨_,rfl⟩
 rw[show(⟨(Lib.itoa c.er).toArray⟩:ByteArray)=Uf from yR]at per
 rw[jw,yS,nW,lJ,yR]
 clear jw yS nW lJ yR hlim jD hoth pJ hfr tL bsize Ue hf hE
 have whole:=fun(W:World) (k:W.heap[w.heap.size]?=some (.cells (jB A1 A2 A3 A4 c1 c2 c3 c4 f c) 128 (0,0)))=>ay.whole (ay.mk (f:=f) (c:=c) (k:=(c.kind:Int)) k)
 go_enter func214,ntmps214
 go_wp2
 have kb:=(show(w.alloc (.cells (jB A1 A2 A3 A4 c1 c2 c3 c4 f c) 128)).drew.heap[w.heap.size]?=_ from kb)
 have hall:=hb0.drew
 clear hb0
 go_region_held3 (fun W=>(loadVar 128 ⟨w.heap.size,0,none⟩).run prog W=.ok (.agg (jB A1 A2 A3 A4 c1 c2 c3 c4 f c)) W∧W.cell? ⟨w.heap.size,5,none⟩=some (.int .i64 c.lim)∧W.cell? ⟨w.heap.size,6,none⟩=some (.int .i64 c.bL)∧W.cell? ⟨w.heap.size,7,none⟩=some (.int .i64 c.fr)∧W.cell? ⟨w.heap.size,9,none⟩=some (.int .i64 c.size)∧W.cell? ⟨w.heap.size,10,none⟩=some (.int .i64 c.er)) (first|exact⟨whole _ kb,(ah kb).1 5,(ah kb).1 6,(ah kb).1 7,(ah kb).1 9,(ah kb).1 10⟩|exact⟨whole _ ((Below.heap_alloc _ _ _ (lO kb)).trans kb),(ah ((Below.heap_alloc _ _ _ (lO kb)).trans kb)).1 5,(ah ((Below.heap_alloc _ _ _ (lO kb)).trans kb)).1 6,(ah ((Below.heap_alloc _ _ _ (lO kb)).trans kb)).1 7,(ah ((Below.heap_alloc _ _ _ (lO kb)).trans kb)).1 9,(ah ((Below.heap_alloc _ _ _ (lO kb)).trans kb)).1 10⟩) (first
  |(go_at_call 273;refine(nV _ hall).mono ?_;rintro e w1 ⟨rfl,hx⟩;have kb:=kE hx kb;have hall:=hall.trans (hx.mono hall.size);clear hx nV)
  |(go_at_call 273;refine(GL _ hall).mono ?_;rintro e w1 ⟨rfl,hx⟩;have kb:=kE hx kb;have hall:=hall.trans (hx.mono hall.size);clear hx GL)
  |(go_at_call 274;refine(Cc _ hall).mono ?_;rintro e w1 ⟨rfl,hx⟩;have kb:=kE hx kb;have hall:=hall.trans (hx.mono hall.size);clear hx Cc)
  |(go_at_call 120;refine(pI _ hall).mono ?_;rintro e w1 ⟨rfl,hx⟩;have kb:=kE hx kb;have hall:=hall.trans (hx.mono hall.size);clear hx pI)
  |(go_at_call 120;refine(per _ hall).mono ?_;rintro e w1 ⟨rfl,hx⟩;have kb:=kE hx kb;have hall:=hall.trans (hx.mono hall.size);clear hx per))
 all_goals go_wp2
 all_goals go_ret
 all_goals exact⟨_,rfl,heap_alloc_new _ _,hall.size,hall.alloc hall.size _⟩
theorem Cg (c:Pl.aZ)(w:World)(_hE:Env w)(hf:bB w w.heap.size A1 A2 A3 A4 f)(dA jy iP cZ:Nat)(hlim:c.lim=(dA:Int))(jD:dA<f.li.length)(hoth:c.bL=(jy:Int))(pJ:jy<f.li.length)(hfr:c.fr=(iP:Int))(tL:iP<f.st.length)(fI:c.till=(cZ:Int))(gH:cZ<f.st.length):
  Calls prog 218 #[.agg (jB A1 A2 A3 A4 c1 c2 c3 c4 f c)] w (zA [f.li[dA],f.li[jy],f.st[iP].1,f.st[cZ].1] w):=by
 have kb:=heap_alloc_new w (.cells (jB A1 A2 A3 A4 c1 c2 c3 c4 f c) 128)
 have hb0:Below w.heap.size w (w.alloc (.cells (jB A1 A2 A3 A4 c1 c2 c3 c4 f c) 128)):=(Below.refl _ w).alloc (Nat.le_refl _) _
 have nV:=fun W (hW:Below w.heap.size w W)=>nU A1 A2 A3 A4 c1 c2 c3 c4 f c dA W (hf.li.up hW) jD
 obtain⟨RV,jw⟩: ∃a,f.li[dA]=a:=⟨_,rfl⟩
 simp only[jw,<-hlim]at nV
 have GL:=fun W (hW:Below w.heap.size w W)=>nU A1 A2 A3 A4 c1 c2 c3 c4 f c jy W (hf.li.up hW) pJ
 obtain⟨V5,yS⟩: ∃a,f.li[jy]=a:=⟨_,rfl⟩
 simp only[yS,<-hoth]at GL
 have Cc:=fun W (hW:Below w.heap.size w W)=>jc A1 A2 A3 A4 c1 c2 c3 c4 f c iP W (hf.st.up hW) tL
 obtain⟨VZ,nW⟩: ∃a,f.st[iP].1=a:=⟨_,rfl⟩
 simp only[nW,<-hfr]at Cc
 have pK:=fun W (hW:Below w.heap.size w W)=>jc A1 A2 A3 A4 c1 c2 c3 c4 f c cZ W (hf.st.up hW) gH
 obtain⟨Ug,lK⟩: ∃a,f.st[cZ].1=a:=⟨_,rfl⟩
 simp only[lK,<-fI]at pK
 rw[jw,yS,nW,lK]
 clear jw yS nW lK hlim jD hoth pJ hfr tL fI gH hf
 have whole:=fun(W:World) (k:W.heap[w.heap.size]?=some (.cells (jB A1 A2 A3 A4 c1 c2 c3 c4 f c) 128 (0,0)))=>ay.whole (ay.mk (f:=f) (c:=c) (k:=(c.kind:Int)) k)
 go_enter func218,ntmps218
 go_wp2
 have kb:=(show(w.alloc (.cells (jB A1 A2 A3 A4 c1 c2 c3 c4 f c) 128)).drew.heap[w.heap.size]?=_ from kb)
 have hall:=hb0.drew
 clear hb0
 go_region_held3 (fun W=>(loadVar 128 ⟨w.heap.size,0,none⟩).run prog W=.ok (.agg (jB A1 A2 A3 A4 c1 c2 c3 c4 f c)) W∧W.cell? ⟨w.heap.size,5,none⟩=some (.int .i64 c.lim)∧W.cell? ⟨w.heap.size,6,none⟩=some (.int .i64 c.bL)∧W.cell? ⟨w.heap.size,7,none⟩=some (.int .i64 c.fr)∧W.cell? ⟨w.heap.size,8,none⟩=some (.int .i64 c.till)) (first|exact⟨whole _ kb,(ah kb).1 5,(ah kb).1 6,(ah kb).1 7,(ah kb).1 8⟩|exact⟨whole _ ((Below.heap_alloc _ _ _ (lO kb)).trans kb),(ah ((Below.heap_alloc _ _ _ (lO kb)).trans kb)).1 5,(ah ((Below.heap_alloc _ _ _ (lO kb)).trans kb)).1 6,(ah ((Below.heap_alloc _ _ _ (lO kb)).trans kb)).1 7,(ah ((Below.heap_alloc _ _ _ (lO kb)).trans kb)).1 8⟩) (first
  |(go_at_call 273;refine(nV _ hall).mono ?_;rintro e w1 ⟨rfl,hx⟩;have kb:=kE hx kb;have hall:=hall.trans (hx.mono hall.size);clear hx nV)
  |(go_at_call 273;refine(GL _ hall).mono ?_;rintro e w1 ⟨rfl,hx⟩;have kb:=kE hx kb;have hall:=hall.trans (hx.mono hall.size);clear hx GL)
  |(go_at_call 274;refine(Cc _ hall).mono ?_;rintro e w1 ⟨rfl,hx⟩;have kb:=kE hx kb;have hall:=hall.trans (hx.mono hall.size);clear hx Cc)
  |(go_at_call 274;refine(pK _ hall).mono ?_;rintro e w1 ⟨rfl,hx⟩;have kb:=kE hx kb;have hall:=hall.trans (hx.mono hall.size);clear hx pK))
 all_goals go_wp2
 all_goals go_ret
 all_goals exact⟨_,rfl,heap_alloc_new _ _,hall.size,hall.alloc hall.size _⟩
theorem Ch (c:Pl.aZ)(w:World)(hE:Env w)(hf:bB w w.heap.size A1 A2 A3 A4 f)(dA iP cZ:Nat)(hlim:c.lim=(dA:Int))(jD:dA<f.li.length)(hfr:c.fr=(iP:Int))(tL:iP<f.st.length)(fI:c.till=(cZ:Int))(gH:cZ<f.st.length)(bsize: -1000000<=c.size∧c.size<=1000000)(Ue: -1000000<=c.er∧c.er<=1000000):
  Calls prog 220 #[.agg (jB A1 A2 A3 A4 c1 c2 c3 c4 f c)] w (zA [f.li[dA],f.st[iP].1,f.st[cZ].1,Pl.spelt c.size,Pl.spelt c.er] w):=by
 have kb:=heap_alloc_new w (.cells (jB A1 A2 A3 A4 c1 c2 c3 c4 f c) 128)
 have hb0:Below w.heap.size w (w.alloc (.cells (jB A1 A2 A3 A4 c1 c2 c3 c4 f c) 128)):=(Below.refl _ w).alloc (Nat.le_refl _) _
 have nV:=fun W (hW:Below w.heap.size w W)=>nU A1 A2 A3 A4 c1 c2 c3 c4 f c dA W (hf.li.up hW) jD
 obtain⟨RV,jw⟩: ∃a,f.li[dA]=a:=⟨_,rfl⟩
 simp only[jw,<-hlim]at nV
 have Cc:=fun W (hW:Below w.heap.size w W)=>jc A1 A2 A3 A4 c1 c2 c3 c4 f c iP W (hf.st.up hW) tL
 obtain⟨VZ,nW⟩: ∃a,f.st[iP].1=a:=⟨_,rfl⟩
 simp only[nW,<-hfr]at Cc
 have pK:=fun W (hW:Below w.heap.size w W)=>jc A1 A2 A3 A4 c1 c2 c3 c4 f c cZ W (hf.st.up hW) gH
 obtain⟨Ug,lK⟩: ∃a,f.st[cZ].1=a:=⟨_,rfl⟩
 simp only[lK,<-fI]at pK
 have pI:=fun W (hW:Below w.heap.size w W)=>eY c.size W (hE.up hW) (by omega) (by omega)
 obtain⟨EO,lJ⟩: ∃a,Pl.spelt c.size=a:=⟨_,rfl⟩
 rw[show(⟨(Lib.itoa c.size).toArray⟩:ByteArray)=EO from lJ]at pI
 have per:=fun W (hW:Below w.heap.size w W)=>eY c.er W (hE.up hW) (by omega) (by omega)
 obtain⟨Uf,yR⟩: ∃a,Pl.spelt c.er=a:=⟨_,rfl⟩
 rw[show(⟨(Lib.itoa c.er).toArray⟩:ByteArray)=Uf from yR]at per
 rw[jw,nW,lK,lJ,yR]
 clear jw nW lK lJ yR hlim jD hfr tL fI gH bsize Ue hf hE
 have whole:=fun(W:World) (k:W.heap[w.heap.size]?=some (.cells (jB A1 A2 A3 A4 c1 c2 c3 c4 f c) 128 (0,0)))=>ay.whole (ay.mk (f:=f) (c:=c) (k:=(c.kind:Int)) k)
 go_enter func220,ntmps220
 go_wp2
 have kb:=(show(w.alloc (.cells (jB A1 A2 A3 A4 c1 c2 c3 c4 f c) 128)).drew.heap[w.heap.size]?=_ from kb)
 have hall:=hb0.drew
 clear hb0
 go_region_held3 (fun W=>(loadVar 128 ⟨w.heap.size,0,none⟩).run prog W=.ok (.agg (jB A1 A2 A3 A4 c1 c2 c3 c4 f c)) W∧W.cell? ⟨w.heap.size,5,none⟩=some (.int .i64 c.lim)∧W.cell? ⟨w.heap.size,7,none⟩=some (.int .i64 c.fr)∧W.cell? ⟨w.heap.size,8,none⟩=some (.int .i64 c.till)∧W.cell? ⟨w.heap.size,9,none⟩=some (.int .i64 c.size)∧W.cell? ⟨w.heap.size,10,none⟩=some (.int .i64 c.er)) (first|exact⟨whole _ kb,(ah kb).1 5,(ah kb).1 7,(ah kb).1 8,(ah kb).1 9,(ah kb).1 10⟩|exact⟨whole _ ((Below.heap_alloc _ _ _ (lO kb)).trans kb),(ah ((Below.heap_alloc _ _ _ (lO kb)).trans kb)).1 5,(ah ((Below.heap_alloc _ _ _ (lO kb)).trans kb)).1 7,(ah ((Below.heap_alloc _ _ _ (lO kb)).trans kb)).1 8,(ah ((Below.heap_alloc _ _ _ (lO kb)).trans kb)).1 9,(ah ((Below.heap_alloc _ _ _ (lO kb)).trans kb)).1 10⟩) (first
  |(go_at_call 273;refine(nV _ hall).mono ?_;rintro e w1 ⟨rfl,hx⟩;have kb:=kE hx kb;have hall:=hall.trans (hx.mono hall.size);clear hx nV)
  |(go_at_call 274;refine(Cc _ hall).mono ?_;rintro e w1 ⟨rfl,hx⟩;have kb:=kE hx kb;have hall:=hall.trans (hx.mono hall.size);clear hx Cc)
  |(go_at_call 274;refine(pK _ hall).mono ?_;rintro e w1 ⟨rfl,hx⟩;have kb:=kE hx kb;have hall:=hall.trans (hx.mono hall.size);clear hx pK)
  |(go_at_call 120;refine(pI _ hall).mono ?_;rintro e w1 ⟨rfl,hx⟩;have kb:=kE hx kb;have hall:=hall.trans (hx.mono hall.size);clear hx pI)
  |(go_at_call 120;refine(per _ hall).mono ?_;rintro e w1 ⟨rfl,hx⟩;have kb:=kE hx kb;have hall:=hall.trans (hx.mono hall.size);clear hx per))
 all_goals go_wp2
 all_goals go_ret
 all_goals exact⟨_,rfl,heap_alloc_new _ _,hall.size,hall.alloc hall.size _⟩
end Go.Proofs
namespace Go.Proofs
open Tryz RowKit
attribute [-go_sem] loadVar run_equalIn_agg
attribute [local go_sem] bZ bH dU aT dD nE
theorem zB (A1 A2 A3 A4:Option Addr)(c1 c2 c3 c4:Nat)(f:Pl.aL)(c:Pl.aZ)(w:World)(hE:Env w)(hf:bB w w.heap.size A1 A2 A3 A4 f)(dA iP cZ:Nat)(hlim:c.lim=(dA:Int))(jD:dA<f.li.length)(hfr:c.fr=(iP:Int))(tL:iP<f.st.length)(fI:c.till=(cZ:Int))(gH:cZ<f.st.length)
  (bn: -1000000<=c.aB.n∧c.aB.n<=1000000) (bx: -1000000<=c.aB.x∧c.aB.x<=1000000) (bs: -1000000<=c.aB.s∧c.aB.s<=1000000):
  Calls prog 216 #[.agg (jB A1 A2 A3 A4 c1 c2 c3 c4 f c)] w (zA [f.li[dA],f.st[iP].1,f.st[cZ].1,Pl.aY c.aB.l,⟨#[98,121]⟩,Pl.mD c.aB.b,⟨#[103,105,118,101]⟩,Pl.spelt c.aB.n,⟨#[119,101,97,114]⟩,Pl.spelt c.aB.x,⟨#[115,108,97,99,107]⟩,Pl.spelt c.aB.s] w):=by
 have Xu:=heap_alloc_new w (.cells (jB A1 A2 A3 A4 c1 c2 c3 c4 f c) 128)
 have kb:=heap_alloc2_old w (.cells (jB A1 A2 A3 A4 c1 c2 c3 c4 f c) 128) (.cells (cq c.aB) 46)
 have kx:=heap_alloc2_new w (.cells (jB A1 A2 A3 A4 c1 c2 c3 c4 f c) 128) (.cells (cq c.aB) 46)
 have hb0:Below w.heap.size w ((w.alloc (.cells (jB A1 A2 A3 A4 c1 c2 c3 c4 f c) 128)).alloc (.cells (cq c.aB) 46)):=((Below.refl _ w).alloc (Nat.le_refl _) _).alloc (by simp) _
 have l46:=ay.aB (ay.mk (f:=f) (c:=c) (k:=(c.kind:Int)) Xu)
 have nV:=fun W (hW:Below w.heap.size w W)=>nU A1 A2 A3 A4 c1 c2 c3 c4 f c dA W (hf.li.up hW) jD
 obtain⟨Zi,jw⟩: ∃a,f.li[dA]=a:=⟨_,rfl⟩
 simp only[jw,<-hlim]at nV
 have Cc:=fun W (hW:Below w.heap.size w W)=>jc A1 A2 A3 A4 c1 c2 c3 c4 f c iP W (hf.st.up hW) tL
 obtain⟨Uo,nW⟩: ∃a,f.st[iP].1=a:=⟨_,rfl⟩
 simp only[nW,<-hfr]at Cc
 have pK:=fun W (hW:Below w.heap.size w W)=>jc A1 A2 A3 A4 c1 c2 c3 c4 f c cZ W (hf.st.up hW) gH
 obtain⟨Xv,lK⟩: ∃a,f.st[cZ].1=a:=⟨_,rfl⟩
 simp only[lK,<-fI]at pK
 have pl:=fun W (hW:Below w.heap.size w W)=>Dr c.aB.l W (hE.up hW)
 obtain⟨ul,hal⟩: ∃a,Pl.aY c.aB.l=a:=⟨_,rfl⟩
 rw[hal]at pl
 have pb:=fun(W:World) (_:Below w.heap.size w W)=>Lj c.aB.b W
 obtain⟨ub,hab⟩: ∃a,Pl.mD c.aB.b=a:=⟨_,rfl⟩
 rw[show(⟨(Pl.gu c.aB.b).toArray⟩:ByteArray)=ub from hab]at pb
 have pn:=fun W (hW:Below w.heap.size w W)=>eY c.aB.n W (hE.up hW) (by omega) (by omega)
 obtain⟨un,han⟩: ∃a,Pl.spelt c.aB.n=a:=⟨_,rfl⟩
 rw[show(⟨(Lib.itoa c.aB.n).toArray⟩:ByteArray)=un from han]at pn
 have px:=fun W (hW:Below w.heap.size w W)=>eY c.aB.x W (hE.up hW) (by omega) (by omega)
 obtain⟨ux,hax⟩: ∃a,Pl.spelt c.aB.x=a:=⟨_,rfl⟩
 rw[show(⟨(Lib.itoa c.aB.x).toArray⟩:ByteArray)=ux from hax]at px
 have ps:=fun W (hW:Below w.heap.size w W)=>eY c.aB.s W (hE.up hW) (by omega) (by omega)
 obtain⟨us,has⟩: ∃a,Pl.spelt c.aB.s=a:=⟨_,rfl⟩
 rw[show(⟨(Lib.itoa c.aB.s).toArray⟩:ByteArray)=us from has]at ps
 rw[jw,nW,lK,hal,hab,han,hax,has]
 clear jw nW lK hal hab han hax has hlim hfr fI jD tL gH bn bx bs hf hE
 have whole:=fun(W:World) (k:W.heap[w.heap.size]?=some (.cells (jB A1 A2 A3 A4 c1 c2 c3 c4 f c) 128 (0,0)))=>ay.whole (ay.mk (f:=f) (c:=c) (k:=(c.kind:Int)) k)
 clear Xu
 go_enter func216,ntmps216
 go_wp2
 have kb:=(show((w.alloc (.cells (jB A1 A2 A3 A4 c1 c2 c3 c4 f c) 128)).alloc (.cells (cq c.aB) 46)).drew.heap[w.heap.size]?=_ from kb)
 have kx:=(show((w.alloc (.cells (jB A1 A2 A3 A4 c1 c2 c3 c4 f c) 128)).alloc (.cells (cq c.aB) 46)).drew.heap[w.heap.size+1]?=_ from kx)
 have hall:=hb0.drew
 clear hb0 l46
 go_region_held3 (fun W=>(loadVar 128 ⟨w.heap.size,0,none⟩).run prog W=.ok (.agg (jB A1 A2 A3 A4 c1 c2 c3 c4 f c)) W∧W.cell? ⟨w.heap.size,5,none⟩=some (.int .i64 c.lim)∧W.cell? ⟨w.heap.size,7,none⟩=some (.int .i64 c.fr)∧W.cell? ⟨w.heap.size,8,none⟩=some (.int .i64 c.till)∧W.cell? ⟨w.heap.size+1,2,none⟩=some (.int .i64 c.aB.l)∧W.cell? ⟨w.heap.size+1,0,none⟩=some (.int .i64 c.aB.b)∧W.cell? ⟨w.heap.size+1,1,none⟩=some (.int .i64 c.aB.n)∧W.cell? ⟨w.heap.size+1,4,none⟩=some (.int .i64 c.aB.x)∧W.cell? ⟨w.heap.size+1,5,none⟩=some (.int .i64 c.aB.s)) (first|exact⟨whole _ kb,(ah kb).1 5,(ah kb).1 7,(ah kb).1 8,(ah kx).1 2,(ah kx).1 0,(ah kx).1 1,(ah kx).1 4,(ah kx).1 5⟩|exact⟨whole _ ((Below.heap_alloc _ _ _ (lO kb)).trans kb),(ah ((Below.heap_alloc _ _ _ (lO kb)).trans kb)).1 5,(ah ((Below.heap_alloc _ _ _ (lO kb)).trans kb)).1 7,(ah ((Below.heap_alloc _ _ _ (lO kb)).trans kb)).1 8,(ah ((Below.heap_alloc _ _ _ (lO kx)).trans kx)).1 2,(ah ((Below.heap_alloc _ _ _ (lO kx)).trans kx)).1 0,(ah ((Below.heap_alloc _ _ _ (lO kx)).trans kx)).1 1,(ah ((Below.heap_alloc _ _ _ (lO kx)).trans kx)).1 4,(ah ((Below.heap_alloc _ _ _ (lO kx)).trans kx)).1 5⟩) (first
  |(go_at_call 273;refine(nV _ hall).mono ?_;rintro e w1 ⟨rfl,hx⟩;have kb:=kE hx kb;have kx:=kE hx kx;have hall:=hall.trans (hx.mono hall.size);clear hx nV)
  |(go_at_call 274;refine(Cc _ hall).mono ?_;rintro e w1 ⟨rfl,hx⟩;have kb:=kE hx kb;have kx:=kE hx kx;have hall:=hall.trans (hx.mono hall.size);clear hx Cc)
  |(go_at_call 274;refine(pK _ hall).mono ?_;rintro e w1 ⟨rfl,hx⟩;have kb:=kE hx kb;have kx:=kE hx kx;have hall:=hall.trans (hx.mono hall.size);clear hx pK)
  |(go_at_call 275;refine(pl _ hall).mono ?_;rintro e w1 ⟨rfl,hx⟩;have kb:=kE hx kb;have kx:=kE hx kx;have hall:=hall.trans (hx.mono hall.size);clear hx pl)
  |(go_at_call 276;refine(pb _ hall).mono ?_;rintro e w1 ⟨rfl,rfl⟩;clear pb)
  |(go_at_call 120;refine(pn _ hall).mono ?_;rintro e w1 ⟨rfl,hx⟩;have kb:=kE hx kb;have kx:=kE hx kx;have hall:=hall.trans (hx.mono hall.size);clear hx pn)
  |(go_at_call 120;refine(px _ hall).mono ?_;rintro e w1 ⟨rfl,hx⟩;have kb:=kE hx kb;have kx:=kE hx kx;have hall:=hall.trans (hx.mono hall.size);clear hx px)
  |(go_at_call 120;refine(ps _ hall).mono ?_;rintro e w1 ⟨rfl,hx⟩;have kb:=kE hx kb;have kx:=kE hx kx;have hall:=hall.trans (hx.mono hall.size);clear hx ps))
 all_goals go_wp2
 all_goals go_ret
 all_goals exact⟨_,rfl,heap_alloc_new _ _,hall.size,hall.alloc hall.size _⟩
