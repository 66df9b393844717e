/- Proved: parts of the walk. -/
import Derived.Test.YtgbpekeoegfjpaaGreatDoorVP3a
set_option maxRecDepth 100000
set_option maxHeartbeats 16000000
namespace Go.Proofs
open Tryz RowKit
variable (A1 A2 A3 A4 : Option Addr) (c1 c2 c3 c4 : Nat) (f : Pl.aL)
attribute [-go_sem] run_equalIn_agg storeVar loadVar
attribute [local go_sem] bZ bH dU aT dD nE Bc eB
theorem TT (c:Pl.aZ)(w:World)(hS:f.st.length<=100000)(hL:f.li.length<=100000)(h0:Pl.o8 f.st.length f.li.length c.lim c.fr=false):
  Calls prog 185 #[.agg (fq A1 A2 A3 A4 c1 c2 c3 c4 f),.agg (kq c)] w fun e w'=>e=.returned (.bool false)∧Below w.heap.size w w':=by
 have hEq: ∀W,(Op.equalIn 10000 46 (.agg (cq c.aB)) (.agg z6)).run prog W=.ok c.aB.qO W:=fun W=>(mq c W)
 have ic:=fun W=>gV A1 A2 A3 A4 c1 c2 c3 c4 f c.lim c.fr W hL hS
 rw[show(Pl.bQ c.lim 0 ((f.li.length:Int)-1)&&Pl.bQ c.fr 0 ((f.st.length:Int)-1))=false from h0]at ic
 have kf:=(heap_alloc_new w (.cells (fq A1 A2 A3 A4 c1 c2 c3 c4 f) 28))
 have kc:=(heap_alloc_new (w.alloc (.cells (fq A1 A2 A3 A4 c1 c2 c3 c4 f) 28)) (.cells (kq c) 48))
 rw[World.size_alloc]at kc
 have kf:=(Below.heap_alloc _ (.cells (kq c) 48) _ (lO kf)).trans kf
 have iw:=ak kf underlying28 rfl av
 have gZ:=ak kc underlying48 rfl aj
 have hall:Below w.heap.size w ((w.alloc (.cells (fq A1 A2 A3 A4 c1 c2 c3 c4 f) 28)).alloc (.cells (kq c) 48)):=((Below.refl _ w).alloc (Nat.le_refl _) _).alloc (by simp) _
 have qI:=dS kc
 clear h0
 rcases(show(¬c.lim<c.bL)∨(c.lim<c.bL∧ ¬c.bL<(f.li.length:Int))∨(c.lim<c.bL∧c.bL<(f.li.length:Int)) by omega)with x1|⟨x1,x2⟩|⟨x1,x2⟩
 all_goals
  go_enter func185,ntmps185
  go_wp2_with fail
  refine(ic _).mono ?_
  rintro e w1 ⟨rfl,hx⟩
  clear qI
  replace kf:=kE hx kf;replace kc:=kE hx kc;replace hall:Below w.heap.size w _:=hall.trans (hx.mono hall.size);(try clear iw gZ);have iw:=ak kf underlying28 rfl av;have gZ:=ak kc underlying48 rfl aj;(try clear hcf nY hcc hfc);obtain⟨hcf,nY⟩:=ah kf;obtain⟨hcc,hfc⟩:=ah kc;clear hx
  have qI:=dS kc
  go_wp2_with fail
  go_ret
  exact⟨rfl,hall⟩
theorem TU (c:Pl.aZ)(w:World)(hS:f.st.length<=100000)(hL:f.li.length<=100000)(h0:Pl.o8 f.st.length f.li.length c.lim c.fr=true)(h1:Pl.bQ c.er 0 100000=false):
  Calls prog 185 #[.agg (fq A1 A2 A3 A4 c1 c2 c3 c4 f),.agg (kq c)] w fun e w'=>e=.returned (.bool false)∧Below w.heap.size w w':=by
 have hEq: ∀W,(Op.equalIn 10000 46 (.agg (cq c.aB)) (.agg z6)).run prog W=.ok c.aB.qO W:=fun W=>(mq c W)
 have ic:=fun W=>gV A1 A2 A3 A4 c1 c2 c3 c4 f c.lim c.fr W hL hS
 rw[show(Pl.bQ c.lim 0 ((f.li.length:Int)-1)&&Pl.bQ c.fr 0 ((f.st.length:Int)-1))=true from h0]at ic
 have Ae:=fun W=>bW c.er 0 100000 W
 rw[h1]at Ae
 have kf:=(heap_alloc_new w (.cells (fq A1 A2 A3 A4 c1 c2 c3 c4 f) 28))
 have kc:=(heap_alloc_new (w.alloc (.cells (fq A1 A2 A3 A4 c1 c2 c3 c4 f) 28)) (.cells (kq c) 48))
 rw[World.size_alloc]at kc
 have kf:=(Below.heap_alloc _ (.cells (kq c) 48) _ (lO kf)).trans kf
 have iw:=ak kf underlying28 rfl av
 have gZ:=ak kc underlying48 rfl aj
 have hall:Below w.heap.size w ((w.alloc (.cells (fq A1 A2 A3 A4 c1 c2 c3 c4 f) 28)).alloc (.cells (kq c) 48)):=((Below.refl _ w).alloc (Nat.le_refl _) _).alloc (by simp) _
 have qI:=dS kc
 clear h0 h1
 rcases(show(¬c.lim<c.bL)∨(c.lim<c.bL∧ ¬c.bL<(f.li.length:Int))∨(c.lim<c.bL∧c.bL<(f.li.length:Int)) by omega)with x1|⟨x1,x2⟩|⟨x1,x2⟩
 all_goals
  go_enter func185,ntmps185
  go_wp2_with fail
  refine(ic _).mono ?_
  rintro e w1 ⟨rfl,hx⟩
  clear qI
  replace kf:=kE hx kf;replace kc:=kE hx kc;replace hall:Below w.heap.size w _:=hall.trans (hx.mono hall.size);(try clear iw gZ);have iw:=ak kf underlying28 rfl av;have gZ:=ak kc underlying48 rfl aj;(try clear hcf nY hcc hfc);obtain⟨hcf,nY⟩:=ah kf;obtain⟨hcc,hfc⟩:=ah kc;clear hx
  have qI:=dS kc
  go_wp2_with fail
  refine(Ae _).mono ?_
  rintro e w2 ⟨rfl,rfl⟩
  go_wp2_with fail
  go_ret
  exact⟨rfl,hall⟩
theorem TV (c:Pl.aZ)(w:World)(hS:f.st.length<=100000)(hL:f.li.length<=100000)(h0:Pl.o8 f.st.length f.li.length c.lim c.fr=true)(h1:Pl.bQ c.er 0 100000=true)(k1:c.kind≠1)(k2:c.kind≠2)(k3:c.kind≠3)(k4:c.kind≠4)(k5:c.kind≠5):
  Calls prog 185 #[.agg (fq A1 A2 A3 A4 c1 c2 c3 c4 f),.agg (kq c)] w fun e w'=>e=.returned (.bool false)∧Below w.heap.size w w':=by
 have hEq: ∀W,(Op.equalIn 10000 46 (.agg (cq c.aB)) (.agg z6)).run prog W=.ok c.aB.qO W:=fun W=>(mq c W)
 have ic:=fun W=>gV A1 A2 A3 A4 c1 c2 c3 c4 f c.lim c.fr W hL hS
 rw[show(Pl.bQ c.lim 0 ((f.li.length:Int)-1)&&Pl.bQ c.fr 0 ((f.st.length:Int)-1))=true from h0]at ic
 have Ae:=fun W=>bW c.er 0 100000 W
 rw[h1]at Ae
 have m1:((c.kind:Int)==1)=false:=by rw[beq_eq_false_iff_ne];omega
 have m2:((c.kind:Int)==2)=false:=by rw[beq_eq_false_iff_ne];omega
 have m3:((c.kind:Int)==3)=false:=by rw[beq_eq_false_iff_ne];omega
 have m4:((c.kind:Int)==4)=false:=by rw[beq_eq_false_iff_ne];omega
 have m5:((c.kind:Int)==5)=false:=by rw[beq_eq_false_iff_ne];omega
 clear k1 k2 k3 k4 k5
 have kf:=(heap_alloc_new w (.cells (fq A1 A2 A3 A4 c1 c2 c3 c4 f) 28))
 have kc:=(heap_alloc_new (w.alloc (.cells (fq A1 A2 A3 A4 c1 c2 c3 c4 f) 28)) (.cells (kq c) 48))
 rw[World.size_alloc]at kc
 have kf:=(Below.heap_alloc _ (.cells (kq c) 48) _ (lO kf)).trans kf
 have iw:=ak kf underlying28 rfl av
 have gZ:=ak kc underlying48 rfl aj
 have hall:Below w.heap.size w ((w.alloc (.cells (fq A1 A2 A3 A4 c1 c2 c3 c4 f) 28)).alloc (.cells (kq c) 48)):=((Below.refl _ w).alloc (Nat.le_refl _) _).alloc (by simp) _
 have qI:=dS kc
 clear h0 h1
 rcases(show(¬c.lim<c.bL)∨(c.lim<c.bL∧ ¬c.bL<(f.li.length:Int))∨(c.lim<c.bL∧c.bL<(f.li.length:Int)) by omega)with x1|⟨x1,x2⟩|⟨x1,x2⟩
 all_goals
  go_enter func185,ntmps185
  go_wp2_with fail
  refine(ic _).mono ?_
  rintro e w1 ⟨rfl,hx⟩
  clear qI
  replace kf:=kE hx kf;replace kc:=kE hx kc;replace hall:Below w.heap.size w _:=hall.trans (hx.mono hall.size);(try clear iw gZ);have iw:=ak kf underlying28 rfl av;have gZ:=ak kc underlying48 rfl aj;(try clear hcf nY hcc hfc);obtain⟨hcf,nY⟩:=ah kf;obtain⟨hcc,hfc⟩:=ah kc;clear hx
  have qI:=dS kc
  go_wp2_with fail
  refine(Ae _).mono ?_
  rintro e w2 ⟨rfl,rfl⟩
  go_wp2_with fail
  go_ret
  exact⟨rfl,hall⟩
theorem tk1 (c:Pl.aZ)(w:World)(hS:f.st.length<=100000)(hL:f.li.length<=100000)(h0:Pl.o8 f.st.length f.li.length c.lim c.fr=true)(h1:Pl.bQ c.er 0 100000=true):
  Calls prog 185 #[.agg (fq A1 A2 A3 A4 c1 c2 c3 c4 f),.agg (iq 1 c)] w fun e w'=>e=.returned (.bool (c.aB.qO&&((c.bL==0)&&((c.till==0)&&Pl.bQ c.size 0 100000))))∧Below w.heap.size w w':=by
 obtain⟨R,hR⟩: ∃R,(c.aB.qO&&((c.bL==0)&&((c.till==0)&&Pl.bQ c.size 0 100000)))=R:=⟨_,rfl⟩
 rw[hR]
 have hEq:=fun W=>mq c W
 have ic:=fun W=>gV A1 A2 A3 A4 c1 c2 c3 c4 f c.lim c.fr W hL hS
 rw[show(Pl.bQ c.lim 0 ((f.li.length:Int)-1)&&Pl.bQ c.fr 0 ((f.st.length:Int)-1))=true from h0]at ic
 have Ae:=fun W=>bW c.er 0 100000 W
 rw[h1]at Ae
 have Gq:=fun W=>bW c.size 0 100000 W
 have kf:=(heap_alloc_new w (.cells (fq A1 A2 A3 A4 c1 c2 c3 c4 f) 28))
 have kc:=(heap_alloc_new (w.alloc (.cells (fq A1 A2 A3 A4 c1 c2 c3 c4 f) 28)) (.cells (iq 1 c) 48))
 rw[World.size_alloc]at kc
 have kf:=(Below.heap_alloc _ (.cells (iq 1 c) 48) _ (lO kf)).trans kf
 have iw:=ak kf underlying28 rfl av
 have gZ:=ak kc underlying48 rfl aj
 have hall:Below w.heap.size w ((w.alloc (.cells (fq A1 A2 A3 A4 c1 c2 c3 c4 f) 28)).alloc (.cells (iq 1 c) 48)):=((Below.refl _ w).alloc (Nat.le_refl _) _).alloc (by simp) _
 have qI:=dS kc
 clear h0 h1
 have HR:=Lib.hid hR
 clear hR
 rcases(show(¬c.lim<c.bL)∨(c.lim<c.bL∧ ¬c.bL<(f.li.length:Int))∨(c.lim<c.bL∧c.bL<(f.li.length:Int)) by omega)with x1|⟨x1,x2⟩|⟨x1,x2⟩
 all_goals (
  go_enter func185,ntmps185
  go_wp2_with fail
  refine(ic _).mono ?_
  rintro e w1 ⟨rfl,hx1⟩
  clear qI
  replace kf:=kE hx1 kf;replace kc:=kE hx1 kc;replace hall:Below w.heap.size w _:=hall.trans (hx1.mono hall.size);clear iw gZ;have iw:=ak kf underlying28 rfl av;have gZ:=ak kc underlying48 rfl aj;obtain⟨hcf,nY⟩:=ah kf;obtain⟨hcc,hfc⟩:=ah kc;clear hx1
  have qI:=dS kc
  go_wp2_with fail
  refine(Ae _).mono ?_
  rintro e w2 ⟨rfl,rfl⟩
  cases h2:c.aB.qO with
  |false=>
   have H2:=Lib.hid h2
   rw[h2]at hEq
   clear h2
   go_wp2_with fail
   go_ret
   exact⟨aD (by rw[<-HR.out,H2.out];rfl),hall⟩
  | true=>
   have H2:=Lib.hid h2
   rw[h2]at hEq
   clear h2
   cases h3:(c.bL==0)with
   |false=>
    have H3:=Lib.hid h3
    go_wp2_with fail
    go_ret
    exact⟨aD (by rw[<-HR.out,H2.out,H3.out];rfl),hall⟩
   | true=>
    have H3:=Lib.hid h3
    cases h4:(c.till==0)with
    |false=>
     have H4:=Lib.hid h4
     go_wp2_with fail
     go_ret
     exact⟨aD (by rw[<-HR.out,H2.out,H3.out,H4.out];rfl),hall⟩
    | true=>
     have H4:=Lib.hid h4
     cases h5:Pl.bQ c.size 0 100000 with
     |false=>
      have H5:=Lib.hid h5
      rw[h5]at Gq
      clear h5
      go_wp2_with fail
      refine(Gq _).mono ?_
      rintro e w6 ⟨rfl,rfl⟩
      go_wp2_with fail
      go_ret
      exact⟨aD (by rw[<-HR.out,H2.out,H3.out,H4.out,H5.out];rfl),hall⟩
     |true=>
      have H5:=Lib.hid h5
      rw[h5]at Gq
      clear h5
      go_wp2_with fail
      refine(Gq _).mono ?_
      rintro e w6 ⟨rfl,rfl⟩
      go_wp2_with fail
      go_ret
      exact⟨aD (by rw[<-HR.out,H2.out,H3.out,H4.out,H5.out];rfl),hall⟩)
theorem tk2 (c:Pl.aZ)(w:World)(hS:f.st.length<=100000)(hL:f.li.length<=100000)(h0:Pl.o8 f.st.length f.li.length c.lim c.fr=true)(h1:Pl.bQ c.er 0 100000=true):
  Calls prog 185 #[.agg (fq A1 A2 A3 A4 c1 c2 c3 c4 f),.agg (iq 2 c)] w fun e w'=>e=.returned (.bool (c.aB.qO&&(Pl.yh f.li.length c&&((c.till==0)&&Pl.bQ c.size 0 100000))))∧Below w.heap.size w w':=by
 obtain⟨R,hR⟩: ∃R,(c.aB.qO&&(Pl.yh f.li.length c&&((c.till==0)&&Pl.bQ c.size 0 100000)))=R:=⟨_,rfl⟩
 rw[hR]
 have hEq:=fun W=>mq c W
 have ic:=fun W=>gV A1 A2 A3 A4 c1 c2 c3 c4 f c.lim c.fr W hL hS
 rw[show(Pl.bQ c.lim 0 ((f.li.length:Int)-1)&&Pl.bQ c.fr 0 ((f.st.length:Int)-1))=true from h0]at ic
 have Ae:=fun W=>bW c.er 0 100000 W
 rw[h1]at Ae
 have Gq:=fun W=>bW c.size 0 100000 W
 have kf:=(heap_alloc_new w (.cells (fq A1 A2 A3 A4 c1 c2 c3 c4 f) 28))
 have kc:=(heap_alloc_new (w.alloc (.cells (fq A1 A2 A3 A4 c1 c2 c3 c4 f) 28)) (.cells (iq 2 c) 48))
 rw[World.size_alloc]at kc
 have kf:=(Below.heap_alloc _ (.cells (iq 2 c) 48) _ (lO kf)).trans kf
 have iw:=ak kf underlying28 rfl av
 have gZ:=ak kc underlying48 rfl aj
 have hall:Below w.heap.size w ((w.alloc (.cells (fq A1 A2 A3 A4 c1 c2 c3 c4 f) 28)).alloc (.cells (iq 2 c) 48)):=((Below.refl _ w).alloc (Nat.le_refl _) _).alloc (by simp) _
 have qI:=dS kc
 clear h0 h1
 obtain⟨ob,BN⟩: ∃ob,Pl.yh f.li.length c=ob:=⟨_,rfl⟩
 have hx3:(ob=false∧ ¬c.lim<c.bL)∨(ob=false∧c.lim<c.bL∧ ¬c.bL<(f.li.length:Int))∨(ob=true∧c.lim<c.bL∧c.bL<(f.li.length:Int)):=by
  rw[<-BN];unfold Pl.yh;by_cases y1:c.lim<c.bL<;>by_cases y2:c.bL<(f.li.length:Int)<;>simp[y1,y2]
 rw[BN]at hR
 clear BN
 have HR:=Lib.hid hR
 clear hR
 rcases hx3 with ⟨hx,x1⟩|⟨hx,x1,x2⟩|⟨hx,x1,x2⟩
 all_goals (
  go_enter func185,ntmps185
  go_wp2_with fail
  refine(ic _).mono ?_
  rintro e w1 ⟨rfl,hx1⟩
  clear qI
  replace kf:=kE hx1 kf;replace kc:=kE hx1 kc;replace hall:Below w.heap.size w _:=hall.trans (hx1.mono hall.size);clear iw gZ;have iw:=ak kf underlying28 rfl av;have gZ:=ak kc underlying48 rfl aj;obtain⟨hcf,nY⟩:=ah kf;obtain⟨hcc,hfc⟩:=ah kc;clear hx1
  have qI:=dS kc
  go_wp2_with fail
  refine(Ae _).mono ?_
  rintro e w2 ⟨rfl,rfl⟩
  cases h2:c.aB.qO with
  |false=>
   have H2:=Lib.hid h2
   rw[h2]at hEq
   clear h2
   go_wp2_with fail
   go_ret
   exact⟨aD (by rw[<-HR.out,H2.out];rfl),hall⟩
  | true=>
   have H2:=Lib.hid h2
   rw[h2]at hEq
   clear h2
   cases ob with
   | false=>
    cases hx
    all_goals (
     go_wp2_with fail
     go_ret
     exact⟨aD (by rw[<-HR.out,H2.out];rfl),hall⟩)
   | true=>
    cases hx
    all_goals (
     cases h4:(c.till==0)with
     |false=>
      have H4:=Lib.hid h4
      go_wp2_with fail
      go_ret
      exact⟨aD (by rw[<-HR.out,H2.out,H4.out];rfl),hall⟩
     | true=>
      have H4:=Lib.hid h4
      cases h5:Pl.bQ c.size 0 100000 with
      |false=>
       have H5:=Lib.hid h5
       rw[h5]at Gq
       clear h5
       go_wp2_with fail
       refine(Gq _).mono ?_
       rintro e w6 ⟨rfl,rfl⟩
       go_wp2_with fail
       go_ret
       exact⟨aD (by rw[<-HR.out,H2.out,H4.out,H5.out];rfl),hall⟩
      |true=>
       have H5:=Lib.hid h5
       rw[h5]at Gq
       clear h5
       go_wp2_with fail
       refine(Gq _).mono ?_
       rintro e w6 ⟨rfl,rfl⟩
       go_wp2_with fail
       go_ret
       exact⟨aD (by rw[<-HR.out,H2.out,H4.out,H5.out];rfl),hall⟩))
theorem tk3 (c:Pl.aZ)(w:World)(hS:f.st.length<=100000)(hL:f.li.length<=100000)(h0:Pl.o8 f.st.length f.li.length c.lim c.fr=true)(h1:Pl.bQ c.er 0 100000=true):
  Calls prog 185 #[.agg (fq A1 A2 A3 A4 c1 c2 c3 c4 f),.agg (iq 3 c)] w fun e w'=>e=.returned (.bool ((c.bL==0)&&((c.size==0)&&((c.er==0)&&(Pl.bQ c.till 0 ((f.st.length:Int)-1)&&(c.till !=c.fr))))))∧Below w.heap.size w w':=by
 obtain⟨R,hR⟩: ∃R,((c.bL==0)&&((c.size==0)&&((c.er==0)&&(Pl.bQ c.till 0 ((f.st.length:Int)-1)&&(c.till !=c.fr)))))=R:=⟨_,rfl⟩
 rw[hR]
 have hEq:=fun W=>mq c W
 have ic:=fun W=>gV A1 A2 A3 A4 c1 c2 c3 c4 f c.lim c.fr W hL hS
 rw[show(Pl.bQ c.lim 0 ((f.li.length:Int)-1)&&Pl.bQ c.fr 0 ((f.st.length:Int)-1))=true from h0]at ic
 have Ae:=fun W=>bW c.er 0 100000 W
 rw[h1]at Ae
 have Gq:=fun W=>bW c.till 0 ((f.st.length:Int)-1) W
 have kf:=(heap_alloc_new w (.cells (fq A1 A2 A3 A4 c1 c2 c3 c4 f) 28))
 have kc:=(heap_alloc_new (w.alloc (.cells (fq A1 A2 A3 A4 c1 c2 c3 c4 f) 28)) (.cells (iq 3 c) 48))
 rw[World.size_alloc]at kc
 have kf:=(Below.heap_alloc _ (.cells (iq 3 c) 48) _ (lO kf)).trans kf
 have iw:=ak kf underlying28 rfl av
 have gZ:=ak kc underlying48 rfl aj
 have hall:Below w.heap.size w ((w.alloc (.cells (fq A1 A2 A3 A4 c1 c2 c3 c4 f) 28)).alloc (.cells (iq 3 c) 48)):=((Below.refl _ w).alloc (Nat.le_refl _) _).alloc (by simp) _
 have qI:=dS kc
 clear h0 h1
 have HR:=Lib.hid hR
 clear hR
 rcases(show(¬c.lim<c.bL)∨(c.lim<c.bL∧ ¬c.bL<(f.li.length:Int))∨(c.lim<c.bL∧c.bL<(f.li.length:Int)) by omega)with x1|⟨x1,x2⟩|⟨x1,x2⟩
 all_goals (
  go_enter func185,ntmps185
  go_wp2_with fail
  refine(ic _).mono ?_
  rintro e w1 ⟨rfl,hx1⟩
  clear qI
  replace kf:=kE hx1 kf;replace kc:=kE hx1 kc;replace hall:Below w.heap.size w _:=hall.trans (hx1.mono hall.size);clear iw gZ;have iw:=ak kf underlying28 rfl av;have gZ:=ak kc underlying48 rfl aj;obtain⟨hcf,nY⟩:=ah kf;obtain⟨hcc,hfc⟩:=ah kc;clear hx1
  have qI:=dS kc
  go_wp2_with fail
  refine(Ae _).mono ?_
  rintro e w2 ⟨rfl,rfl⟩
  cases h2:(c.bL==0)with
  |false=>
   have H2:=Lib.hid h2
   go_wp2_with fail
   go_ret
   exact⟨aD (by rw[<-HR.out,H2.out];rfl),hall⟩
  | true=>
   have H2:=Lib.hid h2
   cases h3:(c.size==0)with
   |false=>
    have H3:=Lib.hid h3
    go_wp2_with fail
    go_ret
    exact⟨aD (by rw[<-HR.out,H2.out,H3.out];rfl),hall⟩
   | true=>
    have H3:=Lib.hid h3
    cases h4:(c.er==0)with
    |false=>
     have H4:=Lib.hid h4
     go_wp2_with fail
     go_ret
     exact⟨aD (by rw[<-HR.out,H2.out,H3.out,H4.out];rfl),hall⟩
    | true=>
     have H4:=Lib.hid h4
     cases h5:Pl.bQ c.till 0 ((f.st.length:Int)-1)with
     |false=>
      have H5:=Lib.hid h5
      rw[h5]at Gq
      clear h5
      go_wp2_with fail
      refine(Gq _).mono ?_
      rintro e w6 ⟨rfl,rfl⟩
      go_wp2_with fail
      go_ret
      exact⟨aD (by rw[<-HR.out,H2.out,H3.out,H4.out,H5.out];rfl),hall⟩
     | true=>
      have H5:=Lib.hid h5
      rw[h5]at Gq
      clear h5
      cases h6:(c.till !=c.fr)with
      |false=>
       have H6:=Lib.hid h6
       go_wp2_with fail
       refine(Gq _).mono ?_
       rintro e w6 ⟨rfl,rfl⟩
       go_wp2_with fail
       go_ret
       exact⟨aD (by rw[<-HR.out,H2.out,H3.out,H4.out,H5.out,H6.out];rfl),hall⟩
      |true=>
       have H6:=Lib.hid h6
       go_wp2_with fail
       refine(Gq _).mono ?_
       rintro e w6 ⟨rfl,rfl⟩
       go_wp2_with fail
       go_ret
       exact⟨aD (by rw[<-HR.out,H2.out,H3.out,H4.out,H5.out,H6.out];rfl),hall⟩)
theorem tk4 (c:Pl.aZ) (w:World) (hS:f.st.length<=100000) (hL:f.li.length<=100000) (h0:Pl.o8 f.st.length f.li.length c.lim c.fr=true) (h1:Pl.bQ c.er 0 100000=true):
  Calls prog 185 #[.agg (fq A1 A2 A3 A4 c1 c2 c3 c4 f),.agg (iq 4 c)] w fun e w'=>e=.returned (.bool (c.aB.qO&&(Pl.yh f.li.length c&&((c.size==0)&&((c.er==0)&&(decide (c.fr<c.till)&&decide (c.till<(f.st.length:Int))))))))∧Below w.heap.size w w':=by
 obtain⟨R,hR⟩: ∃R,(c.aB.qO&&(Pl.yh f.li.length c&&((c.size==0)&&((c.er==0)&&(decide (c.fr<c.till)&&decide (c.till<(f.st.length:Int)))))))=R:=⟨_,rfl⟩
 rw[hR]
 have hEq:=fun W=>mq c W
 have ic:=fun W=>gV A1 A2 A3 A4 c1 c2 c3 c4 f c.lim c.fr W hL hS
 rw[show(Pl.bQ c.lim 0 ((f.li.length:Int)-1)&&Pl.bQ c.fr 0 ((f.st.length:Int)-1))=true from h0]at ic
 have Ae:=fun W=>bW c.er 0 100000 W
 rw[h1]at Ae
 have kf:=(heap_alloc_new w (.cells (fq A1 A2 A3 A4 c1 c2 c3 c4 f) 28))
 have kc:=(heap_alloc_new (w.alloc (.cells (fq A1 A2 A3 A4 c1 c2 c3 c4 f) 28)) (.cells (iq 4 c) 48))
 rw[World.size_alloc]at kc
 have kf:=(Below.heap_alloc _ (.cells (iq 4 c) 48) _ (lO kf)).trans kf
 have iw:=ak kf underlying28 rfl av
 have gZ:=ak kc underlying48 rfl aj
 have hall:Below w.heap.size w ((w.alloc (.cells (fq A1 A2 A3 A4 c1 c2 c3 c4 f) 28)).alloc (.cells (iq 4 c) 48)):=((Below.refl _ w).alloc (Nat.le_refl _) _).alloc (by simp) _
 have qI:=dS kc
 clear h0 h1
 obtain⟨ob,BN⟩: ∃ob,Pl.yh f.li.length c=ob:=⟨_,rfl⟩
 have hx3:(ob=false∧ ¬c.lim<c.bL)∨(ob=false∧c.lim<c.bL∧ ¬c.bL<(f.li.length:Int))∨(ob=true∧c.lim<c.bL∧c.bL<(f.li.length:Int)):=by
  rw[<-BN];unfold Pl.yh;by_cases y1:c.lim<c.bL<;>by_cases y2:c.bL<(f.li.length:Int)<;>simp[y1,y2]
 rw[BN]at hR
 clear BN
 have HR:=Lib.hid hR
 clear hR
 rcases hx3 with ⟨hx,x1⟩|⟨hx,x1,x2⟩|⟨hx,x1,x2⟩
 all_goals (
  go_enter func185,ntmps185
  go_wp2_with fail
  refine(ic _).mono ?_
  rintro e w1 ⟨rfl,hx1⟩
  clear qI
  replace kf:=kE hx1 kf;replace kc:=kE hx1 kc;replace hall:Below w.heap.size w _:=hall.trans (hx1.mono hall.size);clear iw gZ;have iw:=ak kf underlying28 rfl av;have gZ:=ak kc underlying48 rfl aj;obtain⟨hcf,nY⟩:=ah kf;obtain⟨hcc,hfc⟩:=ah kc;clear hx1
  have qI:=dS kc
  go_wp2_with fail
  refine(Ae _).mono ?_
  rintro e w2 ⟨rfl,rfl⟩
  cases h2:c.aB.qO with
  |false=>
   have H2:=Lib.hid h2
   rw[h2]at hEq
   clear h2
   go_wp2_with fail
   go_ret
   exact⟨aD (by rw[<-HR.out,H2.out];rfl),hall⟩
  | true=>
   have H2:=Lib.hid h2
   rw[h2]at hEq
   clear h2
   cases ob with
   | false=>
    cases hx
    all_goals (
     go_wp2_with fail
     go_ret
     exact⟨aD (by rw[<-HR.out,H2.out];rfl),hall⟩)
   | true=>
    cases hx
    all_goals (
     cases h4:(c.size==0)with
     |false=>
      have H4:=Lib.hid h4
      go_wp2_with fail
      go_ret
      exact⟨aD (by rw[<-HR.out,H2.out,H4.out];rfl),hall⟩
     | true=>
      have H4:=Lib.hid h4
      cases h5:(c.er==0)with
      |false=>
       have H5:=Lib.hid h5
       go_wp2_with fail
       go_ret
       exact⟨aD (by rw[<-HR.out,H2.out,H4.out,H5.out];rfl),hall⟩
      | true=>
       have H5:=Lib.hid h5
       cases h6:decide (c.fr<c.till)with
       |false=>
        have H6:=Lib.hid h6
        have d6:=of_decide_eq_false h6
        clear h6
        go_wp2_with fail
        go_ret
        exact⟨aD (by rw[<-HR.out,H2.out,H4.out,H5.out,H6.out];rfl),hall⟩
       | true=>
        have H6:=Lib.hid h6
        have d6:=of_decide_eq_true h6
        clear h6
        cases h7:decide (c.till<(f.st.length:Int))with
        |false=>
         have H7:=Lib.hid h7
         have d7:=of_decide_eq_false h7
         clear h7
         go_wp2_with fail
         go_ret
         exact⟨aD (by rw[<-HR.out,H2.out,H4.out,H5.out,H6.out,H7.out];rfl),hall⟩
        |true=>
         have H7:=Lib.hid h7
         have d7:=of_decide_eq_true h7
         clear h7
         go_wp2_with fail
         go_ret
         exact⟨aD (by rw[<-HR.out,H2.out,H4.out,H5.out,H6.out,H7.out];rfl),hall⟩))
theorem Y4 (c:Pl.aZ)(w:World)(hS:f.st.length<=100000)(hL:f.li.length<=100000)(h0:Pl.o8 f.st.length f.li.length c.lim c.fr=true)(h1:Pl.bQ c.er 0 100000=true):
  Calls prog 185 #[.agg (fq A1 A2 A3 A4 c1 c2 c3 c4 f),.agg (iq 5 c)] w fun e w'=>e=.returned (.bool (c.aB.qO&&((c.bL==0)&&(Pl.bQ c.till 0 ((f.st.length:Int)-1)&&((c.till !=c.fr)&&Pl.bQ c.size (-100000) 100000)))))∧Below w.heap.size w w':=by
 obtain⟨R,hR⟩: ∃R,(c.aB.qO&&((c.bL==0)&&(Pl.bQ c.till 0 ((f.st.length:Int)-1)&&((c.till !=c.fr)&&Pl.bQ c.size (-100000) 100000))))=R:=⟨_,rfl⟩
 rw[hR]
 have hEq:=fun W=>mq c W
 have ic:=fun W=>gV A1 A2 A3 A4 c1 c2 c3 c4 f c.lim c.fr W hL hS
 rw[show(Pl.bQ c.lim 0 ((f.li.length:Int)-1)&&Pl.bQ c.fr 0 ((f.st.length:Int)-1))=true from h0]at ic
 have Ae:=fun W=>bW c.er 0 100000 W
 rw[h1]at Ae
 have Sj:=fun W=>bW c.till 0 ((f.st.length:Int)-1) W
 have UH:=fun W=>bW c.size (-100000) 100000 W
 have kf:=(heap_alloc_new w (.cells (fq A1 A2 A3 A4 c1 c2 c3 c4 f) 28))
 have kc:=(heap_alloc_new (w.alloc (.cells (fq A1 A2 A3 A4 c1 c2 c3 c4 f) 28)) (.cells (iq 5 c) 48))
 rw[World.size_alloc]at kc
 have kf:=(Below.heap_alloc _ (.cells (iq 5 c) 48) _ (lO kf)).trans kf
 have iw:=ak kf underlying28 rfl av
 have gZ:=ak kc underlying48 rfl aj
 have hall:Below w.heap.size w ((w.alloc (.cells (fq A1 A2 A3 A4 c1 c2 c3 c4 f) 28)).alloc (.cells (iq 5 c) 48)):=((Below.refl _ w).alloc (Nat.le_refl _) _).alloc (by simp) _
 have qI:=dS kc
 clear h0 h1
 have HR:=Lib.hid hR
 clear hR
 rcases(show(¬c.lim<c.bL)∨(c.lim<c.bL∧ ¬c.bL<(f.li.length:Int))∨(c.lim<c.bL∧c.bL<(f.li.length:Int)) by omega)with x1|⟨x1,x2⟩|⟨x1,x2⟩
 all_goals (
  go_enter func185,ntmps185
  go_wp2_with fail
  refine(ic _).mono ?_
  rintro e w1 ⟨rfl,hx1⟩
  clear qI
  replace kf:=kE hx1 kf;replace kc:=kE hx1 kc;replace hall:Below w.heap.size w _:=hall.trans (hx1.mono hall.size);clear iw gZ;have iw:=ak kf underlying28 rfl av;have gZ:=ak kc underlying48 rfl aj;obtain⟨hcf,nY⟩:=ah kf;obtain⟨hcc,hfc⟩:=ah kc;clear hx1
  have qI:=dS kc
  go_wp2_with fail
  refine(Ae _).mono ?_
  rintro e w2 ⟨rfl,rfl⟩
  cases h2:c.aB.qO with
  |false=>
   have H2:=Lib.hid h2
   rw[h2]at hEq
   clear h2
   go_wp2_with fail
   go_ret
   exact⟨aD (by rw[<-HR.out,H2.out];rfl),hall⟩
  | true=>
   have H2:=Lib.hid h2
   rw[h2]at hEq
   clear h2
   cases h3:(c.bL==0)with
   |false=>
    have H3:=Lib.hid h3
    go_wp2_with fail
    go_ret
    exact⟨aD (by rw[<-HR.out,H2.out,H3.out];rfl),hall⟩
   | true=>
    have H3:=Lib.hid h3
    cases h4:Pl.bQ c.till 0 ((f.st.length:Int)-1)with
    |false=>
     have H4:=Lib.hid h4
     rw[h4]at Sj
     clear h4
     go_wp2_with fail
     refine(Sj _).mono ?_
     rintro e w5 ⟨rfl,rfl⟩
     go_wp2_with fail
     go_ret
     exact⟨aD (by rw[<-HR.out,H2.out,H3.out,H4.out];rfl),hall⟩
    | true=>
     have H4:=Lib.hid h4
     rw[h4]at Sj
     clear h4
     cases h5:(c.till !=c.fr)with
     |false=>
      have H5:=Lib.hid h5
      go_wp2_with fail
      refine(Sj _).mono ?_
      rintro e w5 ⟨rfl,rfl⟩
      go_wp2_with fail
      go_ret
      exact⟨aD (by rw[<-HR.out,H2.out,H3.out,H4.out,H5.out];rfl),hall⟩
     | true=>
      have H5:=Lib.hid h5
      cases h6:Pl.bQ c.size (-100000) 100000 with
      |false=>
       have H6:=Lib.hid h6
       rw[h6]at UH
       clear h6
       go_wp2_with fail
       refine(Sj _).mono ?_
       rintro e w5 ⟨rfl,rfl⟩
       go_wp2_with fail
       refine(UH _).mono ?_
       rintro e w7 ⟨rfl,rfl⟩
       go_wp2_with fail
       go_ret
       exact⟨aD (by rw[<-HR.out,H2.out,H3.out,H4.out,H5.out,H6.out];rfl),hall⟩
      |true=>
       have H6:=Lib.hid h6
       rw[h6]at UH
       clear h6
       go_wp2_with fail
       refine(Sj _).mono ?_
       rintro e w5 ⟨rfl,rfl⟩
       go_wp2_with fail
       refine(UH _).mono ?_
       rintro e w7 ⟨rfl,rfl⟩
       go_wp2_with fail
       go_ret
       exact⟨aD (by rw[<-HR.out,H2.out,H3.out,H4.out,H5.out,H6.out];rfl),hall⟩)
theorem Pj (c:Pl.aZ)(w:World)(hS:f.st.length<=100000)(hL:f.li.length<=100000):
  Calls prog 185 #[.agg (fq A1 A2 A3 A4 c1 c2 c3 c4 f),.agg (kq c)] w fun e w'=>e=.returned (.bool (Pl.BM f.st.length f.li.length c))∧Below w.heap.size w w':=by
 unfold Pl.BM
 cases h0:Pl.o8 f.st.length f.li.length c.lim c.fr with
 |false=>exact TT A1 A2 A3 A4 c1 c2 c3 c4 f c w hS hL h0
 |true=>
 cases h1:Pl.bQ c.er 0 100000 with
 |false=>exact TU A1 A2 A3 A4 c1 c2 c3 c4 f c w hS hL h0 h1
 |true=>
 rw[Bool.true_and,Bool.true_and]
 by_cases k1:c.kind=1
 ·rw[if_pos k1,show(c.kind:Int)=1 by omega]
  exact tk1 A1 A2 A3 A4 c1 c2 c3 c4 f c w hS hL h0 h1
 rw[if_neg k1]
 by_cases k2:c.kind=2
 ·rw[if_pos k2,show(c.kind:Int)=2 by omega]
  exact tk2 A1 A2 A3 A4 c1 c2 c3 c4 f c w hS hL h0 h1
 rw[if_neg k2]
 by_cases k3:c.kind=3
 ·rw[if_pos k3,show(c.kind:Int)=3 by omega]
  exact tk3 A1 A2 A3 A4 c1 c2 c3 c4 f c w hS hL h0 h1
 rw[if_neg k3]
 by_cases k4:c.kind=4
 ·rw[if_pos k4,show(c.kind:Int)=4 by omega]
  exact tk4 A1 A2 A3 A4 c1 c2 c3 c4 f c w hS hL h0 h1
 rw[if_neg k4]
 by_cases k5:c.kind=5
 ·rw[if_pos k5,show(c.kind:Int)=5 by omega]
  exact Y4 A1 A2 A3 A4 c1 c2 c3 c4 f c w hS hL h0 h1
 rw[if_neg k5]
 exact TV A1 A2 A3 A4 c1 c2 c3 c4 f c w hS hL h0 h1 k1 k2 k3 k4 k5
