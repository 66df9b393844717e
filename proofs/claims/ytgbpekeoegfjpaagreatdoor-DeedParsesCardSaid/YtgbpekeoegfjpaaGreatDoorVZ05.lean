/- Proved: parts of the walk. -/
import Derived.Test.YtgbpekeoegfjpaaGreatDoorVZ04
set_option maxRecDepth 100000
set_option maxHeartbeats 8000000
namespace Go.Proofs
open Tryz RowKit
variable (A1 A2 A3 A4 : Option Addr) (c1 c2 c3 c4 : Nat) (f : Pl.aL)
theorem Ja :(prog.info? 24).map (fun i=>(i.zero,i.size,i.bytes))=some (some (.slice none 0 0),1,24):=by kernel_rfl
theorem Jb (x y z:Value)(w:World):(Instr.index 116 (.agg #[x,y,z]) (.int .i64 0)).run prog w=.ok x w∧(Instr.index 116 (.agg #[x,y,z]) (.int .i64 1)).run prog w=.ok y w∧(Instr.index 116 (.agg #[x,y,z]) (.int .i64 2)).run prog w=.ok z w:=by
 obtain⟨i,hi,_,h2,_⟩:=info_parts Ja
 refine⟨?_,?_,?_⟩<;>simp[Instr.index,asIntOf,part,sizeOf,typeInfo,go_sem,run_underlying underlying116,hi,h2]
theorem vC (w:World) (hf:bB w w.heap.size A1 A2 A3 A4 f) (hm:Small f) (hc:dY c1 c2 c3 c4 f) (h1:f.N1) (h2:f.N2) (h3:Pl.vars f.va=0):
  Calls prog 22 #[.agg (fq A1 A2 A3 A4 c1 c2 c3 c4 f)] w fun e w'=>e=.returned (.int .i64 (Pl.aR f))∧Below w.heap.size w w':=by
 have h1':f.st.length<=12∧f.li.length<=10∧f.pa.length<=40:=by unfold Pl.aL.N1 at h1;omega
 have h2':2<=f.st.length∧1<=f.li.length:=by unfold Pl.aL.N2 at h2;omega
 obtain⟨k1,k2,k3⟩:=h1'
 obtain⟨k4,k5⟩:=h2'
 have hml:f.va.length<=maxLen:=by have:=hm.va;unfold maxLen;omega
 obtain⟨b1,e1⟩: ∃b,(f.sn.any fun s=> !Pl.isName s)=b:=⟨_,rfl⟩
 obtain⟨b2,e2⟩: ∃b,(f.li.any fun s=> !Pl.isName s)=b:=⟨_,rfl⟩
 obtain⟨b3,e3⟩: ∃b,(f.pn.any fun s=> !Pl.isName s)=b:=⟨_,rfl⟩
 obtain⟨t1,g1⟩: ∃b,Pl.twice f.sn=b:=⟨_,rfl⟩
 obtain⟨t2,g2⟩: ∃b,Pl.twice f.li=b:=⟨_,rfl⟩
 obtain⟨t3,g3⟩: ∃b,Pl.twice f.pn=b:=⟨_,rfl⟩
 have SK:=Lib.hid (Pl.SG e1 e2 e3)
 have SL:=Lib.hid (Pl.SH g1 g2 g3)
 have E1:=Lib.hid e1;have E2:=Lib.hid e2;have E3:=Lib.hid e3
 have G1:=Lib.hid g1;have G2:=Lib.hid g2;have G3:=Lib.hid g3
 clear e1 e2 e3 g1 g2 g3
 have H1:=Lib.hid h1;have H2:=Lib.hid h2;have H3:=Lib.hid h3
 clear h1 h2 h3
 have hs1:Hid (∀s∈f.sn,s.size<=100000):=Lib.hid fun s hs=>by obtain⟨x,hx,rfl⟩:=List.mem_map.1 hs;exact hm.sn x hx
 have hs3:Hid (∀s∈f.pn,s.size<=100000):=Lib.hid fun s hs=>by obtain⟨x,hx,rfl⟩:=List.mem_map.1 hs;exact hm.pn x hx
 have hq1:f.sn.length=f.st.length:=by unfold Pl.aL.sn;simp
 have hq3:f.pn.length=f.pa.length:=by unfold Pl.aL.pn;simp
 have Q1:=Lib.hid hq1
 have Q3:=Lib.hid hq3
 clear hq1 hq3
 have kb:=heap_alloc_new w (.cells (fq A1 A2 A3 A4 c1 c2 c3 c4 f) 28)
 go_enter func22,ntmps22
 go_wp2_with (first
  |(go_at_call 78;refine(Ib A4 c4 f.va 0 _ H3 (hf.va.up (by go_grown)) hml).mono ?_;rintro e w1 ⟨rfl,hx⟩;obtain⟨kb,aQ,aS,aC⟩:=kB hx kb;have hall:=bT (w:=w) hx;have hsz:w.heap.size<=w1.heap.size:=hall.size;clear hx)
  |(go_at_call 79;refine(H_ A1 A2 A3 A4 c1 c2 c3 c4 f _ (hf.up (by go_grown)) hm).mono ?_;rintro e w2 ⟨B1,d1,B3,d3,rfl,hN1,NN,hd1,hd3,hx⟩;obtain⟨kb,aQ,aS,aC⟩:=kB hx kb;have hall:=bT (w:=w) hx;have hsz:w.heap.size<=w2.heap.size:=hall.size;clear hx))
 refine wp_loop_rounds 4 ?_
 rw[rounds_succ]
 have Jc:=fun W hW=>wO B1 d1 f.sn b1 W hW (by rw[Q1.out];omega) hs1.out E1
 rw[Q1.out]at Jc
 have U4:=fun w=>(Jb (.slice B1 f.st.length d1) (.slice A2 f.li.length c2) (.slice B3 f.pa.length d3) w).1
 have U5:=fun w=>(Jb (.slice B1 f.st.length d1) (.slice A2 f.li.length c2) (.slice B3 f.pa.length d3) w).2.1
 have U6:=fun w=>(Jb (.slice B1 f.st.length d1) (.slice A2 f.li.length c2) (.slice B3 f.pa.length d3) w).2.2
 have NQ:=fun W hW=>wO A2 c2 f.li b2 W hW hm.li hm.ln E2
 have Jd:=fun W hW=>wO B3 d3 f.pn b3 W hW (by rw[Q3.out];omega) hs3.out E3
 rw[Q3.out]at Jd
 clear E1 E2 E3
 cases b1 with
 |true=>
  have hE:=Lib.hid (Pl.rU H1.out H2.out H3.out (fun h=>by have:=SK.out.1 h;simp at this))
  go_wp2_with (go_at_call 80;refine(Jc _ (hN1.up (by go_grown))).mono ?_;rintro e w3 ⟨rfl,hx⟩;obtain⟨kb,aQ,aS,aC⟩:=kB hx kb;have hall:=bT (w:=w) hx;have hsz:w.heap.size<=w3.heap.size:=hall.size;clear hx)
  go_ret
  exact⟨aH (by rw[hE.out]),by go_grown⟩
 |false=>
 go_wp2_with (go_at_call 80;refine(Jc _ (hN1.up (by go_grown))).mono ?_;rintro e w3 ⟨rfl,hx⟩;obtain⟨kb,aQ,aS,aC⟩:=kB hx kb;have hall:=bT (w:=w) hx;have hsz:w.heap.size<=w3.heap.size:=hall.size;have h23:Below w2.heap.size w2 w3:=bT hx;clear hx)
 rw[rounds_succ]
 have KR:=h23.size
 cases b2 with
 |true=>
  have hE:=Lib.hid (Pl.rU H1.out H2.out H3.out (fun h=>by have:=SK.out.1 h;simp at this))
  go_wp2_with (go_at_call 80;refine(NQ _ (hf.li.up (by go_grown))).mono ?_;rintro e w4 ⟨rfl,hx⟩;obtain⟨kb,aQ,aS,aC⟩:=kB hx kb;have hall:=bT (w:=w) hx;have hsz:w.heap.size<=w4.heap.size:=hall.size;clear hx)
  go_ret
  exact⟨aH (by rw[hE.out]),by go_grown⟩
 |false=>
 go_wp2_with (go_at_call 80;refine(NQ _ (hf.li.up (by go_grown))).mono ?_;rintro e w4 ⟨rfl,hx⟩;obtain⟨kb,aQ,aS,aC⟩:=kB hx kb;have hall:=bT (w:=w) hx;have hsz:w.heap.size<=w4.heap.size:=hall.size;have SN:Below w2.heap.size w2 w4:=bT hx;clear hx)
 rw[rounds_succ]
 have hsz2:=SN.size
 cases b3 with
 |true=>
  have hE:=Lib.hid (Pl.rU H1.out H2.out H3.out (fun h=>by have:=SK.out.1 h;simp at this))
  go_wp2_with (go_at_call 80;refine(Jd _ (NN.up (by go_grown))).mono ?_;rintro e w5 ⟨rfl,hx⟩;obtain⟨kb,aQ,aS,aC⟩:=kB hx kb;have hall:=bT (w:=w) hx;have hsz:w.heap.size<=w5.heap.size:=hall.size;clear hx)
  go_ret
  exact⟨aH (by rw[hE.out]),by go_grown⟩
 |false=>
 go_wp2_with (go_at_call 80;refine(Jd _ (NN.up (by go_grown))).mono ?_;rintro e w5 ⟨rfl,hx⟩;obtain⟨kb,aQ,aS,aC⟩:=kB hx kb;have hall:=bT (w:=w) hx;have hsz:w.heap.size<=w5.heap.size:=hall.size;clear hx)
 rw[rounds_succ]
 have N4:=Lib.hid (SK.out.2 (by simp))
 clear hN1 NN hd1 hd3 U4 U5 U6 Jc NQ Jd h23 SN SK hsz2 KR
 go_wp2_with (first
  |(go_at_call 79;refine(H_ A1 A2 A3 A4 c1 c2 c3 c4 f _ (hf.up (by go_grown)) hm).mono ?_;rintro e w6 ⟨B1,d1,B3,d3,rfl,hN1,NN,hd1,hd3,hx⟩;obtain⟨kb,aQ,aS,aC⟩:=kB hx kb;have hall:=bT (w:=w) hx;have hsz:w.heap.size<=w6.heap.size:=hall.size;clear hx))
 refine wp_loop_rounds 4 ?_
 rw[rounds_succ]
 have Jc:=fun W hW hc=>AY B1 d1 f.sn t1 W hW (by rw[Q1.out];omega) hc G1
 rw[Q1.out]at Jc
 have U4:=fun w=>(Jb (.slice B1 f.st.length d1) (.slice A2 f.li.length c2) (.slice B3 f.pa.length d3) w).1
 have U5:=fun w=>(Jb (.slice B1 f.st.length d1) (.slice A2 f.li.length c2) (.slice B3 f.pa.length d3) w).2.1
 have U6:=fun w=>(Jb (.slice B1 f.st.length d1) (.slice A2 f.li.length c2) (.slice B3 f.pa.length d3) w).2.2
 have NQ:=fun W hW=>AY A2 c2 f.li t2 W hW hm.li hc.li G2
 have Jd:=fun W hW hc=>AY B3 d3 f.pn t3 W hW (by rw[Q3.out];omega) hc G3
 rw[Q3.out]at Jd
 clear G1 G2 G3
 cases t1 with
 |true=>
  have hE:=Lib.hid (Pl.rV H1.out H2.out H3.out N4.out (fun h=>by have:=SL.out.1 h;simp at this))
  go_wp2_with (go_at_call 83;refine(Jc _ (hN1.up (by go_grown)) hd1).mono ?_;rintro e w7 ⟨rfl,hx⟩;obtain⟨kb,aQ,aS,aC⟩:=kB hx kb;have hall:=bT (w:=w) hx;have hsz:w.heap.size<=w7.heap.size:=hall.size;clear hx)
  go_ret
  exact⟨aH (by rw[hE.out]),by go_grown⟩
 |false=>
 go_wp2_with (go_at_call 83;refine(Jc _ (hN1.up (by go_grown)) hd1).mono ?_;rintro e w7 ⟨rfl,hx⟩;obtain⟨kb,aQ,aS,aC⟩:=kB hx kb;have hall:=bT (w:=w) hx;have hsz:w.heap.size<=w7.heap.size:=hall.size;have h23:Below w6.heap.size w6 w7:=bT hx;clear hx)
 rw[rounds_succ]
 have KR:=h23.size
 cases t2 with
 |true=>
  have hE:=Lib.hid (Pl.rV H1.out H2.out H3.out N4.out (fun h=>by have:=SL.out.1 h;simp at this))
  go_wp2_with (go_at_call 83;refine(NQ _ (hf.li.up (by go_grown))).mono ?_;rintro e w8 ⟨rfl,hx⟩;obtain⟨kb,aQ,aS,aC⟩:=kB hx kb;have hall:=bT (w:=w) hx;have hsz:w.heap.size<=w8.heap.size:=hall.size;clear hx)
  go_ret
  exact⟨aH (by rw[hE.out]),by go_grown⟩
 |false=>
 go_wp2_with (go_at_call 83;refine(NQ _ (hf.li.up (by go_grown))).mono ?_;rintro e w8 ⟨rfl,hx⟩;obtain⟨kb,aQ,aS,aC⟩:=kB hx kb;have hall:=bT (w:=w) hx;have hsz:w.heap.size<=w8.heap.size:=hall.size;have SN:Below w6.heap.size w6 w8:=bT hx;clear hx)
 rw[rounds_succ]
 have hsz2:=SN.size
 cases t3 with
 |true=>
  have hE:=Lib.hid (Pl.rV H1.out H2.out H3.out N4.out (fun h=>by have:=SL.out.1 h;simp at this))
  go_wp2_with (go_at_call 83;refine(Jd _ (NN.up (by go_grown)) hd3).mono ?_;rintro e w9 ⟨rfl,hx⟩;obtain⟨kb,aQ,aS,aC⟩:=kB hx kb;have hall:=bT (w:=w) hx;have hsz:w.heap.size<=w9.heap.size:=hall.size;clear hx)
  go_ret
  exact⟨aH (by rw[hE.out]),by go_grown⟩
 |false=>
 go_wp2_with (go_at_call 83;refine(Jd _ (NN.up (by go_grown)) hd3).mono ?_;rintro e w9 ⟨rfl,hx⟩;obtain⟨kb,aQ,aS,aC⟩:=kB hx kb;have hall:=bT (w:=w) hx;have hsz:w.heap.size<=w9.heap.size:=hall.size;clear hx)
 rw[rounds_succ]
 have N5:=Lib.hid (SL.out.2 (by simp))
 clear hN1 NN hd1 hd3 U4 U5 U6 Jc NQ Jd h23 SN SL hsz2 KR
 go_wp2
 go_loopw [69] (fun i wr=> ∃(k:Nat),k<=f.st.length∧i=.int .i64 k∧Hid (∀j (h:j<f.st.length),j<k->0<=f.st[j].2∧f.st[j].2<=100000)∧wr.heap[w.heap.size]?=some (.cells (fq A1 A2 A3 A4 c1 c2 c3 c4 f) 28 (0,0))∧Below w.heap.size w wr) (fun i _=>f.st.length-(intOf i).toNat)
 case atStart=>exact⟨0,by omega,rfl,Lib.hid fun j _ h=>by omega,kb,by go_grown⟩
 case round=>
  obtain⟨k,hk,rfl,hg,kb,hall⟩:=hrel
  obtain⟨aQ,aS⟩:=ah kb
  have aC:=(lO kb)
  have hsz:=hall.size
  by_cases hlt:k<f.st.length
  ·obtain⟨b,off,rfl,mQ,q0,q1⟩:=iJ.at2 (hf.st.below hall) hlt
   cases hin:Pl.bQ f.st[k].2 0 100000 with
   | true=>
    have hok:Hid (0<=f.st[k].2∧f.st[k].2<=100000):=Lib.hid (by simpa [Pl.bQ]using hin)
    go_wp2_with (go_at_call 84;refine(dP _ _ _ _).mono ?_;rintro e w' ⟨rfl,rfl⟩)
    go_roundw
    case rel=>exact⟨k+1,by omega,by go_num,Lib.hid fun j h hj=>by
     by_cases e:j=k
     ·subst e;exact hok.out
     ·exact hg.out j h (by omega),(Below.heap_alloc _ _ _ aC).trans kb,by go_grown⟩
    case measure=>first|(simp[intOf];done)|(simp[intOf];omega)
   |false=>
    have hE:=Lib.hid (Pl.jZ H1.out H2.out H3.out N4.out N5.out (Pl.P6 hlt (fun h=>by simp[Pl.bQ,h.1,h.2]at hin)))
    go_wp2_with (go_at_call 84;refine(dP _ _ _ _).mono ?_;rintro e w' ⟨rfl,rfl⟩)
    go_ret
    exact⟨aH (by rw[hE.out]),by go_grown⟩
  ·have hst:=Lib.hid (fun j h=>hg.out j h (by omega))
   clear hg
   go_wp2
   go_loopw [81] (fun i wr=> ∃(k:Nat),k<=f.pa.length∧i=.int .i64 k∧Hid (∀j (h:j<f.pa.length),j<k->Pl.gG f.st.length f.li.length f.pa[j]=true)∧wr.heap[w.heap.size]?=some (.cells (fq A1 A2 A3 A4 c1 c2 c3 c4 f) 28 (0,0))∧Below w.heap.size w wr) (fun i _=>f.pa.length-(intOf i).toNat)
   case atStart=>exact⟨0,by omega,rfl,Lib.hid fun j _ h=>by omega,kb,by go_grown⟩
   case round=>
    obtain⟨k,hk,rfl,hg,kb,hall⟩:=hrel
    obtain⟨aQ,aS⟩:=ah kb
    have aC:=(lO kb)
    have hsz:=hall.size
    by_cases hlt:k<f.pa.length
    ·obtain⟨b,off,rfl,mQ,q0,q1,q2,q3⟩:=om.at4 (hf.pa.below hall) hlt
     have hpi:Pl.gG f.st.length f.li.length f.pa[k]=(Pl.bQ f.pa[k].dH 0 ((f.li.length:Int)-2)&&Pl.bQ f.pa[k].fr 0 ((f.st.length:Int)-1)&&Pl.bQ f.pa[k].till 0 ((f.st.length:Int)-1)):=by
      simp[Pl.gG,Pl.bQ]
     cases i1:Pl.bQ f.pa[k].dH 0 ((f.li.length:Int)-2)with
     |false=>
      have hE:=Lib.hid (Pl.jZ H1.out H2.out H3.out N4.out N5.out (Pl.zL hlt (by rw[hpi,i1];rfl)))
      clear hpi
      go_wp2_with (go_at_call 84;refine(dP _ _ _ _).mono ?_;rintro e w' ⟨rfl,rfl⟩)
      go_ret
      exact⟨aH (by rw[hE.out]),by go_grown⟩
     |true=>
     cases i2:Pl.bQ f.pa[k].fr 0 ((f.st.length:Int)-1)with
     |false=>
      have hE:=Lib.hid (Pl.jZ H1.out H2.out H3.out N4.out N5.out (Pl.zL hlt (by rw[hpi,i1,i2];rfl)))
      clear hpi
      go_wp2_with (go_at_call 84;refine(dP _ _ _ _).mono ?_;rintro e w' ⟨rfl,rfl⟩)
      go_ret
      exact⟨aH (by rw[hE.out]),by go_grown⟩
     |true=>
     cases i3:Pl.bQ f.pa[k].till 0 ((f.st.length:Int)-1)with
     |false=>
      have hE:=Lib.hid (Pl.jZ H1.out H2.out H3.out N4.out N5.out (Pl.zL hlt (by rw[hpi,i1,i2,i3];rfl)))
      clear hpi
      go_wp2_with (go_at_call 84;refine(dP _ _ _ _).mono ?_;rintro e w' ⟨rfl,rfl⟩)
      go_ret
      exact⟨aH (by rw[hE.out]),by go_grown⟩
     | true=>
      have hok:Hid (Pl.gG f.st.length f.li.length f.pa[k]=true):=Lib.hid (by rw[hpi,i1,i2,i3];rfl)
      clear hpi
      go_wp2_with (go_at_call 84;refine(dP _ _ _ _).mono ?_;rintro e w' ⟨rfl,rfl⟩)
      go_roundw
      case rel=>exact⟨k+1,by omega,by go_num,Lib.hid fun j h hj=>by
       by_cases e:j=k
       ·subst e;exact hok.out
       ·exact hg.out j h (by omega),(Below.heap_alloc _ _ _ aC).trans kb,by go_grown⟩
      case measure=>first|(simp[intOf];done)|(simp[intOf];omega)
    ·have hpa:=Lib.hid (fun j h=>hg.out j h (by omega))
     have N6:=Lib.hid (Pl.P7 hst.out hpa.out)
     clear hg hst
     go_wp2
     go_loopw [12] (fun i wr=> ∃(k:Nat),1<=k∧k<=f.st.length∧i=.int .i64 k∧Hid (∀j (h:j+1<f.st.length),j+1<k->f.st[j].2<f.st[j+1].2)∧wr.heap[w.heap.size]?=some (.cells (fq A1 A2 A3 A4 c1 c2 c3 c4 f) 28 (0,0))∧Below w.heap.size w wr) (fun i _=>f.st.length-(intOf i).toNat)
     case atStart=>exact⟨1,by omega,by omega,rfl,Lib.hid fun j _ h=>by omega,kb,by go_grown⟩
     case round=>
      obtain⟨k,hk1,hk,rfl,hg,kb,hall⟩:=hrel
      obtain⟨aQ,aS⟩:=ah kb
      have aC:=(lO kb)
      have hsz:=hall.size
      by_cases hlt:k<f.st.length
      ·obtain⟨m,hmk⟩: ∃m,k=m+1:=⟨k-1,by omega⟩
       have QF:m<f.st.length:=by omega
       obtain⟨b,off,hA,mQ,q0,q1⟩:=iJ.at2 (hf.st.below hall) hlt
       obtain⟨b',off',hA',_,r0,r1⟩:=iJ.at2 (hf.st.below hall) QF
       rw[hA]at hA'
       obtain⟨rfl,rfl⟩:b=b'∧off=off':=by simpa using hA'
       clear hA' q0 r0
       subst hA
       have hc0:wr.cell? ⟨w.heap.size,0,none⟩=some (.slice (some ⟨b,off,none⟩) f.st.length c1):=aQ 0
       have e1:IntKind.i64.wrap ((k:Int)-1)=(m:Int):=by rw[IntWalk.i64_in _ (by omega)];omega
       have e2:(0:Int)<=(m:Int):=by omega
       have e4:(m:Int)<(f.st.length:Int):=by omega
       have e5:(0:Int)<=(k:Int):=by omega
       have e6:(k:Int)<(f.st.length:Int):=by omega
       have Ic:Hid (m+1<f.st.length):=Lib.hid (by omega)
       have hbad:Hid (f.st[k].2<=f.st[m].2->Pl.aR f=30):=Lib.hid fun h=>Pl.qd H1.out H2.out H3.out N4.out N5.out N6.out (Pl.Ia (k:=m) Ic.out (by subst hmk;exact h))
       have hgood:Hid (f.st[m].2<f.st[k].2-> ∀j (h:j+1<f.st.length),j+1<k+1->f.st[j].2<f.st[j+1].2):=Lib.hid fun h j hj hjk=>by
        by_cases e:j+1=k
        ·subst hmk
         obtain rfl:j=m:=by omega
         exact h
        ·exact hg.out j hj (by omega)
       obtain⟨x,hx⟩: ∃x,f.st[k].2=x:=⟨_,rfl⟩
       obtain⟨y,hy⟩: ∃y,f.st[m].2=y:=⟨_,rfl⟩
       rw[hx]at q1 hbad hgood
       rw[hy]at r1 hbad hgood
       have X4:=Lib.hid hmk
       clear hx hy hg hmk
       by_cases hxy:x<=y
       ·go_wp2
        go_region_held3 (fun W=>W.cell? ⟨w.heap.size,0,none⟩=some (.slice (some ⟨b,off,none⟩) f.st.length c1)∧W.cell? ⟨b,off+m*2+1,none⟩=some (.int .i64 y)∧W.cell? ⟨b,off+k*2+1,none⟩=some (.int .i64 x)) (exact⟨hc0,r1,q1⟩) (fail)
        all_goals go_wp2
        all_goals go_ret
        all_goals exact⟨aH (by rw[hbad.out hxy]),by first|(go_grown;done)|exact below_drewN hall _⟩
       ·have hxy':y<x:=by omega
        go_wp2
        go_region_held3 (fun W=>W.cell? ⟨w.heap.size,0,none⟩=some (.slice (some ⟨b,off,none⟩) f.st.length c1)∧W.cell? ⟨b,off+m*2+1,none⟩=some (.int .i64 y)∧W.cell? ⟨b,off+k*2+1,none⟩=some (.int .i64 x)) (exact⟨hc0,r1,q1⟩) (fail)
        all_goals go_wp2
        all_goals (
         go_roundw
         case rel=>exact⟨k+1,by omega,by omega,by go_num,Lib.hid (hgood.out hxy'),kb,by first|(go_grown;done)|exact below_drewN hall _⟩
         case measure=>first|(simp[intOf];done)|(simp[intOf];omega))
      ·have U7:=Lib.hid (fun j (h:j+1<f.st.length)=>hg.out j h (by omega))
       clear hg
       have Cv: ∀(fn:Fn) (first cap:Array Value) (w:World),(Instr.makeFunc fn first cap).run prog w=.ok (.func fn first cap) w:=fun _ _ _ _=>rfl
       go_wp2
       go_loopw [138] (fun i wr=> ∃(k:Nat),k<=f.pa.length∧i=.int .i64 k∧Hid (Pl.apart [] (f.pa.take k)=true)∧wr.heap[w.heap.size]?=some (.cells (fq A1 A2 A3 A4 c1 c2 c3 c4 f) 28 (0,0))∧Below w.heap.size w wr) (fun i _=>f.pa.length-(intOf i).toNat)
       case atStart=>exact⟨0,by omega,rfl,Lib.hid rfl,kb,by go_grown⟩
       case round=>
        obtain⟨k,hk,rfl,hg,kb,hall⟩:=hrel
        obtain⟨aQ,aS⟩:=ah kb
        have aC:=(lO kb)
        have hsz:=hall.size
        by_cases hlt:k<f.pa.length
        ·obtain⟨b,off,hA,mQ,q0,q1,q2,q3⟩:=om.at4 (hf.pa.below hall) hlt
         by_cases hft:f.pa[k].fr<f.pa[k].till
         ·obtain⟨B,hB⟩: ∃B,(f.pa.take k).any (Pl.over f.pa[k])=B:=⟨_,rfl⟩
          have hS:Hid (∀q∈f.pa,Pl.gG 12 10 q=true):=Lib.hid fun q hq=>by
           obtain⟨j,hj,rfl⟩:=List.getElem_of_mem hq
           have:=hpa.out j hj
           unfold Pl.gG at this ⊢
           simp at this ⊢
           omega
          have htk:om wr w.heap.size A3 (f.pa.take k):=CS (hf.pa.below hall) k
          have ov:=fun(W:World) (bp:Nat) (hW:om W W.heap.size A3 (f.pa.take k)) (hb:W.heap[bp]?=some (.cells #[.string f.pa[k].name,.int .i64 f.pa[k].dH,.int .i64 f.pa[k].fr,.int .i64 f.pa[k].till] 112 (0,0)))=>NP A3 c3 (f.pa.take k) bp f.pa[k] B W hW (by rw[List.length_take];omega) hb (hS.out _ (List.getElem_mem hlt)) (fun q hq=>hS.out q (List.mem_of_mem_take hq)) (Lib.hid hB)
          rw[List.length_take,Nat.min_eq_left (by omega)]at ov
          have WA:=Lib.hid hB
          have hcp:=hc.pa
          clear hB
          subst hA
          cases B with
          |true=>
           have hE:=Lib.hid (Pl.qd H1.out H2.out H3.out N4.out N5.out N6.out (Pl.rW hlt (fun h=>by have:=h.2;rw[WA.out]at this;cases this)))
           go_wp2_with (go_at_call 87;refine(ov _ _ ((htk.below (by go_grown)).more (by go_size)) (heap_alloc_new _ _)).mono ?_;rintro e w3 ⟨rfl,hx⟩;have hall:=bT (w:=w) hx)
           go_ret
           exact⟨aH (by rw[hE.out]),by go_grown⟩
          |false=>
           have hap:=Lib.hid (Pl.wN hlt hg.out hft WA.out)
           go_wp2_with (go_at_call 87;refine(ov _ _ ((htk.below (by go_grown)).more (by go_size)) (heap_alloc_new _ _)).mono ?_;rintro e w3 ⟨rfl,hx⟩;have kb:=(hx.block w.heap.size (by first|exact aC|(simp;omega))).trans (by first|exact kb|exact(Below.heap_alloc _ _ _ aC).trans kb);have hall:=bT (w:=w) hx)
           go_roundw
           case rel=>exact⟨k+1,by omega,by go_num,hap,kb,by go_grown⟩
           case measure=>first|(simp[intOf];done)|(simp[intOf];omega)
         ·have hE:=Lib.hid (Pl.qd H1.out H2.out H3.out N4.out N5.out N6.out (Pl.rW hlt (fun h=>hft h.1)))
          subst hA
          go_wp2
          go_ret
          exact⟨aH (by rw[hE.out]),by go_grown⟩
        ·have hap:Pl.apart [] f.pa=true:=by
          have:=hg.out
          rw[List.take_of_length_le (by omega)]at this
          exact this
         have hE:=Lib.hid (Pl.CY H1.out H2.out H3.out N4.out N5.out N6.out (Pl.P8 U7.out hap))
         clear hap
         go_wp2
         go_ret
         exact⟨aH (by rw[hE.out]),by go_grown⟩
theorem A8 (w:World)(hf:bB w w.heap.size A1 A2 A3 A4 f)(hm:Small f)(hc:dY c1 c2 c3 c4 f):
  Calls prog 22 #[.agg (fq A1 A2 A3 A4 c1 c2 c3 c4 f)] w fun e w'=>e=.returned (.int .i64 (Pl.aR f))∧Below w.heap.size w w':=by
 by_cases h1:f.N1
 ·by_cases h2:f.N2
  ·by_cases h3:Pl.vars f.va=0
   ·exact vC A1 A2 A3 A4 c1 c2 c3 c4 f w hf hm hc h1 h2 h3
   ·exact vB A1 A2 A3 A4 c1 c2 c3 c4 f w hf hm hc h1 h2 h3
  ·exact wQ A1 A2 A3 A4 c1 c2 c3 c4 f w hf hm hc h1 h2
 ·exact wP A1 A2 A3 A4 c1 c2 c3 c4 f w hf hm hc h1
theorem bX (E:Int)(w:World)(hE:Hid (Pl.aR f=E))(hf:bB w w.heap.size A1 A2 A3 A4 f)(hm:Small f)(hc:dY c1 c2 c3 c4 f):
  Calls prog 22 #[.agg (fq A1 A2 A3 A4 c1 c2 c3 c4 f)] w fun e w'=>e=.returned (.int .i64 E)∧Below w.heap.size w w':=by
 have:=A8 A1 A2 A3 A4 c1 c2 c3 c4 f w hf hm hc
 rw[hE.out]at this
 exact this
theorem A9 {α:Type}(enc:α->List Value)(size:Nat)(hsz: ∀x,(enc x).length=size){l:List α}{k:Nat}{x:α}(hk:l[k]?=some x){j:Nat}{v:Value}(hv:(enc x)[j]?=some v):(l.flatMap enc)[k*size+j]?=some v:=by
 induction l generalizing k with
 |nil=>simp at hk
 | cons y l ih=>
  have hj:j<size:=by rw[<-hsz x];exact(List.getElem?_eq_some_iff.1 hv).1
  rw[List.flatMap_cons]
  cases k with
  |zero=>
   simp at hk
   subst hk
   rw[List.getElem?_append_left (by rw[hsz];omega)]
   simpa using hv
  |succ k=>
   have h1:=ih (k:=k) (by simpa using hk)
   rw[List.getElem?_append_right (by rw[hsz,Nat.add_mul];omega),hsz]
   rw[show(k+1)*size+j-size=k*size+j by rw[Nat.add_mul];omega]
   exact h1
theorem oL {α:Type}(enc:α->List Value)(size:Nat)(hsz: ∀x,(enc x).length=size)(l:List α):(l.flatMap enc).length=l.length*size:=by
 induction l with
 |nil=>simp
 |cons y l ih=>rw[List.flatMap_cons,List.length_append,ih,hsz,List.length_cons,Nat.add_mul];omega
structure Lay {α:Type}(enc:α->List Value)(ST ET:TypeId)(z:Value)(size bytes:Nat):Prop where
 ht:prog.underlying ST=some (.slice ET)
 hi:(prog.info? ET).map (fun i=>(i.zero,i.size,i.bytes))=some (some z,size,bytes)
 hz:z.cells.size=size
 hs:0<size
 henc: ∀x,(enc x).length=size
 hone: ∀x,∀v∈enc x,v.oneCell'=true
section
variable {α : Type} {enc : α -> List Value} {ST ET : TypeId} {z : Value} {size bytes : Nat}
theorem kN (L:Lay enc ST ET z size bytes){n₀ k:Nat}{w1:World}{v:Value}{l:List α}(hr:w1.ownsRow n₀ ET size v k (l.flatMap enc))(r:List α)(m:Nat)(hm:r.length=m+1)(cs:Array Value)(hcs:cs.toList=r.flatMap enc)
  (h63:k+(m+1)<=maxLen) (hb:(k+(m+1))*bytes<=140737488355328) (hn:n₀<=w1.heap.size):
  ∃g' cap' w2,(Builtin.append_ #[ST,ST] ST #[v,.slice (some ⟨w1.heap.size,0,none⟩) (m+1) (m+1)]).run prog (w1.alloc (.cells cs ET))=.ok (.slice (some ⟨g',0,none⟩) (k+(m+1)) cap') w2∧
   w2.ownsRow n₀ ET size (.slice (some ⟨g',0,none⟩) (k+(m+1)) cap') (k+(m+1)) ((l++r).flatMap enc)∧Below n₀ w1 w2:=by
 obtain⟨i0,hi0,hz0,hz1,hz2⟩:=info_parts L.hi
 have hcell: ∀j u,(r.flatMap enc)[j]?=some u->(w1.alloc (.cells cs ET)).cell? ((⟨w1.heap.size,0,none⟩:Addr).add j)=some u:=by
  intro j u hj
  rw[Go.WideShapes.add_plain,Nat.zero_add,(ah (World.alloc_heap_new w1 (.cells cs ET))).1,<-Array.getElem?_toList,hcs]
  exact hj
 have hone: ∀u∈r.flatMap enc,u.oneCell'=true:=by
  intro u hu
  obtain⟨x,_,hx⟩:=List.mem_flatMap.1 hu
  exact L.hone x u hx
 obtain⟨v',w2,hrun,hown,hgrow,hn2⟩:=run_append_own (P:=prog) (w:=w1.alloc (.cells cs ET)) n₀ ST ST ET i0 _ size bytes L.ht hi0 hz0 hz1 hz2 L.hz L.hs v k (l.flatMap enc) (hr.alloc _) ⟨w1.heap.size,0,none⟩ (m+1) (m+1) (r.flatMap enc)
  (by rw[oL enc size L.henc,hm]) hcell hone h63 hb (by simp only[World.size_alloc];omega)
 obtain⟨g',cap',rfl⟩:=ownsRow_succ (k:=k+m) hown
 refine⟨g',cap',w2,hrun,by rw[List.flatMap_append];exact hown,?_⟩
 refine(((Below.refl n₀ w1).alloc hn _).grown hgrow (by simp only[World.size_alloc];omega) fun j ej=> ?_)
 exact((hr.alloc (.cells cs ET)).lt j ej).1
theorem Je (L:Lay enc ST ET z size bytes){n₀ k:Nat}{w:World}{v:Value}{l:List α}(h:w.ownsRow n₀ ET size v k (l.flatMap enc)):k=l.length:=by
 have:=h.1
 rw[oL enc size L.henc]at this
 exact(Nat.eq_of_mul_eq_mul_right L.hs this).symm
theorem dQ (L:Lay enc ST ET z size bytes){n₀:Nat}{w:World}{v:Value}{l:List α}(h:w.ownsRow n₀ ET size v l.length (l.flatMap enc)): ∃A c,v=.slice A l.length c∧Seg enc size w w.heap.size A l∧l.length<=c∧From n₀ A:=by
 rcases h.2 with ⟨h2,h3⟩|⟨g,cap,cur,h2,h3,_,hle,_⟩
 ·exact⟨none,0,by rw[h2,h3],.inl (List.length_eq_zero_iff.1 h3),by omega,by intro a ha;cases ha⟩
 ·refine⟨some ⟨g,0,none⟩,cap,h2,.inr ⟨g,0,rfl,?_,fun k x hx j v' hv=> ?_⟩,hle,by intro a ha;cases ha;exact h3⟩
  ·exact(h.lt g (by rw[h2];rfl)).2
  ·have hf:=A9 enc size L.henc hx hv
   have:=h.cells (g:=g) (by rw[h2];rfl) (k*size+j) v' hf
   rw[Go.WideShapes.add_plain]at this
   rw[Nat.add_assoc,this]
end
theorem tX :Lay gP 51 99 (.agg (i4 0 0 0 0)) 4 32:=
 ⟨underlying51,by kernel_rfl,rfl,by decide,fun _=>rfl,fun x v hv=>by simp[gP]at hv;rcases hv with rfl|rfl|rfl|rfl<;>rfl⟩
theorem gy :Lay fU 24 9 (.string ⟨#[]⟩) 1 16:=
 ⟨underlying24,by kernel_rfl,rfl,by decide,fun _=>rfl,fun x v hv=>by simp[fU]at hv;subst hv;rfl⟩
theorem vS :Lay nA 23 50 (.agg #[.string ⟨#[]⟩,.int .i64 0]) 2 24:=
 ⟨underlying23,by kernel_rfl,rfl,by decide,fun _=>rfl,fun x v hv=>by simp[nA]at hv;rcases hv with rfl|rfl<;>rfl⟩
theorem vT :Lay mG 25 112 (.agg #[.string ⟨#[]⟩,.int .i64 0,.int .i64 0,.int .i64 0]) 4 40:=
 ⟨underlying25,by kernel_rfl,rfl,by decide,fun _=>rfl,fun x v hv=>by simp[mG]at hv;rcases hv with rfl|rfl|rfl|rfl<;>rfl⟩
theorem vU :Lay oF 26 114 (.agg (i2 0 0)) 2 16:=
 ⟨underlying26,by kernel_rfl,rfl,by decide,fun _=>rfl,fun x v hv=>by simp[oF]at hv;rcases hv with rfl|rfl<;>rfl⟩
namespace Pl
variable (A1 A2 A3 A4 : Option Addr) (c1 c2 c3 c4 : Nat) (f : Pl.aL)
def wR (n:Nat):List Bd:=(List.range n).flatMap fun p=>AP (p+1)
def A_ (S l s:Nat):List Bd:=(List.range s).map fun s=>⟨eP S (l+1) s,eP S l s,0,0⟩
def ze (S l:Nat):List Bd:=(List.range l).flatMap fun l=>A_ S l S
theorem zO (S L:Nat):nature S L=wR (L*S)++ze S (L-1):=rfl
theorem zP (n:Nat):wR (n+1)=wR n++[⟨0,n+1,100000,0⟩,⟨n+1,0,0,0⟩]:=by unfold wR;rw[List.range_succ,List.flatMap_append];simp[AP]
theorem Jf (S l s:Nat):A_ S l (s+1)=A_ S l s++[⟨eP S (l+1) s,eP S l s,0,0⟩]:=by unfold A_;rw[List.range_succ,List.map_append];rfl
theorem zQ (S l:Nat):ze S (l+1)=ze S l++A_ S l S:=by unfold ze;rw[List.range_succ,List.flatMap_append];simp
theorem KS (n:Nat):(wR n).length=2*n:=by
 induction n with
 |zero=>rfl
 |succ n ih=>rw[zP,List.length_append,ih];simp;omega
theorem KT (S l s:Nat):(A_ S l s).length=s:=by unfold A_;simp
theorem KU (S l:Nat):(ze S l).length=l*S:=by
 induction l with
 |zero=>simp[ze]
 |succ l ih=>rw[zQ,List.length_append,ih,KT,Nat.add_mul];omega
theorem FD (S L:Nat):(nature S L).length=2*(L*S)+(L-1)*S:=by rw[zO,List.length_append,KS,KU]
end Pl
attribute [-go_sem] Builtin.append_
def KV {α:Type}(enc:α->List Value)(size:Nat)(l:List α)(w:World)(e:Ending)(w':World):Prop:= ∃A c,e=.returned (.slice A l.length c)∧Seg enc size w' w'.heap.size A l∧l.length<=c∧From w.heap.size A∧Below w.heap.size w w'
theorem mR (N:Nat)(w:World)(h1:f.li.length<=1000)(h2:f.st.length<=100000)(hN:Hid (((f.li.length:Nat):Int)*(f.st.length:Nat)=(N:Int))):
  Calls prog 106 #[.agg (fq A1 A2 A3 A4 c1 c2 c3 c4 f)] w fun e w'=>e=.returned (.int .i64 (1+(N:Int)))∧Below w.heap.size w w':=by
 have:=CR A1 A2 A3 A4 c1 c2 c3 c4 f w h1 h2
 rw[hN.out]at this
 exact this
theorem NR {n₀ p:Nat}{w1:World}{v:Value}(hr:w1.ownsRow n₀ 99 4 v (2*p) ((Pl.wR p).flatMap gP))(hp:p<=100000)(hn:n₀<=w1.heap.size):
  ∃g' cap' w2,(Builtin.append_ #[51,51] 51 #[v,.slice (some ⟨w1.heap.size,0,none⟩) 2 2]).run prog (w1.alloc (.cells (i8 0 ((p:Int)+1) 100000 0 ((p:Int)+1) 0 0 0) 99))=.ok (.slice (some ⟨g',0,none⟩) (2*p+2) cap') w2∧
   w2.ownsRow n₀ 99 4 (.slice (some ⟨g',0,none⟩) (2*p+2) cap') (2*(p+1)) ((Pl.wR (p+1)).flatMap gP)∧Below n₀ w1 w2:=by
 rw[Pl.zP]
 exact kN tX hr [⟨0,p+1,100000,0⟩,⟨p+1,0,0,0⟩] 1 rfl _ (by simp[gP]) (by unfold maxLen;omega) (by omega) hn
theorem NS {n₀ k:Nat}{w1:World}{v:Value}{l:List Pl.Bd}(b:Pl.Bd)(hr:w1.ownsRow n₀ 99 4 v k (l.flatMap gP))(hk:k<=100000)(hn:n₀<=w1.heap.size)(x y:Int)(hx:(b.fr:Int)=x)(hy:(b.till:Int)=y)(hm:b.most=0)(hr0:b.record=0):
  ∃g' cap' w2,(Builtin.append_ #[51,51] 51 #[v,.slice (some ⟨w1.heap.size,0,none⟩) 1 1]).run prog (w1.alloc (.cells (i4 x y 0 0) 99))=.ok (.slice (some ⟨g',0,none⟩) (k+1) cap') w2∧
   w2.ownsRow n₀ 99 4 (.slice (some ⟨g',0,none⟩) (k+1) cap') (k+1) ((l++[b]).flatMap gP)∧Below n₀ w1 w2:=
 kN tX hr [b] 0 rfl _ (by simp[gP,hx,hy,hm,hr0]) (by unfold maxLen;omega) (by omega) hn
theorem C8 (w:World) (hS:f.st.length<=12) (hL1:1<=f.li.length) (hL:f.li.length<=10):
  Calls prog 89 #[.agg (fq A1 A2 A3 A4 c1 c2 c3 c4 f)] w (KV gP 4 (Pl.nature f.st.length f.li.length) w):=by
 obtain⟨N,hN⟩: ∃N,f.li.length*f.st.length=N:=⟨_,rfl⟩
 have hNb:N<=120:=by rw[<-hN];have:=Nat.mul_le_mul hL hS;omega
 have HN:Hid (((f.li.length:Nat):Int)*(f.st.length:Nat)=(N:Int)):=Lib.hid (by rw[<-hN];simp)
 have HM:=Lib.hid hN
 clear hN
 have kb:=heap_alloc_new w (.cells (fq A1 A2 A3 A4 c1 c2 c3 c4 f) 28)
 have hall:Below w.heap.size w (w.alloc (.cells (fq A1 A2 A3 A4 c1 c2 c3 c4 f) 28)):=by go_grown
 go_enter func89,ntmps89
 go_wp2
 go_loopw [3,4] (fun o i wr=> ∃(p:Nat),p<=N∧i=.int .i64 ((p:Int)+1)∧wr.ownsRow (w.heap.size+1) 99 4 o (2*p) ((Pl.wR p).flatMap gP)∧wr.heap[w.heap.size]?=some (.cells (fq A1 A2 A3 A4 c1 c2 c3 c4 f) 28 (0,0))∧Below w.heap.size w wr) (fun _ i _=>200-(intOf i).toNat)
 case atStart=>exact⟨0,by omega,rfl,World.ownsRow_nil _ _ _ _,kb,hall⟩
 case round=>
  obtain⟨p,hp,rfl,hown,kb,hall⟩:=hrel
  obtain⟨aQ,aS⟩:=ah kb
  have aC:=(lO kb)
  have hsz:=hall.size
  by_cases hlt:p<N
  ·go_wp2_with (go_at_call 106;refine(mR A1 A2 A3 A4 c1 c2 c3 c4 f N _ (by omega) (by omega) HN).mono ?_;rintro e w1 ⟨rfl,hx⟩;obtain⟨kb,aQ,aS,aC⟩:=kB hx kb;have hall:=bT (w:=w) hx;have hsz:w.heap.size<=w1.heap.size:=hall.size;have h0:Below wr.heap.size wr w1:=bT hx;obtain⟨g',cap',w2,hrun,hown2,hb2⟩:=NR (own_below hown h0) (by omega) (by omega);clear hx)
   exact⟨⟨p+1,by omega,by simp,hown2,(hb2.block w.heap.size (by omega)).trans kb,hall.trans (hb2.mono (by omega))⟩,by simp[intOf];omega⟩
  ·obtain rfl:p=N:=by omega
   go_wp2_with (go_at_call 106;refine(mR A1 A2 A3 A4 c1 c2 c3 c4 f p _ (by omega) (by omega) HN).mono ?_;rintro e w1 ⟨rfl,hx⟩;obtain⟨kb,aQ,aS,aC⟩:=kB hx kb;have hall:=bT (w:=w) hx;have hsz:w.heap.size<=w1.heap.size:=hall.size;have h0:Below wr.heap.size wr w1:=bT hx;have hown:=own_below hown h0;clear hx)
   clear aQ aS aC
   obtain⟨aQ,aS⟩:=ah kb
   go_loopw [3,24] (fun o i wr=> ∃(l k:Nat),l+1<=f.li.length∧i=.int .i64 l∧k<=240+12*l∧wr.ownsRow (w.heap.size+1) 99 4 o k ((Pl.wR p++Pl.ze f.st.length l).flatMap gP)∧wr.heap[w.heap.size]?=some (.cells (fq A1 A2 A3 A4 c1 c2 c3 c4 f) 28 (0,0))∧Below w.heap.size w wr) (fun _ i _=>f.li.length-(intOf i).toNat)
   case atStart=>exact⟨0,2*p,by omega,rfl,by omega,by simpa [Pl.ze]using hown,kb,hall⟩
   case round=>
    obtain⟨l,k,hl,rfl,hk,hown,kb,hall⟩:=hrel
    obtain⟨aQ,aS⟩:=ah kb
    have aC:=(lO kb)
    have hsz:=hall.size
    by_cases hlt:l+1<f.li.length
    ·have e1:(l:Int)<(f.li.length:Int)-1:=by omega
     go_wp2
     go_loopw [3,30] (fun o i wr=> ∃(s k:Nat),s<=f.st.length∧i=.int .i64 s∧k<=240+12*l+s∧wr.ownsRow (w.heap.size+1) 99 4 o k ((Pl.wR p++(Pl.ze f.st.length l++Pl.A_ f.st.length l s)).flatMap gP)∧wr.heap[w.heap.size]?=some (.cells (fq A1 A2 A3 A4 c1 c2 c3 c4 f) 28 (0,0))∧Below w.heap.size w wr) (fun _ i _=>f.st.length-(intOf i).toNat)
     case atStart=>exact⟨0,k,by omega,rfl,by omega,by simpa [Pl.A_]using hown,kb,hall⟩
     case round=>
      obtain⟨s,k,hs,rfl,hk,hown,kb,hall⟩:=hrel
      obtain⟨aQ,aS⟩:=ah kb
      have aC:=(lO kb)
      have hsz:=hall.size
      by_cases hlts:s<f.st.length
      ·have HX:Hid ((((Pl.eP f.st.length (l+1) s:Nat):Int)=1+((l:Int)+1)*(f.st.length:Int)+s)∧(((Pl.eP f.st.length l s:Nat):Int)=1+(l:Int)*(f.st.length:Int)+s)):=Lib.hid (by unfold Pl.eP;simp)
       have hn1:w.heap.size+1<=wr.heap.size:=aC
       have HC:=fun W (hW:Below wr.heap.size wr W)=>NS (w1:=W) ⟨Pl.eP f.st.length (l+1) s,Pl.eP f.st.length l s,0,0⟩ (own_below hown hW) (by omega) (Nat.le_trans hn1 hW.size) _ _ HX.out.1 HX.out.2 rfl rfl
       have e2:IntKind.i64.wrap ((l:Int)+1)=(l:Int)+1:=IntWalk.i64_in _ (by omega)
       go_wp2
       go_region_held3 (fun W=> ∀j,W.cell? ⟨w.heap.size,j,none⟩=((fq A1 A2 A3 A4 c1 c2 c3 c4 f):Array Value)[j]?) (first|exact aQ|exact SQ|exact fun j=>(World.cell?_of_block (Below.heap_alloc _ _ _ aC)).trans (aQ j)) (first
        |(go_at_call 110;refine(rT A1 A2 A3 A4 c1 c2 c3 c4 f _ _ _ (by omega) (by omega) (by omega) (by omega) (by omega)).mono ?_;rintro e w2 ⟨rfl,hx⟩;obtain⟨kb,aQ,aS,aC⟩:=kB hx kb;have hall:=bT (w:=w) hx;have hsz:w.heap.size<=w2.heap.size:=hall.size;have h0:Below wr.heap.size wr w2:=bT hx;obtain⟨g',cap',w3,hrun,hown3,hb3⟩:=HC w2 h0;have hs0:=h0.size;have Sb:=(hb3.block w.heap.size (by omega)).trans kb;obtain⟨SQ,WB⟩:=ah Sb;clear hx))
       all_goals go_wp2
       all_goals exact⟨⟨s+1,k+1,by omega,by simp,by omega,by rw[Pl.Jf,<-List.append_assoc,<-List.append_assoc];rw[<-List.append_assoc]at hown3;exact hown3,Sb,hall.trans (hb3.mono (by omega))⟩,by simp[intOf];omega⟩
      ·obtain rfl:s=f.st.length:=by omega
       rw[<-Pl.zQ]at hown
       go_wp2
       exact⟨⟨l+1,k,by omega,by simp,by omega,hown,kb,hall⟩,by simp[intOf];omega⟩
    ·have hle:Hid (l=f.li.length-1):=Lib.hid (by omega)
     have U8:Hid (Pl.wR p++Pl.ze f.st.length l=Pl.nature f.st.length f.li.length):=Lib.hid (by rw[Pl.zO,HM.out,hle.out])
     rw[U8.out]at hown
     obtain rfl:=Je tX hown
     obtain⟨A',c',hv,hN,hc',hF⟩:=dQ tX hown
     subst hv
     have e1: ¬(l:Int)<(f.li.length:Int)-1:=by omega
     go_wp2
     go_ret
     exact⟨A',c',rfl,hN,hc',fun a ha=>Nat.le_of_succ_le (hF a ha),hall⟩
theorem Jg (w:World)(hf:bB w w.heap.size A1 A2 A3 A4 f)(hm:Small f)(hc:dY c1 c2 c3 c4 f)(h:Pl.aR f=0):
  Calls prog 26 #[.agg (fq A1 A2 A3 A4 c1 c2 c3 c4 f)] w fun e w'=> ∃A c,e=.returned (.tuple #[.slice A (Pl.nature f.st.length f.li.length).length c,.int .i64 0])∧R_ w' w'.heap.size A (Pl.nature f.st.length f.li.length)∧From w.heap.size A∧Below w.heap.size w w':=by
 have kb:=heap_alloc_new w (.cells (fq A1 A2 A3 A4 c1 c2 c3 c4 f) 28)
 have hok:=Pl.iV h
 have b0:=hok.Wx
 have b1:=hok.KD
 have b2:=hok.I9
 have HE:=Lib.hid h
 clear h hok
 go_enter func26,ntmps26
 go_wp2_with (first
  |(go_at_call 22;refine(bX A1 A2 A3 A4 c1 c2 c3 c4 f 0 _ HE (hf.up (by go_grown)) hm hc).mono ?_;rintro e w1 ⟨rfl,hx⟩;obtain⟨kb,aQ,aS,aC⟩:=kB hx kb;have hall:=bT (w:=w) hx;have hsz:w.heap.size<=w1.heap.size:=hall.size;clear hx)
  |(go_at_call 89;refine(C8 A1 A2 A3 A4 c1 c2 c3 c4 f _ b2 b0 b1).mono ?_;rintro e w2 ⟨A',c',rfl,hN,hc',hF,hx⟩;obtain⟨kb,aQ,aS,aC⟩:=kB hx kb;have hall:=bT (w:=w) hx;have hsz:w.heap.size<=w2.heap.size:=hall.size;clear hx))
 go_ret2
 exact⟨A',c',rfl,hN,fun a ha=>by have:=hF a ha;omega,by go_grown⟩
end Go.Proofs
namespace Go.Proofs
open Tryz
variable (A1 A2 A3 A4 : Option Addr) (c1 c2 c3 c4 : Nat) (f : Pl.aL)
namespace Pl
variable (A1 A2 A3 A4 : Option Addr) (c1 c2 c3 c4 : Nat) (f : Pl.aL)
def FE (l:List Bd)(y:List Int):Bool:= !(l.any fun b=>decide (b.most<zG y b.till-zG y b.fr))
def qg (y:List Int):Bool:= !(y.any fun n=> !bQ n 0 100000)
theorem C9 {y:List Int}:qg y=true↔ ∀n∈y,0<=n∧n<=100000:=by
 unfold qg
 rw[Bool.not_eq_true',List.any_eq_false]
 simp[bQ]
def gW (S L:Nat)(y:List Int):Bool:=decide (y.length=1+L*S)&&(decide (zG y 0=0)&&(qg y&&FE (nature S L) y))
theorem FH {S L:Nat}: ∀b∈nature S L,b.fr<1+L*S∧b.till<1+L*S∧0<=b.most∧b.most<=100000:=by
 intro b hb
 unfold nature at hb
 rcases List.mem_append.1 hb with h|h
 ·obtain⟨p,hp,hb⟩:=List.mem_flatMap.1 h
  have:=List.mem_range.1 hp
  simp only[AP,List.mem_cons,List.not_mem_nil,or_false]at hb
  rcases hb with rfl|rfl<;>simp<;>omega
 ·obtain⟨l,hl,hb⟩:=List.mem_flatMap.1 h
  obtain⟨s,hs,rfl⟩:=List.mem_map.1 hb
  have h1:=List.mem_range.1 hl
  have h2:=List.mem_range.1 hs
  exact⟨rF (by omega) h2,rF (by omega) h2,by simp,by simp⟩
theorem qh {y:List Int}{k:Nat}(h:k<y.length):zG y k=y[k]:=by unfold zG;rw[List.getElem?_eq_getElem h];rfl
def hasB (S:Nat)(y:List Int)(s o:Int)(p:oz):Bool:=
 decide (p.fr<=s)&&(decide (s<p.till)&&(decide (zG y (eP S p.dH.toNat s.toNat)<=o)&&decide (o<zG y (eP S (p.dH.toNat+1) s.toNat))))
end Pl
open RowKit
theorem NT (A:Option Addr)(c Uq:Nat)(y:List Int)(b:Pl.Bd)(w:World)(hb:w.heap[Uq]?=some (.cells #[.slice A y.length c] 62 (0,0)))(hy:Ints w w.heap.size A y)
  (h1:b.fr<y.length) (h2:b.till<y.length) (hr: ∀n∈y,0<=n∧n<=100000):
  Calls prog 175 #[.agg (i4 (b.fr:Int) (b.till:Int) b.most b.record),.pointer (some ⟨Uq,0,none⟩)] w fun e w'=>e=.returned (.bool (decide (b.most<Pl.zG y b.till-Pl.zG y b.fr)))∧Below w.heap.size w w':=by
 obtain⟨f,t,m,r⟩:=b
 simp only at h1 h2
 obtain⟨g,off,hA,hg,q1⟩:=Ints.gY hy h1
 obtain⟨g',off',hA',_,q2⟩:=Ints.gY hy h2
 rw[hA]at hA'
 obtain⟨rfl,rfl⟩:g=g'∧off=off':=by simpa using hA'
 clear hA'
 subst hA
 obtain⟨r0,r1⟩:=hr y[f] (List.getElem_mem h1)
 obtain⟨r2,r3⟩:=hr y[t] (List.getElem_mem h2)
 have HV:Hid (decide (m<y[t]-y[f])=decide (m<Pl.zG y t-Pl.zG y f)):=Lib.hid (by rw[Pl.qh h1,Pl.qh h2])
 obtain⟨u,hu⟩: ∃u,y[f]=u:=⟨_,rfl⟩
 obtain⟨v,hv⟩: ∃v,y[t]=v:=⟨_,rfl⟩
 rw[hu]at q1 r0 r1 HV
 rw[hv]at q2 r2 r3 HV
 clear hu hv hr hy
 obtain⟨hcb,ru⟩:=ah hb
 have hlt:=(lO hb)
 have kb:=heap_alloc_new w (.cells (i4 (f:Int) (t:Int) m r) 99)
 obtain⟨aQ,aS⟩:=ah kb
 have s0:(w.alloc (.cells (i4 (f:Int) (t:Int) m r) 99)).cell? ⟨Uq,0,none⟩=some (.slice (some ⟨g,off,none⟩) y.length c):=(World.cell?_of_block (Below.heap_alloc _ _ _ hlt)).trans (hcb 0)
 have s1:(w.alloc (.cells (i4 (f:Int) (t:Int) m r) 99)).cell? ⟨g,off+f,none⟩=some (.int .i64 u):=(World.cell?_of_block (Below.heap_alloc _ _ _ hg)).trans q1
 have s2:(w.alloc (.cells (i4 (f:Int) (t:Int) m r) 99)).cell? ⟨g,off+t,none⟩=some (.int .i64 v):=(World.cell?_of_block (Below.heap_alloc _ _ _ hg)).trans q2
 have e1:(0:Int)<=(f:Int):=by omega
 have e2:(f:Int)<(y.length:Int):=by omega
 have e3:(0:Int)<=(t:Int):=by omega
 have e4:(t:Int)<(y.length:Int):=by omega
 have e5:IntKind.i64.wrap (v-u)=v-u:=IntWalk.i64_in _ (by omega)
 go_enter func175,ntmps175
 go_wp2
 go_region_held3 (fun W=>W.cell? ⟨w.heap.size,0,none⟩=some (.int .i64 (f:Int))∧W.cell? ⟨w.heap.size,1,none⟩=some (.int .i64 (t:Int))∧W.cell? ⟨w.heap.size,2,none⟩=some (.int .i64 m)∧W.cell? ⟨Uq,0,none⟩=some (.slice (some ⟨g,off,none⟩) y.length c)∧W.cell? ⟨g,off+f,none⟩=some (.int .i64 u)∧W.cell? ⟨g,off+t,none⟩=some (.int .i64 v)) (exact⟨aQ 0,aQ 1,aQ 2,s0,s1,s2⟩) (fail)
 all_goals go_wp2
 all_goals go_ret
 all_goals exact⟨aD (by rw[<-HV.out]),by first|(go_grown;done)|exact below_drewN (by go_grown) _⟩
theorem QG (A A':Option Addr)(c c':Nat)(l:List Pl.Bd)(y:List Int)(K:Bool)(w:World)(hl:R_ w w.heap.size A l)(hm:l.length<=100000)(hy:Ints w w.heap.size A' y)
  (hp: ∀b∈l,b.fr<y.length∧b.till<y.length) (hr: ∀n∈y,0<=n∧n<=100000) (hK:Hid (Pl.FE l y=K)):
  Calls prog 107 #[.slice A l.length c,.slice A' y.length c'] w fun e w'=>e=.returned (.bool K)∧Below w.heap.size w w':=by
 have kb:=heap_alloc_new w (.cells #[.slice A' y.length c'] 62)
 have hC:=fun(W:World) (hW:Below w.heap.size w W) (hkW:W.heap[w.heap.size]?=some (.cells #[.slice A' y.length c'] 62 (0,0)))=>
  QB A c l 175 #[.pointer (some ⟨w.heap.size,0,none⟩)] (fun b=>decide (b.most<Pl.zG y b.till-Pl.zG y b.fr)) W (hl.up hW) (by omega) (enters_of (P:=prog) func175 (by kernel_rfl) rfl)
  (fun b hb W' hW'=>NT A' c' w.heap.size y b W' ((hW'.block _ (lO hkW)).trans hkW) ((hy.up hW).up hW') (hp b hb).1 (hp b hb).2 hr)
 have Cv: ∀(fn:Fn) (first cap:Array Value) (w:World),(Instr.makeFunc fn first cap).run prog w=.ok (.func fn first cap) w:=fun _ _ _ _=>rfl
 have HK:Hid ((!(l.any fun b=>decide (b.most<Pl.zG y b.till-Pl.zG y b.fr)))=K):=hK
 go_enter func107,ntmps107
 go_wp2_with (go_at_call 174;refine(hC _ (by go_grown) kb).mono ?_;rintro e w1 ⟨rfl,hx1⟩;have hb1:=bT (w:=w) hx1;clear hx1;have hsz1:w.heap.size<=w1.heap.size:=hb1.size)
 go_ret
 exact⟨aD HK.out,by go_grown⟩
