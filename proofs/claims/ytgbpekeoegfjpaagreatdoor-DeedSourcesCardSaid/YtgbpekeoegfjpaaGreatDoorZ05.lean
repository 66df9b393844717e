/- Texts of mine, merged: DG, DH, DI, PlM, DJ, PlN, DK. -/
import Derived.Test.YtgbpekeoegfjpaaGreatDoorZ04
import Derived.Test.YtgbpekeoegfjpaaGreatDoorZ00
import Derived.Test.YtgbpekeoegfjpaaGreatDoorZ02
/- Walk: CheckField of what is neither too large nor empty. -/
set_option maxRecDepth 100000
namespace Go.Proofs.YtgbpekeoegfjpaaGreatDoor
open Go.RowKit
variable (A1 A2 A3 A4 : Option Addr) (c1 c2 c3 c4 : Nat) (f : Pl.Fld)
theorem info_strs :(Tryz.prog.info? 24).map (fun i=>(i.zero,i.size,i.bytes))=some (some (.slice none 0 0),1,24):=by kernel_rfl
theorem idx3 (x y z:Value)(w:World):(Instr.index 116 (.agg #[x,y,z]) (.int .i64 0)).run Tryz.prog w=.ok x w∧(Instr.index 116 (.agg #[x,y,z]) (.int .i64 1)).run Tryz.prog w=.ok y w∧(Instr.index 116 (.agg #[x,y,z]) (.int .i64 2)).run Tryz.prog w=.ok z w:=by
 obtain⟨i,hi,_,h2,_⟩:=info_parts info_strs
 refine⟨?_,?_,?_⟩<;>simp[Instr.index,asIntOf,part,sizeOf,typeInfo,go_sem,run_underlying Tryz.underlying116,hi,h2]
set_option maxHeartbeats 8000000 in
theorem checkField_rest (w:World) (hf:FldS w w.heap.size A1 A2 A3 A4 f) (hm:Small f) (hc:Caps c1 c2 c3 c4 f) (h1:f.N1) (h2:f.N2) (h3:Pl.vars f.va=0):
  Calls Tryz.prog 22 #[.agg (fq A1 A2 A3 A4 c1 c2 c3 c4 f)] w fun e w'=>e=.returned (.int .i64 (Pl.fieldE f))∧Below w.heap.size w w':=by
 have h1':f.st.length<=12∧f.li.length<=10∧f.pa.length<=40:=by unfold Pl.Fld.N1 at h1;omega
 have h2':2<=f.st.length∧1<=f.li.length:=by unfold Pl.Fld.N2 at h2;omega
 obtain⟨k1,k2,k3⟩:=h1'
 obtain⟨k4,k5⟩:=h2'
 have hml:f.va.length<=maxLen:=by have:=hm.va;unfold maxLen;omega
 obtain⟨b1,e1⟩: ∃b,(f.sn.any fun s=> !Pl.isName s)=b:=⟨_,rfl⟩
 obtain⟨b2,e2⟩: ∃b,(f.li.any fun s=> !Pl.isName s)=b:=⟨_,rfl⟩
 obtain⟨b3,e3⟩: ∃b,(f.pn.any fun s=> !Pl.isName s)=b:=⟨_,rfl⟩
 obtain⟨t1,g1⟩: ∃b,Pl.twice f.sn=b:=⟨_,rfl⟩
 obtain⟨t2,g2⟩: ∃b,Pl.twice f.li=b:=⟨_,rfl⟩
 obtain⟨t3,g3⟩: ∃b,Pl.twice f.pn=b:=⟨_,rfl⟩
 have HN4:=Lib.hid (Pl.N4_of e1 e2 e3)
 have HN5:=Lib.hid (Pl.N5_of g1 g2 g3)
 have E1:=Lib.hid e1;have E2:=Lib.hid e2;have E3:=Lib.hid e3
 have G1:=Lib.hid g1;have G2:=Lib.hid g2;have G3:=Lib.hid g3
 clear e1 e2 e3 g1 g2 g3
 have H1:=Lib.hid h1;have H2:=Lib.hid h2;have H3:=Lib.hid h3
 clear h1 h2 h3
 have hs1:Hid (∀s∈f.sn,s.size<=100000):=Lib.hid fun s hs=>by obtain⟨x,hx,rfl⟩:=List.mem_map.1 hs;exact hm.sn x hx
 have hs3:Hid (∀s∈f.pn,s.size<=100000):=Lib.hid fun s hs=>by obtain⟨x,hx,rfl⟩:=List.mem_map.1 hs;exact hm.pn x hx
 have hq1:f.sn.length=f.st.length:=by unfold Pl.Fld.sn;simp
 have hq3:f.pn.length=f.pa.length:=by unfold Pl.Fld.pn;simp
 have Q1:=Lib.hid hq1
 have Q3:=Lib.hid hq3
 clear hq1 hq3
 have kb:=heap_alloc_new w (.cells (fq A1 A2 A3 A4 c1 c2 c3 c4 f) 28)
 go_enter Tryz.func22,Tryz.ntmps22
 go_wp2_with (first
  |(go_at_call 78;refine(varsA_h A4 c4 f.va 0 _ H3 (hf.va.up (by go_grown)) hml).mono ?_;rintro e w1 ⟨rfl,hx⟩;obtain⟨kb,hckb,hfkb,hltkb⟩:=kB hx kb;have hall:Below w.heap.size w w1:=Below.trans (by go_grown) (hx.mono (by go_size));have hsz:w.heap.size<=w1.heap.size:=hall.size;clear hx)
  |(go_at_call 79;refine(names_a A1 A2 A3 A4 c1 c2 c3 c4 f _ (hf.up (by go_grown)) hm).mono ?_;rintro e w2 ⟨B1,d1,B3,d3,rfl,hN1,hN3,hd1,hd3,hx⟩;obtain⟨kb,hckb,hfkb,hltkb⟩:=kB hx kb;have hall:Below w.heap.size w w2:=Below.trans (by go_grown) (hx.mono (by go_size));have hsz:w.heap.size<=w2.heap.size:=hall.size;clear hx))
 refine wp_loop_rounds 4 ?_
 rw[rounds_succ]
 have cb1:=fun W hW=>badNames B1 d1 f.sn b1 W hW (by rw[Q1.out];omega) hs1.out E1
 rw[Q1.out]at cb1
 have ix0:=fun w=>(idx3 (.slice B1 f.st.length d1) (.slice A2 f.li.length c2) (.slice B3 f.pa.length d3) w).1
 have ix1:=fun w=>(idx3 (.slice B1 f.st.length d1) (.slice A2 f.li.length c2) (.slice B3 f.pa.length d3) w).2.1
 have ix2:=fun w=>(idx3 (.slice B1 f.st.length d1) (.slice A2 f.li.length c2) (.slice B3 f.pa.length d3) w).2.2
 have cb2:=fun W hW=>badNames A2 c2 f.li b2 W hW hm.li hm.ln E2
 have cb3:=fun W hW=>badNames B3 d3 f.pn b3 W hW (by rw[Q3.out];omega) hs3.out E3
 rw[Q3.out]at cb3
 clear E1 E2 E3
 cases b1 with
 |true=>
  have hE:=Lib.hid (Pl.fieldE_4 H1.out H2.out H3.out (fun h=>by have:=HN4.out.1 h;simp at this))
  go_wp2_with (go_at_call 80;refine(cb1 _ (hN1.up (by go_grown))).mono ?_;rintro e w3 ⟨rfl,hx⟩;obtain⟨kb,hckb,hfkb,hltkb⟩:=kB hx kb;have hall:Below w.heap.size w w3:=Below.trans (by go_grown) (hx.mono (by go_size));have hsz:w.heap.size<=w3.heap.size:=hall.size;clear hx)
  go_ret
  exact⟨ret_int (by rw[hE.out]),by go_grown⟩
 |false=>
 go_wp2_with (go_at_call 80;refine(cb1 _ (hN1.up (by go_grown))).mono ?_;rintro e w3 ⟨rfl,hx⟩;obtain⟨kb,hckb,hfkb,hltkb⟩:=kB hx kb;have hall:Below w.heap.size w w3:=Below.trans (by go_grown) (hx.mono (by go_size));have hsz:w.heap.size<=w3.heap.size:=hall.size;have h23:Below w2.heap.size w2 w3:=Below.trans (by go_grown) (hx.mono (by go_size));clear hx)
 rw[rounds_succ]
 have hsz23:=h23.size
 cases b2 with
 |true=>
  have hE:=Lib.hid (Pl.fieldE_4 H1.out H2.out H3.out (fun h=>by have:=HN4.out.1 h;simp at this))
  go_wp2_with (go_at_call 80;refine(cb2 _ (hf.li.up (by go_grown))).mono ?_;rintro e w4 ⟨rfl,hx⟩;obtain⟨kb,hckb,hfkb,hltkb⟩:=kB hx kb;have hall:Below w.heap.size w w4:=Below.trans (by go_grown) (hx.mono (by go_size));have hsz:w.heap.size<=w4.heap.size:=hall.size;clear hx)
  go_ret
  exact⟨ret_int (by rw[hE.out]),by go_grown⟩
 |false=>
 go_wp2_with (go_at_call 80;refine(cb2 _ (hf.li.up (by go_grown))).mono ?_;rintro e w4 ⟨rfl,hx⟩;obtain⟨kb,hckb,hfkb,hltkb⟩:=kB hx kb;have hall:Below w.heap.size w w4:=Below.trans (by go_grown) (hx.mono (by go_size));have hsz:w.heap.size<=w4.heap.size:=hall.size;have h24:Below w2.heap.size w2 w4:=Below.trans (by go_grown) (hx.mono (by go_size));clear hx)
 rw[rounds_succ]
 have hsz2:=h24.size
 cases b3 with
 |true=>
  have hE:=Lib.hid (Pl.fieldE_4 H1.out H2.out H3.out (fun h=>by have:=HN4.out.1 h;simp at this))
  go_wp2_with (go_at_call 80;refine(cb3 _ (hN3.up (by go_grown))).mono ?_;rintro e w5 ⟨rfl,hx⟩;obtain⟨kb,hckb,hfkb,hltkb⟩:=kB hx kb;have hall:Below w.heap.size w w5:=Below.trans (by go_grown) (hx.mono (by go_size));have hsz:w.heap.size<=w5.heap.size:=hall.size;clear hx)
  go_ret
  exact⟨ret_int (by rw[hE.out]),by go_grown⟩
 |false=>
 go_wp2_with (go_at_call 80;refine(cb3 _ (hN3.up (by go_grown))).mono ?_;rintro e w5 ⟨rfl,hx⟩;obtain⟨kb,hckb,hfkb,hltkb⟩:=kB hx kb;have hall:Below w.heap.size w w5:=Below.trans (by go_grown) (hx.mono (by go_size));have hsz:w.heap.size<=w5.heap.size:=hall.size;clear hx)
 rw[rounds_succ]
 have N4:=Lib.hid (HN4.out.2 (by simp))
 clear hN1 hN3 hd1 hd3 ix0 ix1 ix2 cb1 cb2 cb3 h23 h24 HN4 hsz2 hsz23
 go_wp2_with (first
  |(go_at_call 79;refine(names_a A1 A2 A3 A4 c1 c2 c3 c4 f _ (hf.up (by go_grown)) hm).mono ?_;rintro e w6 ⟨B1,d1,B3,d3,rfl,hN1,hN3,hd1,hd3,hx⟩;obtain⟨kb,hckb,hfkb,hltkb⟩:=kB hx kb;have hall:Below w.heap.size w w6:=Below.trans (by go_grown) (hx.mono (by go_size));have hsz:w.heap.size<=w6.heap.size:=hall.size;clear hx))
 refine wp_loop_rounds 4 ?_
 rw[rounds_succ]
 have cb1:=fun W hW hc=>twice_h B1 d1 f.sn t1 W hW (by rw[Q1.out];omega) hc G1
 rw[Q1.out]at cb1
 have ix0:=fun w=>(idx3 (.slice B1 f.st.length d1) (.slice A2 f.li.length c2) (.slice B3 f.pa.length d3) w).1
 have ix1:=fun w=>(idx3 (.slice B1 f.st.length d1) (.slice A2 f.li.length c2) (.slice B3 f.pa.length d3) w).2.1
 have ix2:=fun w=>(idx3 (.slice B1 f.st.length d1) (.slice A2 f.li.length c2) (.slice B3 f.pa.length d3) w).2.2
 have cb2:=fun W hW=>twice_h A2 c2 f.li t2 W hW hm.li hc.li G2
 have cb3:=fun W hW hc=>twice_h B3 d3 f.pn t3 W hW (by rw[Q3.out];omega) hc G3
 rw[Q3.out]at cb3
 clear G1 G2 G3
 cases t1 with
 |true=>
  have hE:=Lib.hid (Pl.fieldE_6 H1.out H2.out H3.out N4.out (fun h=>by have:=HN5.out.1 h;simp at this))
  go_wp2_with (go_at_call 83;refine(cb1 _ (hN1.up (by go_grown)) hd1).mono ?_;rintro e w7 ⟨rfl,hx⟩;obtain⟨kb,hckb,hfkb,hltkb⟩:=kB hx kb;have hall:Below w.heap.size w w7:=Below.trans (by go_grown) (hx.mono (by go_size));have hsz:w.heap.size<=w7.heap.size:=hall.size;clear hx)
  go_ret
  exact⟨ret_int (by rw[hE.out]),by go_grown⟩
 |false=>
 go_wp2_with (go_at_call 83;refine(cb1 _ (hN1.up (by go_grown)) hd1).mono ?_;rintro e w7 ⟨rfl,hx⟩;obtain⟨kb,hckb,hfkb,hltkb⟩:=kB hx kb;have hall:Below w.heap.size w w7:=Below.trans (by go_grown) (hx.mono (by go_size));have hsz:w.heap.size<=w7.heap.size:=hall.size;have h23:Below w6.heap.size w6 w7:=Below.trans (by go_grown) (hx.mono (by go_size));clear hx)
 rw[rounds_succ]
 have hsz23:=h23.size
 cases t2 with
 |true=>
  have hE:=Lib.hid (Pl.fieldE_6 H1.out H2.out H3.out N4.out (fun h=>by have:=HN5.out.1 h;simp at this))
  go_wp2_with (go_at_call 83;refine(cb2 _ (hf.li.up (by go_grown))).mono ?_;rintro e w8 ⟨rfl,hx⟩;obtain⟨kb,hckb,hfkb,hltkb⟩:=kB hx kb;have hall:Below w.heap.size w w8:=Below.trans (by go_grown) (hx.mono (by go_size));have hsz:w.heap.size<=w8.heap.size:=hall.size;clear hx)
  go_ret
  exact⟨ret_int (by rw[hE.out]),by go_grown⟩
 |false=>
 go_wp2_with (go_at_call 83;refine(cb2 _ (hf.li.up (by go_grown))).mono ?_;rintro e w8 ⟨rfl,hx⟩;obtain⟨kb,hckb,hfkb,hltkb⟩:=kB hx kb;have hall:Below w.heap.size w w8:=Below.trans (by go_grown) (hx.mono (by go_size));have hsz:w.heap.size<=w8.heap.size:=hall.size;have h24:Below w6.heap.size w6 w8:=Below.trans (by go_grown) (hx.mono (by go_size));clear hx)
 rw[rounds_succ]
 have hsz2:=h24.size
 cases t3 with
 |true=>
  have hE:=Lib.hid (Pl.fieldE_6 H1.out H2.out H3.out N4.out (fun h=>by have:=HN5.out.1 h;simp at this))
  go_wp2_with (go_at_call 83;refine(cb3 _ (hN3.up (by go_grown)) hd3).mono ?_;rintro e w9 ⟨rfl,hx⟩;obtain⟨kb,hckb,hfkb,hltkb⟩:=kB hx kb;have hall:Below w.heap.size w w9:=Below.trans (by go_grown) (hx.mono (by go_size));have hsz:w.heap.size<=w9.heap.size:=hall.size;clear hx)
  go_ret
  exact⟨ret_int (by rw[hE.out]),by go_grown⟩
 |false=>
 go_wp2_with (go_at_call 83;refine(cb3 _ (hN3.up (by go_grown)) hd3).mono ?_;rintro e w9 ⟨rfl,hx⟩;obtain⟨kb,hckb,hfkb,hltkb⟩:=kB hx kb;have hall:Below w.heap.size w w9:=Below.trans (by go_grown) (hx.mono (by go_size));have hsz:w.heap.size<=w9.heap.size:=hall.size;clear hx)
 rw[rounds_succ]
 have N5:=Lib.hid (HN5.out.2 (by simp))
 clear hN1 hN3 hd1 hd3 ix0 ix1 ix2 cb1 cb2 cb3 h23 h24 HN5 hsz2 hsz23
 go_wp2
 go_loopw [69] (fun i wr=> ∃(k:Nat),k<=f.st.length∧i=.int .i64 k∧Hid (∀j (h:j<f.st.length),j<k->0<=f.st[j].2∧f.st[j].2<=100000)∧wr.heap[w.heap.size]?=some (.cells (fq A1 A2 A3 A4 c1 c2 c3 c4 f) 28 (0,0))∧Below w.heap.size w wr) (fun i _=>f.st.length-(intOf i).toNat)
 case atStart=>exact⟨0,by omega,rfl,Lib.hid fun j _ h=>by omega,kb,by go_grown⟩
 case round=>
  obtain⟨k,hk,rfl,hg,kb,hall⟩:=hrel
  obtain⟨hckb,hfkb⟩:=blk_cells kb
  have hltkb:=(lO kb)
  have hsz:=hall.size
  by_cases hlt:k<f.st.length
  ·obtain⟨b,off,rfl,hbB,q0,q1⟩:=Stas.at2 (hf.st.below hall) hlt
   cases hin:Pl.inB f.st[k].2 0 100000 with
   | true=>
    have hok:Hid (0<=f.st[k].2∧f.st[k].2<=100000):=Lib.hid (by simpa [Pl.inB]using hin)
    go_wp2_with (go_at_call 84;refine(inD_a _ _ _ _).mono ?_;rintro e w' ⟨rfl,rfl⟩)
    go_roundw
    case rel=>exact⟨k+1,by omega,by go_num,Lib.hid fun j h hj=>by
     by_cases e:j=k
     ·subst e;exact hok.out
     ·exact hg.out j h (by omega),(Below.heap_alloc _ _ _ hltkb).trans kb,by go_grown⟩
    case measure=>first|(simp[intOf];done)|(simp[intOf];omega)
   |false=>
    have hE:=Lib.hid (Pl.fieldE_1 H1.out H2.out H3.out N4.out N5.out (Pl.N6_st hlt (fun h=>by simp[Pl.inB,h.1,h.2]at hin)))
    go_wp2_with (go_at_call 84;refine(inD_a _ _ _ _).mono ?_;rintro e w' ⟨rfl,rfl⟩)
    go_ret
    exact⟨ret_int (by rw[hE.out]),by go_grown⟩
  ·have hst:=Lib.hid (fun j h=>hg.out j h (by omega))
   clear hg
   go_wp2
   go_loopw [81] (fun i wr=> ∃(k:Nat),k<=f.pa.length∧i=.int .i64 k∧Hid (∀j (h:j<f.pa.length),j<k->Pl.parIn f.st.length f.li.length f.pa[j]=true)∧wr.heap[w.heap.size]?=some (.cells (fq A1 A2 A3 A4 c1 c2 c3 c4 f) 28 (0,0))∧Below w.heap.size w wr) (fun i _=>f.pa.length-(intOf i).toNat)
   case atStart=>exact⟨0,by omega,rfl,Lib.hid fun j _ h=>by omega,kb,by go_grown⟩
   case round=>
    obtain⟨k,hk,rfl,hg,kb,hall⟩:=hrel
    obtain⟨hckb,hfkb⟩:=blk_cells kb
    have hltkb:=(lO kb)
    have hsz:=hall.size
    by_cases hlt:k<f.pa.length
    ·obtain⟨b,off,rfl,hbB,q0,q1,q2,q3⟩:=Pars.at4 (hf.pa.below hall) hlt
     have hpi:Pl.parIn f.st.length f.li.length f.pa[k]=(Pl.inB f.pa[k].south 0 ((f.li.length:Int)-2)&&Pl.inB f.pa[k].fr 0 ((f.st.length:Int)-1)&&Pl.inB f.pa[k].till 0 ((f.st.length:Int)-1)):=by
      simp[Pl.parIn,Pl.inB]
     cases i1:Pl.inB f.pa[k].south 0 ((f.li.length:Int)-2)with
     |false=>
      have hE:=Lib.hid (Pl.fieldE_1 H1.out H2.out H3.out N4.out N5.out (Pl.N6_pa hlt (by rw[hpi,i1];rfl)))
      clear hpi
      go_wp2_with (go_at_call 84;refine(inD_a _ _ _ _).mono ?_;rintro e w' ⟨rfl,rfl⟩)
      go_ret
      exact⟨ret_int (by rw[hE.out]),by go_grown⟩
     |true=>
     cases i2:Pl.inB f.pa[k].fr 0 ((f.st.length:Int)-1)with
     |false=>
      have hE:=Lib.hid (Pl.fieldE_1 H1.out H2.out H3.out N4.out N5.out (Pl.N6_pa hlt (by rw[hpi,i1,i2];rfl)))
      clear hpi
      go_wp2_with (go_at_call 84;refine(inD_a _ _ _ _).mono ?_;rintro e w' ⟨rfl,rfl⟩)
      go_ret
      exact⟨ret_int (by rw[hE.out]),by go_grown⟩
     |true=>
     cases i3:Pl.inB f.pa[k].till 0 ((f.st.length:Int)-1)with
     |false=>
      have hE:=Lib.hid (Pl.fieldE_1 H1.out H2.out H3.out N4.out N5.out (Pl.N6_pa hlt (by rw[hpi,i1,i2,i3];rfl)))
      clear hpi
      go_wp2_with (go_at_call 84;refine(inD_a _ _ _ _).mono ?_;rintro e w' ⟨rfl,rfl⟩)
      go_ret
      exact⟨ret_int (by rw[hE.out]),by go_grown⟩
     | true=>
      have hok:Hid (Pl.parIn f.st.length f.li.length f.pa[k]=true):=Lib.hid (by rw[hpi,i1,i2,i3];rfl)
      clear hpi
      go_wp2_with (go_at_call 84;refine(inD_a _ _ _ _).mono ?_;rintro e w' ⟨rfl,rfl⟩)
      go_roundw
      case rel=>exact⟨k+1,by omega,by go_num,Lib.hid fun j h hj=>by
       by_cases e:j=k
       ·subst e;exact hok.out
       ·exact hg.out j h (by omega),(Below.heap_alloc _ _ _ hltkb).trans kb,by go_grown⟩
      case measure=>first|(simp[intOf];done)|(simp[intOf];omega)
    ·have hpa:=Lib.hid (fun j h=>hg.out j h (by omega))
     have N6:=Lib.hid (Pl.N6_ok hst.out hpa.out)
     clear hg hst
     go_wp2
     go_loopw [12] (fun i wr=> ∃(k:Nat),1<=k∧k<=f.st.length∧i=.int .i64 k∧Hid (∀j (h:j+1<f.st.length),j+1<k->f.st[j].2<f.st[j+1].2)∧wr.heap[w.heap.size]?=some (.cells (fq A1 A2 A3 A4 c1 c2 c3 c4 f) 28 (0,0))∧Below w.heap.size w wr) (fun i _=>f.st.length-(intOf i).toNat)
     case atStart=>exact⟨1,by omega,by omega,rfl,Lib.hid fun j _ h=>by omega,kb,by go_grown⟩
     case round=>
      obtain⟨k,hk1,hk,rfl,hg,kb,hall⟩:=hrel
      obtain⟨hckb,hfkb⟩:=blk_cells kb
      have hltkb:=(lO kb)
      have hsz:=hall.size
      by_cases hlt:k<f.st.length
      ·obtain⟨m,hmk⟩: ∃m,k=m+1:=⟨k-1,by omega⟩
       have hltm:m<f.st.length:=by omega
       obtain⟨b,off,hA,hbB,q0,q1⟩:=Stas.at2 (hf.st.below hall) hlt
       obtain⟨b',off',hA',_,r0,r1⟩:=Stas.at2 (hf.st.below hall) hltm
       rw[hA]at hA'
       obtain⟨rfl,rfl⟩:b=b'∧off=off':=by simpa using hA'
       clear hA' q0 r0
       subst hA
       have hc0:wr.cell? ⟨w.heap.size,0,none⟩=some (.slice (some ⟨b,off,none⟩) f.st.length c1):=hckb 0
       have e1:IntKind.i64.wrap ((k:Int)-1)=(m:Int):=by rw[IntWalk.i64_in _ (by omega)];omega
       have e2:(0:Int)<=(m:Int):=by omega
       have e4:(m:Int)<(f.st.length:Int):=by omega
       have e5:(0:Int)<=(k:Int):=by omega
       have e6:(k:Int)<(f.st.length:Int):=by omega
       have hpair:Hid (m+1<f.st.length):=Lib.hid (by omega)
       have hbad:Hid (f.st[k].2<=f.st[m].2->Pl.fieldE f=30):=Lib.hid fun h=>Pl.fieldE_30 H1.out H2.out H3.out N4.out N5.out N6.out (Pl.N7_rise (k:=m) hpair.out (by subst hmk;exact h))
       have hgood:Hid (f.st[m].2<f.st[k].2-> ∀j (h:j+1<f.st.length),j+1<k+1->f.st[j].2<f.st[j+1].2):=Lib.hid fun h j hj hjk=>by
        by_cases e:j+1=k
        ·subst hmk
         obtain rfl:j=m:=by omega
         exact h
        ·exact hg.out j hj (by omega)
       obtain⟨x,hx⟩: ∃x,f.st[k].2=x:=⟨_,rfl⟩
       obtain⟨y,hy⟩: ∃y,f.st[m].2=y:=⟨_,rfl⟩
       rw[hx]at q1 hbad hgood
       rw[hy]at r1 hbad hgood
       have HMK:=Lib.hid hmk
       clear hx hy hg hmk
       by_cases hxy:x<=y
       ·go_wp2
        go_region_held3 (fun W=>W.cell? ⟨w.heap.size,0,none⟩=some (.slice (some ⟨b,off,none⟩) f.st.length c1)∧W.cell? ⟨b,off+m*2+1,none⟩=some (.int .i64 y)∧W.cell? ⟨b,off+k*2+1,none⟩=some (.int .i64 x)) (exact⟨hc0,r1,q1⟩) (fail)
        all_goals go_wp2
        all_goals go_ret
        all_goals exact⟨ret_int (by rw[hbad.out hxy]),by first|(go_grown;done)|exact below_drewN hall _⟩
       ·have hxy':y<x:=by omega
        go_wp2
        go_region_held3 (fun W=>W.cell? ⟨w.heap.size,0,none⟩=some (.slice (some ⟨b,off,none⟩) f.st.length c1)∧W.cell? ⟨b,off+m*2+1,none⟩=some (.int .i64 y)∧W.cell? ⟨b,off+k*2+1,none⟩=some (.int .i64 x)) (exact⟨hc0,r1,q1⟩) (fail)
        all_goals go_wp2
        all_goals (
         go_roundw
         case rel=>exact⟨k+1,by omega,by omega,by go_num,Lib.hid (hgood.out hxy'),kb,by first|(go_grown;done)|exact below_drewN hall _⟩
         case measure=>first|(simp[intOf];done)|(simp[intOf];omega))
      ·have hri:=Lib.hid (fun j (h:j+1<f.st.length)=>hg.out j h (by omega))
       clear hg
       have hmf: ∀(fn:Fn) (first cap:Array Value) (w:World),(Instr.makeFunc fn first cap).run Tryz.prog w=.ok (.func fn first cap) w:=fun _ _ _ _=>rfl
       go_wp2
       go_loopw [138] (fun i wr=> ∃(k:Nat),k<=f.pa.length∧i=.int .i64 k∧Hid (Pl.apart [] (f.pa.take k)=true)∧wr.heap[w.heap.size]?=some (.cells (fq A1 A2 A3 A4 c1 c2 c3 c4 f) 28 (0,0))∧Below w.heap.size w wr) (fun i _=>f.pa.length-(intOf i).toNat)
       case atStart=>exact⟨0,by omega,rfl,Lib.hid rfl,kb,by go_grown⟩
       case round=>
        obtain⟨k,hk,rfl,hg,kb,hall⟩:=hrel
        obtain⟨hckb,hfkb⟩:=blk_cells kb
        have hltkb:=(lO kb)
        have hsz:=hall.size
        by_cases hlt:k<f.pa.length
        ·obtain⟨b,off,hA,hbB,q0,q1,q2,q3⟩:=Pars.at4 (hf.pa.below hall) hlt
         by_cases hft:f.pa[k].fr<f.pa[k].till
         ·obtain⟨B,hB⟩: ∃B,(f.pa.take k).any (Pl.over f.pa[k])=B:=⟨_,rfl⟩
          have hS:Hid (∀q∈f.pa,Pl.parIn 12 10 q=true):=Lib.hid fun q hq=>by
           obtain⟨j,hj,rfl⟩:=List.getElem_of_mem hq
           have:=hpa.out j hj
           unfold Pl.parIn at this ⊢
           simp at this ⊢
           omega
          have htk:Pars wr w.heap.size A3 (f.pa.take k):=seg_take (hf.pa.below hall) k
          have ov:=fun(W:World) (bp:Nat) (hW:Pars W W.heap.size A3 (f.pa.take k)) (hb:W.heap[bp]?=some (.cells #[.string f.pa[k].name,.int .i64 f.pa[k].south,.int .i64 f.pa[k].fr,.int .i64 f.pa[k].till] 112 (0,0)))=>overs_a A3 c3 (f.pa.take k) bp f.pa[k] B W hW (by rw[List.length_take];omega) hb (hS.out _ (List.getElem_mem hlt)) (fun q hq=>hS.out q (List.mem_of_mem_take hq)) (Lib.hid hB)
          rw[List.length_take,Nat.min_eq_left (by omega)]at ov
          have hBh:=Lib.hid hB
          have hcp:=hc.pa
          clear hB
          subst hA
          cases B with
          |true=>
           have hE:=Lib.hid (Pl.fieldE_30 H1.out H2.out H3.out N4.out N5.out N6.out (Pl.N7_apart hlt (fun h=>by have:=h.2;rw[hBh.out]at this;cases this)))
           go_wp2_with (go_at_call 87;refine(ov _ _ ((htk.below (by go_grown)).more (by go_size)) (heap_alloc_new _ _)).mono ?_;rintro e w3 ⟨rfl,hx⟩;have hall:Below w.heap.size w w3:=Below.trans (by go_grown) (hx.mono (by go_size)))
           go_ret
           exact⟨ret_int (by rw[hE.out]),by go_grown⟩
          |false=>
           have hap:=Lib.hid (Pl.apart_step hlt hg.out hft hBh.out)
           go_wp2_with (go_at_call 87;refine(ov _ _ ((htk.below (by go_grown)).more (by go_size)) (heap_alloc_new _ _)).mono ?_;rintro e w3 ⟨rfl,hx⟩;have kb:=(hx.block w.heap.size (by first|exact hltkb|(simp;omega))).trans (by first|exact kb|exact(Below.heap_alloc _ _ _ hltkb).trans kb);have hall:Below w.heap.size w w3:=Below.trans (by go_grown) (hx.mono (by go_size)))
           go_roundw
           case rel=>exact⟨k+1,by omega,by go_num,hap,kb,by go_grown⟩
           case measure=>first|(simp[intOf];done)|(simp[intOf];omega)
         ·have hE:=Lib.hid (Pl.fieldE_30 H1.out H2.out H3.out N4.out N5.out N6.out (Pl.N7_apart hlt (fun h=>hft h.1)))
          subst hA
          go_wp2
          go_ret
          exact⟨ret_int (by rw[hE.out]),by go_grown⟩
        ·have hap:Pl.apart [] f.pa=true:=by
          have:=hg.out
          rw[List.take_of_length_le (by omega)]at this
          exact this
         have hE:=Lib.hid (Pl.fieldE_0 H1.out H2.out H3.out N4.out N5.out N6.out (Pl.N7_ok hri.out hap))
         clear hap
         go_wp2
         go_ret
         exact⟨ret_int (by rw[hE.out]),by go_grown⟩
end Go.Proofs.YtgbpekeoegfjpaaGreatDoor
/- Walk: CheckField of every field. -/
namespace Go.Proofs.YtgbpekeoegfjpaaGreatDoor
open Go.RowKit
variable (A1 A2 A3 A4 : Option Addr) (c1 c2 c3 c4 : Nat) (f : Pl.Fld)
theorem checkField_a (w:World)(hf:FldS w w.heap.size A1 A2 A3 A4 f)(hm:Small f)(hc:Caps c1 c2 c3 c4 f):
  Calls Tryz.prog 22 #[.agg (fq A1 A2 A3 A4 c1 c2 c3 c4 f)] w fun e w'=>e=.returned (.int .i64 (Pl.fieldE f))∧Below w.heap.size w w':=by
 by_cases h1:f.N1
 ·by_cases h2:f.N2
  ·by_cases h3:Pl.vars f.va=0
   ·exact checkField_rest A1 A2 A3 A4 c1 c2 c3 c4 f w hf hm hc h1 h2 h3
   ·exact checkField_vars A1 A2 A3 A4 c1 c2 c3 c4 f w hf hm hc h1 h2 h3
  ·exact checkField_few A1 A2 A3 A4 c1 c2 c3 c4 f w hf hm hc h1 h2
 ·exact checkField_big A1 A2 A3 A4 c1 c2 c3 c4 f w hf hm hc h1
theorem checkField_h (E:Int)(w:World)(hE:Hid (Pl.fieldE f=E))(hf:FldS w w.heap.size A1 A2 A3 A4 f)(hm:Small f)(hc:Caps c1 c2 c3 c4 f):
  Calls Tryz.prog 22 #[.agg (fq A1 A2 A3 A4 c1 c2 c3 c4 f)] w fun e w'=>e=.returned (.int .i64 E)∧Below w.heap.size w w':=by
 have:=checkField_a A1 A2 A3 A4 c1 c2 c3 c4 f w hf hm hc
 rw[hE.out]at this
 exact this
end Go.Proofs.YtgbpekeoegfjpaaGreatDoor
/- Laws: a list that a call owns, appended to; and read as a list. -/
namespace Go.Proofs.YtgbpekeoegfjpaaGreatDoor
open Go.RowKit
variable (A1 A2 A3 A4 : Option Addr) (c1 c2 c3 c4 : Nat) (f : Pl.Fld)
theorem flat_at {α:Type}(enc:α->List Value)(size:Nat)(hsz: ∀x,(enc x).length=size){l:List α}{k:Nat}{x:α}(hk:l[k]?=some x){j:Nat}{v:Value}(hv:(enc x)[j]?=some v):(l.flatMap enc)[k*size+j]?=some v:=by
 induction l generalizing k with
 |nil=>simp at hk
 | cons y l ih=>
  have hj:j<size:=by rw[<-hsz x];exact(List.getElem?_eq_some_iff.1 hv).1
  rw[List.flatMap_cons]
  cases k with
  |zero=>
   simp at hk
   subst hk
   rw[List.getElem?_append_left (by rw[hsz];omega)]
   simpa using hv
  |succ k=>
   have h1:=ih (k:=k) (by simpa using hk)
   rw[List.getElem?_append_right (by rw[hsz,Nat.add_mul];omega),hsz]
   rw[show(k+1)*size+j-size=k*size+j by rw[Nat.add_mul];omega]
   exact h1
theorem flat_len {α:Type}(enc:α->List Value)(size:Nat)(hsz: ∀x,(enc x).length=size)(l:List α):(l.flatMap enc).length=l.length*size:=by
 induction l with
 |nil=>simp
 |cons y l ih=>rw[List.flatMap_cons,List.length_append,ih,hsz,List.length_cons,Nat.add_mul];omega
structure Lay {α:Type}(enc:α->List Value)(ST ET:TypeId)(z:Value)(size bytes:Nat):Prop where
 ht:Tryz.prog.underlying ST=some (.slice ET)
 hi:(Tryz.prog.info? ET).map (fun i=>(i.zero,i.size,i.bytes))=some (some z,size,bytes)
 hz:z.cells.size=size
 hs:0<size
 henc: ∀x,(enc x).length=size
 hone: ∀x,∀v∈enc x,v.oneCell'=true
section
variable {α : Type} {enc : α -> List Value} {ST ET : TypeId} {z : Value} {size bytes : Nat}
theorem own_app (L:Lay enc ST ET z size bytes){n₀ k:Nat}{w1:World}{v:Value}{l:List α}(hr:w1.ownsRow n₀ ET size v k (l.flatMap enc))(r:List α)(m:Nat)(hm:r.length=m+1)(cs:Array Value)(hcs:cs.toList=r.flatMap enc)
  (h63:k+(m+1)<=maxLen) (hb:(k+(m+1))*bytes<=140737488355328) (hn:n₀<=w1.heap.size):
  ∃g' cap' w2,(Builtin.append_ #[ST,ST] ST #[v,.slice (some ⟨w1.heap.size,0,none⟩) (m+1) (m+1)]).run Tryz.prog (w1.alloc (.cells cs ET))=.ok (.slice (some ⟨g',0,none⟩) (k+(m+1)) cap') w2∧
   w2.ownsRow n₀ ET size (.slice (some ⟨g',0,none⟩) (k+(m+1)) cap') (k+(m+1)) ((l++r).flatMap enc)∧Below n₀ w1 w2:=by
 obtain⟨i0,hi0,hz0,hz1,hz2⟩:=info_parts L.hi
 have hcell: ∀j u,(r.flatMap enc)[j]?=some u->(w1.alloc (.cells cs ET)).cell? ((⟨w1.heap.size,0,none⟩:Addr).add j)=some u:=by
  intro j u hj
  rw[Go.WideShapes.add_plain,Nat.zero_add,(blk_cells (World.alloc_heap_new w1 (.cells cs ET))).1,<-Array.getElem?_toList,hcs]
  exact hj
 have hone: ∀u∈r.flatMap enc,u.oneCell'=true:=by
  intro u hu
  obtain⟨x,_,hx⟩:=List.mem_flatMap.1 hu
  exact L.hone x u hx
 obtain⟨v',w2,hrun,hown,hgrow,hn2⟩:=run_append_own (P:=Tryz.prog) (w:=w1.alloc (.cells cs ET)) n₀ ST ST ET i0 _ size bytes L.ht hi0 hz0 hz1 hz2 L.hz L.hs v k (l.flatMap enc) (hr.alloc _) ⟨w1.heap.size,0,none⟩ (m+1) (m+1) (r.flatMap enc)
  (by rw[flat_len enc size L.henc,hm]) hcell hone h63 hb (by simp only[World.size_alloc];omega)
 obtain⟨g',cap',rfl⟩:=ownsRow_succ (k:=k+m) hown
 refine⟨g',cap',w2,hrun,by rw[List.flatMap_append];exact hown,?_⟩
 refine(((Below.refl n₀ w1).alloc hn _).grown hgrow (by simp only[World.size_alloc];omega) fun j ej=> ?_)
 exact((hr.alloc (.cells cs ET)).lt j ej).1
theorem own_count (L:Lay enc ST ET z size bytes){n₀ k:Nat}{w:World}{v:Value}{l:List α}(h:w.ownsRow n₀ ET size v k (l.flatMap enc)):k=l.length:=by
 have:=h.1
 rw[flat_len enc size L.henc]at this
 exact(Nat.eq_of_mul_eq_mul_right L.hs this).symm
theorem own_seg (L:Lay enc ST ET z size bytes){n₀:Nat}{w:World}{v:Value}{l:List α}(h:w.ownsRow n₀ ET size v l.length (l.flatMap enc)): ∃A c,v=.slice A l.length c∧Seg enc size w w.heap.size A l∧l.length<=c∧From n₀ A:=by
 rcases h.2 with ⟨h2,h3⟩|⟨g,cap,cur,h2,h3,_,hle,_⟩
 ·exact⟨none,0,by rw[h2,h3],.inl (List.length_eq_zero_iff.1 h3),by omega,by intro a ha;cases ha⟩
 ·refine⟨some ⟨g,0,none⟩,cap,h2,.inr ⟨g,0,rfl,?_,fun k x hx j v' hv=> ?_⟩,hle,by intro a ha;cases ha;exact h3⟩
  ·exact(h.lt g (by rw[h2];rfl)).2
  ·have hf:=flat_at enc size L.henc hx hv
   have:=h.cells (g:=g) (by rw[h2];rfl) (k*size+j) v' hf
   rw[Go.WideShapes.add_plain]at this
   rw[Nat.add_assoc,this]
end
theorem lay_bd :Lay encBd 51 99 (.agg (i4 0 0 0 0)) 4 32:=
 ⟨Tryz.underlying51,by kernel_rfl,rfl,by decide,fun _=>rfl,fun x v hv=>by simp[encBd]at hv;rcases hv with rfl|rfl|rfl|rfl<;>rfl⟩
theorem lay_nm :Lay encNm 24 9 (.string ⟨#[]⟩) 1 16:=
 ⟨Tryz.underlying24,by kernel_rfl,rfl,by decide,fun _=>rfl,fun x v hv=>by simp[encNm]at hv;subst hv;rfl⟩
theorem lay_int :Lay encInt 62 3 (.int .i64 0) 1 8:=
 ⟨Tryz.underlying62,by kernel_rfl,rfl,by decide,fun _=>rfl,fun x v hv=>by simp[encInt]at hv;subst hv;rfl⟩
theorem lay_sta :Lay encSta 23 50 (.agg #[.string ⟨#[]⟩,.int .i64 0]) 2 24:=
 ⟨Tryz.underlying23,by kernel_rfl,rfl,by decide,fun _=>rfl,fun x v hv=>by simp[encSta]at hv;rcases hv with rfl|rfl<;>rfl⟩
theorem lay_par :Lay encPar 25 112 (.agg #[.string ⟨#[]⟩,.int .i64 0,.int .i64 0,.int .i64 0]) 4 40:=
 ⟨Tryz.underlying25,by kernel_rfl,rfl,by decide,fun _=>rfl,fun x v hv=>by simp[encPar]at hv;rcases hv with rfl|rfl|rfl|rfl<;>rfl⟩
theorem lay_var :Lay encVar 26 114 (.agg (i2 0 0)) 2 16:=
 ⟨Tryz.underlying26,by kernel_rfl,rfl,by decide,fun _=>rfl,fun x v hv=>by simp[encVar]at hv;rcases hv with rfl|rfl<;>rfl⟩
end Go.Proofs.YtgbpekeoegfjpaaGreatDoor
/- Plain laws of chapter 03: the bounds by nature, as loops make them. No program. -/
namespace Go.Proofs.YtgbpekeoegfjpaaGreatDoor
variable (A1 A2 A3 A4 : Option Addr) (c1 c2 c3 c4 : Nat) (f : Pl.Fld)
namespace Pl
variable (A1 A2 A3 A4 : Option Addr) (c1 c2 c3 c4 : Nat) (f : Pl.Fld)
def natA (n:Nat):List Bd:=(List.range n).flatMap fun p=>natOne (p+1)
def natC (S l s:Nat):List Bd:=(List.range s).map fun s=>⟨pointN S (l+1) s,pointN S l s,0,0⟩
def natB (S l:Nat):List Bd:=(List.range l).flatMap fun l=>natC S l S
theorem nature_eq (S L:Nat):nature S L=natA (L*S)++natB S (L-1):=rfl
theorem natA_succ (n:Nat):natA (n+1)=natA n++[⟨0,n+1,100000,0⟩,⟨n+1,0,0,0⟩]:=by unfold natA;rw[List.range_succ,List.flatMap_append];simp[natOne]
theorem natC_succ (S l s:Nat):natC S l (s+1)=natC S l s++[⟨pointN S (l+1) s,pointN S l s,0,0⟩]:=by unfold natC;rw[List.range_succ,List.map_append];rfl
theorem natB_succ (S l:Nat):natB S (l+1)=natB S l++natC S l S:=by unfold natB;rw[List.range_succ,List.flatMap_append];simp
theorem natA_len (n:Nat):(natA n).length=2*n:=by
 induction n with
 |zero=>rfl
 |succ n ih=>rw[natA_succ,List.length_append,ih];simp;omega
theorem natC_len (S l s:Nat):(natC S l s).length=s:=by unfold natC;simp
theorem natB_len (S l:Nat):(natB S l).length=l*S:=by
 induction l with
 |zero=>simp[natB]
 |succ l ih=>rw[natB_succ,List.length_append,ih,natC_len,Nat.add_mul];omega
theorem nature_len (S L:Nat):(nature S L).length=2*(L*S)+(L-1)*S:=by rw[nature_eq,List.length_append,natA_len,natB_len]
end Pl
end Go.Proofs.YtgbpekeoegfjpaaGreatDoor
/- Walks: points, bounds by nature. -/
namespace Go.Proofs.YtgbpekeoegfjpaaGreatDoor
open Go.RowKit
variable (A1 A2 A3 A4 : Option Addr) (c1 c2 c3 c4 : Nat) (f : Pl.Fld)
attribute [-go_sem] Builtin.append_
def NewSeg {α:Type}(enc:α->List Value)(size:Nat)(l:List α)(w:World)(e:Ending)(w':World):Prop:= ∃A c,e=.returned (.slice A l.length c)∧Seg enc size w' w'.heap.size A l∧l.length<=c∧From w.heap.size A∧Below w.heap.size w w'
theorem points_n (N:Nat)(w:World)(h1:f.li.length<=1000)(h2:f.st.length<=100000)(hN:Hid (((f.li.length:Nat):Int)*(f.st.length:Nat)=(N:Int))):
  Calls Tryz.prog 106 #[.agg (fq A1 A2 A3 A4 c1 c2 c3 c4 f)] w fun e w'=>e=.returned (.int .i64 (1+(N:Int)))∧Below w.heap.size w w':=by
 have:=points_a A1 A2 A3 A4 c1 c2 c3 c4 f w h1 h2
 rw[hN.out]at this
 exact this
theorem app_two {n₀ p:Nat}{w1:World}{v:Value}(hr:w1.ownsRow n₀ 99 4 v (2*p) ((Pl.natA p).flatMap encBd))(hp:p<=100000)(hn:n₀<=w1.heap.size):
  ∃g' cap' w2,(Builtin.append_ #[51,51] 51 #[v,.slice (some ⟨w1.heap.size,0,none⟩) 2 2]).run Tryz.prog (w1.alloc (.cells (i8 0 ((p:Int)+1) 100000 0 ((p:Int)+1) 0 0 0) 99))=.ok (.slice (some ⟨g',0,none⟩) (2*p+2) cap') w2∧
   w2.ownsRow n₀ 99 4 (.slice (some ⟨g',0,none⟩) (2*p+2) cap') (2*(p+1)) ((Pl.natA (p+1)).flatMap encBd)∧Below n₀ w1 w2:=by
 rw[Pl.natA_succ]
 exact own_app lay_bd hr [⟨0,p+1,100000,0⟩,⟨p+1,0,0,0⟩] 1 rfl _ (by simp[encBd]) (by unfold maxLen;omega) (by omega) hn
theorem app_one {n₀ k:Nat}{w1:World}{v:Value}{l:List Pl.Bd}(b:Pl.Bd)(hr:w1.ownsRow n₀ 99 4 v k (l.flatMap encBd))(hk:k<=100000)(hn:n₀<=w1.heap.size)(x y:Int)(hx:(b.fr:Int)=x)(hy:(b.till:Int)=y)(hm:b.most=0)(hr0:b.record=0):
  ∃g' cap' w2,(Builtin.append_ #[51,51] 51 #[v,.slice (some ⟨w1.heap.size,0,none⟩) 1 1]).run Tryz.prog (w1.alloc (.cells (i4 x y 0 0) 99))=.ok (.slice (some ⟨g',0,none⟩) (k+1) cap') w2∧
   w2.ownsRow n₀ 99 4 (.slice (some ⟨g',0,none⟩) (k+1) cap') (k+1) ((l++[b]).flatMap encBd)∧Below n₀ w1 w2:=
 own_app lay_bd hr [b] 0 rfl _ (by simp[encBd,hx,hy,hm,hr0]) (by unfold maxLen;omega) (by omega) hn
set_option maxHeartbeats 4000000 in
theorem nature_a (w:World) (hS:f.st.length<=12) (hL1:1<=f.li.length) (hL:f.li.length<=10):
  Calls Tryz.prog 89 #[.agg (fq A1 A2 A3 A4 c1 c2 c3 c4 f)] w (NewSeg encBd 4 (Pl.nature f.st.length f.li.length) w):=by
 obtain⟨N,hN⟩: ∃N,f.li.length*f.st.length=N:=⟨_,rfl⟩
 have hNb:N<=120:=by rw[<-hN];have:=Nat.mul_le_mul hL hS;omega
 have HN:Hid (((f.li.length:Nat):Int)*(f.st.length:Nat)=(N:Int)):=Lib.hid (by rw[<-hN];simp)
 have HM:=Lib.hid hN
 clear hN
 have kb:=heap_alloc_new w (.cells (fq A1 A2 A3 A4 c1 c2 c3 c4 f) 28)
 have hall:Below w.heap.size w (w.alloc (.cells (fq A1 A2 A3 A4 c1 c2 c3 c4 f) 28)):=by go_grown
 go_enter Tryz.func89,Tryz.ntmps89
 go_wp2
 go_loopw [3,4] (fun o i wr=> ∃(p:Nat),p<=N∧i=.int .i64 ((p:Int)+1)∧wr.ownsRow (w.heap.size+1) 99 4 o (2*p) ((Pl.natA p).flatMap encBd)∧wr.heap[w.heap.size]?=some (.cells (fq A1 A2 A3 A4 c1 c2 c3 c4 f) 28 (0,0))∧Below w.heap.size w wr) (fun _ i _=>200-(intOf i).toNat)
 case atStart=>exact⟨0,by omega,rfl,World.ownsRow_nil _ _ _ _,kb,hall⟩
 case round=>
  obtain⟨p,hp,rfl,hown,kb,hall⟩:=hrel
  obtain⟨hckb,hfkb⟩:=blk_cells kb
  have hltkb:=(lO kb)
  have hsz:=hall.size
  by_cases hlt:p<N
  ·go_wp2_with (go_at_call 106;refine(points_n A1 A2 A3 A4 c1 c2 c3 c4 f N _ (by omega) (by omega) HN).mono ?_;rintro e w1 ⟨rfl,hx⟩;obtain⟨kb,hckb,hfkb,hltkb⟩:=kB hx kb;have hall:Below w.heap.size w w1:=Below.trans (by go_grown) (hx.mono (by go_size));have hsz:w.heap.size<=w1.heap.size:=hall.size;have h0:Below wr.heap.size wr w1:=Below.trans (by go_grown) (hx.mono (by go_size));obtain⟨g',cap',w2,hrun,hown2,hb2⟩:=app_two (own_below hown h0) (by omega) (by omega);clear hx)
   exact⟨⟨p+1,by omega,by simp,hown2,(hb2.block w.heap.size (by omega)).trans kb,hall.trans (hb2.mono (by omega))⟩,by simp[intOf];omega⟩
  ·obtain rfl:p=N:=by omega
   go_wp2_with (go_at_call 106;refine(points_n A1 A2 A3 A4 c1 c2 c3 c4 f p _ (by omega) (by omega) HN).mono ?_;rintro e w1 ⟨rfl,hx⟩;obtain⟨kb,hckb,hfkb,hltkb⟩:=kB hx kb;have hall:Below w.heap.size w w1:=Below.trans (by go_grown) (hx.mono (by go_size));have hsz:w.heap.size<=w1.heap.size:=hall.size;have h0:Below wr.heap.size wr w1:=Below.trans (by go_grown) (hx.mono (by go_size));have hown:=own_below hown h0;clear hx)
   clear hckb hfkb hltkb
   obtain⟨hckb,hfkb⟩:=blk_cells kb
   go_loopw [3,24] (fun o i wr=> ∃(l k:Nat),l+1<=f.li.length∧i=.int .i64 l∧k<=240+12*l∧wr.ownsRow (w.heap.size+1) 99 4 o k ((Pl.natA p++Pl.natB f.st.length l).flatMap encBd)∧wr.heap[w.heap.size]?=some (.cells (fq A1 A2 A3 A4 c1 c2 c3 c4 f) 28 (0,0))∧Below w.heap.size w wr) (fun _ i _=>f.li.length-(intOf i).toNat)
   case atStart=>exact⟨0,2*p,by omega,rfl,by omega,by simpa [Pl.natB]using hown,kb,hall⟩
   case round=>
    obtain⟨l,k,hl,rfl,hk,hown,kb,hall⟩:=hrel
    obtain⟨hckb,hfkb⟩:=blk_cells kb
    have hltkb:=(lO kb)
    have hsz:=hall.size
    by_cases hlt:l+1<f.li.length
    ·have e1:(l:Int)<(f.li.length:Int)-1:=by omega
     go_wp2
     go_loopw [3,30] (fun o i wr=> ∃(s k:Nat),s<=f.st.length∧i=.int .i64 s∧k<=240+12*l+s∧wr.ownsRow (w.heap.size+1) 99 4 o k ((Pl.natA p++(Pl.natB f.st.length l++Pl.natC f.st.length l s)).flatMap encBd)∧wr.heap[w.heap.size]?=some (.cells (fq A1 A2 A3 A4 c1 c2 c3 c4 f) 28 (0,0))∧Below w.heap.size w wr) (fun _ i _=>f.st.length-(intOf i).toNat)
     case atStart=>exact⟨0,k,by omega,rfl,by omega,by simpa [Pl.natC]using hown,kb,hall⟩
     case round=>
      obtain⟨s,k,hs,rfl,hk,hown,kb,hall⟩:=hrel
      obtain⟨hckb,hfkb⟩:=blk_cells kb
      have hltkb:=(lO kb)
      have hsz:=hall.size
      by_cases hlts:s<f.st.length
      ·have HX:Hid ((((Pl.pointN f.st.length (l+1) s:Nat):Int)=1+((l:Int)+1)*(f.st.length:Int)+s)∧(((Pl.pointN f.st.length l s:Nat):Int)=1+(l:Int)*(f.st.length:Int)+s)):=Lib.hid (by unfold Pl.pointN;simp)
       have hn1:w.heap.size+1<=wr.heap.size:=hltkb
       have HC:=fun W (hW:Below wr.heap.size wr W)=>app_one (w1:=W) ⟨Pl.pointN f.st.length (l+1) s,Pl.pointN f.st.length l s,0,0⟩ (own_below hown hW) (by omega) (Nat.le_trans hn1 hW.size) _ _ HX.out.1 HX.out.2 rfl rfl
       have e2:IntKind.i64.wrap ((l:Int)+1)=(l:Int)+1:=IntWalk.i64_in _ (by omega)
       go_wp2
       go_region_held3 (fun W=> ∀j,W.cell? ⟨w.heap.size,j,none⟩=((fq A1 A2 A3 A4 c1 c2 c3 c4 f):Array Value)[j]?) (first|exact hckb|exact hckb3|exact fun j=>(World.cell?_of_block (Below.heap_alloc _ _ _ hltkb)).trans (hckb j)) (first
        |(go_at_call 110;refine(point_a A1 A2 A3 A4 c1 c2 c3 c4 f _ _ _ (by omega) (by omega) (by omega) (by omega) (by omega)).mono ?_;rintro e w2 ⟨rfl,hx⟩;obtain⟨kb,hckb,hfkb,hltkb⟩:=kB hx kb;have hall:Below w.heap.size w w2:=Below.trans (by go_grown) (hx.mono (by go_size));have hsz:w.heap.size<=w2.heap.size:=hall.size;have h0:Below wr.heap.size wr w2:=Below.trans (by go_grown) (hx.mono (by go_size));obtain⟨g',cap',w3,hrun,hown3,hb3⟩:=HC w2 h0;have hs0:=h0.size;have kb3:=(hb3.block w.heap.size (by omega)).trans kb;obtain⟨hckb3,hfkb3⟩:=blk_cells kb3;clear hx))
       all_goals go_wp2
       all_goals exact⟨⟨s+1,k+1,by omega,by simp,by omega,by rw[Pl.natC_succ,<-List.append_assoc,<-List.append_assoc];rw[<-List.append_assoc]at hown3;exact hown3,kb3,hall.trans (hb3.mono (by omega))⟩,by simp[intOf];omega⟩
      ·obtain rfl:s=f.st.length:=by omega
       rw[<-Pl.natB_succ]at hown
       go_wp2
       exact⟨⟨l+1,k,by omega,by simp,by omega,hown,kb,hall⟩,by simp[intOf];omega⟩
    ·have hle:Hid (l=f.li.length-1):=Lib.hid (by omega)
     have hnat:Hid (Pl.natA p++Pl.natB f.st.length l=Pl.nature f.st.length f.li.length):=Lib.hid (by rw[Pl.nature_eq,HM.out,hle.out])
     rw[hnat.out]at hown
     obtain rfl:=own_count lay_bd hown
     obtain⟨A',c',hv,hN,hc',hF⟩:=own_seg lay_bd hown
     subst hv
     have e1: ¬(l:Int)<(f.li.length:Int)-1:=by omega
     go_wp2
     go_ret
     exact⟨A',c',rfl,hN,hc',fun a ha=>Nat.le_of_succ_le (hF a ha),hall⟩
theorem Points_a (w:World)(hf:FldS w w.heap.size A1 A2 A3 A4 f)(hm:Small f)(hc:Caps c1 c2 c3 c4 f):
  Calls Tryz.prog 35 #[.agg (fq A1 A2 A3 A4 c1 c2 c3 c4 f)] w fun e w'=>e=.returned (.int .i64 (if Pl.fieldE f=0 then 1+((f.li.length:Nat):Int)*(f.st.length:Nat)else 0))∧Below w.heap.size w w':=by
 have kb:=heap_alloc_new w (.cells (fq A1 A2 A3 A4 c1 c2 c3 c4 f) 28)
 obtain⟨E,hE⟩: ∃E,Pl.fieldE f=E:=⟨_,rfl⟩
 rw[hE]
 have HE:=Lib.hid hE
 by_cases h:E=0
 ·have hok:=Pl.fieldE_ok (hE.trans h)
  have b1:=hok.li10
  have b2:=hok.st12
  subst h
  clear hE hok
  go_enter Tryz.func35,Tryz.ntmps35
  go_wp2_with (first
   |(go_at_call 22;refine(checkField_h A1 A2 A3 A4 c1 c2 c3 c4 f 0 _ HE (hf.up (by go_grown)) hm hc).mono ?_;rintro e w1 ⟨rfl,hx⟩;obtain⟨kb,hckb,hfkb,hltkb⟩:=kB hx kb;have hall:Below w.heap.size w w1:=Below.trans (by go_grown) (hx.mono (by go_size));have hsz:w.heap.size<=w1.heap.size:=hall.size;clear hx)
   |(go_at_call 106;refine(points_a A1 A2 A3 A4 c1 c2 c3 c4 f _ (by omega) (by omega)).mono ?_;rintro e w2 ⟨rfl,hx2⟩;have hb2:Below w.heap.size w w2:=Below.trans (by go_grown) (hx2.mono (by go_size));clear hx2;have hsz2:w.heap.size<=w2.heap.size:=hb2.size))
  go_ret
  exact⟨by simp,by go_grown⟩
 ·have hne:(E !=0)=true:=by simpa using h
  clear hE
  rw[if_neg h]
  go_enter Tryz.func35,Tryz.ntmps35
  go_wp2_with (first
   |(go_at_call 22;refine(checkField_h A1 A2 A3 A4 c1 c2 c3 c4 f E _ HE (hf.up (by go_grown)) hm hc).mono ?_;rintro e w1 ⟨rfl,hx⟩;obtain⟨kb,hckb,hfkb,hltkb⟩:=kB hx kb;have hall:Below w.heap.size w w1:=Below.trans (by go_grown) (hx.mono (by go_size));have hsz:w.heap.size<=w1.heap.size:=hall.size;clear hx))
  go_ret
  exact⟨rfl,by go_grown⟩
theorem Nature_ok (w:World)(hf:FldS w w.heap.size A1 A2 A3 A4 f)(hm:Small f)(hc:Caps c1 c2 c3 c4 f)(h:Pl.fieldE f=0):
  Calls Tryz.prog 26 #[.agg (fq A1 A2 A3 A4 c1 c2 c3 c4 f)] w fun e w'=> ∃A c,e=.returned (.tuple #[.slice A (Pl.nature f.st.length f.li.length).length c,.int .i64 0])∧Bds w' w'.heap.size A (Pl.nature f.st.length f.li.length)∧From w.heap.size A∧Below w.heap.size w w':=by
 have kb:=heap_alloc_new w (.cells (fq A1 A2 A3 A4 c1 c2 c3 c4 f) 28)
 have hok:=Pl.fieldE_ok h
 have b0:=hok.li1
 have b1:=hok.li10
 have b2:=hok.st12
 have HE:=Lib.hid h
 clear h hok
 go_enter Tryz.func26,Tryz.ntmps26
 go_wp2_with (first
  |(go_at_call 22;refine(checkField_h A1 A2 A3 A4 c1 c2 c3 c4 f 0 _ HE (hf.up (by go_grown)) hm hc).mono ?_;rintro e w1 ⟨rfl,hx⟩;obtain⟨kb,hckb,hfkb,hltkb⟩:=kB hx kb;have hall:Below w.heap.size w w1:=Below.trans (by go_grown) (hx.mono (by go_size));have hsz:w.heap.size<=w1.heap.size:=hall.size;clear hx)
  |(go_at_call 89;refine(nature_a A1 A2 A3 A4 c1 c2 c3 c4 f _ b2 b0 b1).mono ?_;rintro e w2 ⟨A',c',rfl,hN,hc',hF,hx⟩;obtain⟨kb,hckb,hfkb,hltkb⟩:=kB hx kb;have hall:Below w.heap.size w w2:=Below.trans (by go_grown) (hx.mono (by go_size));have hsz:w.heap.size<=w2.heap.size:=hall.size;clear hx))
 go_ret2
 exact⟨A',c',rfl,hN,fun a ha=>by have:=hF a ha;omega,by go_grown⟩
theorem Nature_no (E:Int)(w:World)(hf:FldS w w.heap.size A1 A2 A3 A4 f)(hm:Small f)(hc:Caps c1 c2 c3 c4 f)(h:Hid (Pl.fieldE f=E))(hne:E≠0):
  Calls Tryz.prog 26 #[.agg (fq A1 A2 A3 A4 c1 c2 c3 c4 f)] w fun e w'=>e=.returned (.tuple #[.slice none 0 0,.int .i64 E])∧Below w.heap.size w w':=by
 have kb:=heap_alloc_new w (.cells (fq A1 A2 A3 A4 c1 c2 c3 c4 f) 28)
 have hne':(E !=0)=true:=by simpa using hne
 clear hne
 go_enter Tryz.func26,Tryz.ntmps26
 go_wp2_with (first
  |(go_at_call 22;refine(checkField_h A1 A2 A3 A4 c1 c2 c3 c4 f E _ h (hf.up (by go_grown)) hm hc).mono ?_;rintro e w1 ⟨rfl,hx⟩;obtain⟨kb,hckb,hfkb,hltkb⟩:=kB hx kb;have hall:Below w.heap.size w w1:=Below.trans (by go_grown) (hx.mono (by go_size));have hsz:w.heap.size<=w1.heap.size:=hall.size;clear hx))
 go_ret2
 exact⟨rfl,by go_grown⟩
end Go.Proofs.YtgbpekeoegfjpaaGreatDoor
/- Plain laws of chapter 03: drawings, as the program looks at them. No program. -/
namespace Go.Proofs.YtgbpekeoegfjpaaGreatDoor
variable (A1 A2 A3 A4 : Option Addr) (c1 c2 c3 c4 : Nat) (f : Pl.Fld)
namespace Pl
variable (A1 A2 A3 A4 : Option Addr) (c1 c2 c3 c4 : Nat) (f : Pl.Fld)
def keepsB (l:List Bd)(y:List Int):Bool:= !(l.any fun b=>decide (b.most<at0 y b.till-at0 y b.fr))
theorem keepsB_iff {l:List Bd}{y:List Int}:keepsB l y=true↔keeps l y:=by
 unfold keepsB keeps at0
 rw[Bool.not_eq_true',List.any_eq_false]
 simp only[decide_eq_true_eq]
 exact⟨fun h b hb=>by have:=h b hb;omega,fun h b hb=>by have:=h b hb;omega⟩
def rangedB (y:List Int):Bool:= !(y.any fun n=> !inB n 0 100000)
theorem rangedB_iff {y:List Int}:rangedB y=true↔ ∀n∈y,0<=n∧n<=100000:=by
 unfold rangedB
 rw[Bool.not_eq_true',List.any_eq_false]
 simp[inB]
def drawnB (S L:Nat)(y:List Int):Bool:=decide (y.length=1+L*S)&&(decide (at0 y 0=0)&&(rangedB y&&keepsB (nature S L) y))
theorem drawnB_iff {S L:Nat}{y:List Int}:drawnB S L y=true↔drawnR S L y:=by
 unfold drawnB
 simp only[Bool.and_eq_true,decide_eq_true_eq,rangedB_iff,keepsB_iff]
 rw[<-drawn_iff]
 constructor
 ·rintro⟨h1,h2,h3,h4⟩;exact⟨h1,h2,h4⟩
 ·rintro⟨h1,h2,h3⟩
  refine⟨h1,h2,?_,h3⟩
  intro n hn
  obtain⟨k,hk,rfl⟩:=List.getElem_of_mem hn
  have h0:at0 y k=y[k]:=by unfold at0;rw[List.getElem?_eq_getElem hk];rfl
  rw[<-h0]
  rcases Nat.eq_zero_or_pos k with h|h
  ·subst h;unfold at0;rw[h2];decide
  ·have hm: ∀b∈natOne k,(y[b.till]?.getD 0)-(y[b.fr]?.getD 0)<=b.most:=by
    intro b hb
    refine h3 b ?_
    unfold nature
    rw[List.mem_append]
    exact .inl (List.mem_flatMap.2 ⟨k-1,List.mem_range.2 (by omega),by rw[Nat.sub_add_cancel h];exact hb⟩)
   have a:=hm ⟨0,k,100000,0⟩ (by simp[natOne])
   have b:=hm ⟨k,0,0,0⟩ (by simp[natOne])
   simp only[h2]at a b
   unfold at0
   omega
theorem nature_pts {S L:Nat}: ∀b∈nature S L,b.fr<1+L*S∧b.till<1+L*S∧0<=b.most∧b.most<=100000:=by
 intro b hb
 unfold nature at hb
 rcases List.mem_append.1 hb with h|h
 ·obtain⟨p,hp,hb⟩:=List.mem_flatMap.1 h
  have:=List.mem_range.1 hp
  simp only[natOne,List.mem_cons,List.not_mem_nil,or_false]at hb
  rcases hb with rfl|rfl<;>simp<;>omega
 ·obtain⟨l,hl,hb⟩:=List.mem_flatMap.1 h
  obtain⟨s,hs,rfl⟩:=List.mem_map.1 hb
  have h1:=List.mem_range.1 hl
  have h2:=List.mem_range.1 hs
  exact⟨point_lt (by omega) h2,point_lt (by omega) h2,by simp,by simp⟩
theorem at0_get {y:List Int}{k:Nat}(h:k<y.length):at0 y k=y[k]:=by unfold at0;rw[List.getElem?_eq_getElem h];rfl
def hasB (S:Nat)(y:List Int)(s o:Int)(p:Par):Bool:=
 decide (p.fr<=s)&&(decide (s<p.till)&&(decide (at0 y (pointN S p.south.toNat s.toNat)<=o)&&decide (o<at0 y (pointN S (p.south.toNat+1) s.toNat))))
end Pl
end Go.Proofs.YtgbpekeoegfjpaaGreatDoor
/- Walks: kept, drawn, At. -/
namespace Go.Proofs.YtgbpekeoegfjpaaGreatDoor
open Go.RowKit
variable (A1 A2 A3 A4 : Option Addr) (c1 c2 c3 c4 : Nat) (f : Pl.Fld)
set_option maxHeartbeats 2000000 in
theorem kept1_a (A:Option Addr)(c by_:Nat)(y:List Int)(b:Pl.Bd)(w:World)(hb:w.heap[by_]?=some (.cells #[.slice A y.length c] 62 (0,0)))(hy:Ints w w.heap.size A y)
  (h1:b.fr<y.length) (h2:b.till<y.length) (hr: ∀n∈y,0<=n∧n<=100000):
  Calls Tryz.prog 175 #[.agg (i4 (b.fr:Int) (b.till:Int) b.most b.record),.pointer (some ⟨by_,0,none⟩)] w fun e w'=>e=.returned (.bool (decide (b.most<Pl.at0 y b.till-Pl.at0 y b.fr)))∧Below w.heap.size w w':=by
 obtain⟨f,t,m,r⟩:=b
 simp only at h1 h2
 obtain⟨g,off,hA,hg,q1⟩:=Ints.at1 hy h1
 obtain⟨g',off',hA',_,q2⟩:=Ints.at1 hy h2
 rw[hA]at hA'
 obtain⟨rfl,rfl⟩:g=g'∧off=off':=by simpa using hA'
 clear hA'
 subst hA
 obtain⟨r0,r1⟩:=hr y[f] (List.getElem_mem h1)
 obtain⟨r2,r3⟩:=hr y[t] (List.getElem_mem h2)
 have HV:Hid (decide (m<y[t]-y[f])=decide (m<Pl.at0 y t-Pl.at0 y f)):=Lib.hid (by rw[Pl.at0_get h1,Pl.at0_get h2])
 obtain⟨u,hu⟩: ∃u,y[f]=u:=⟨_,rfl⟩
 obtain⟨v,hv⟩: ∃v,y[t]=v:=⟨_,rfl⟩
 rw[hu]at q1 r0 r1 HV
 rw[hv]at q2 r2 r3 HV
 clear hu hv hr hy
 obtain⟨hcb,hfb⟩:=blk_cells hb
 have hlt:=(lO hb)
 have kb:=heap_alloc_new w (.cells (i4 (f:Int) (t:Int) m r) 99)
 obtain⟨hckb,hfkb⟩:=blk_cells kb
 have s0:(w.alloc (.cells (i4 (f:Int) (t:Int) m r) 99)).cell? ⟨by_,0,none⟩=some (.slice (some ⟨g,off,none⟩) y.length c):=(World.cell?_of_block (Below.heap_alloc _ _ _ hlt)).trans (hcb 0)
 have s1:(w.alloc (.cells (i4 (f:Int) (t:Int) m r) 99)).cell? ⟨g,off+f,none⟩=some (.int .i64 u):=(World.cell?_of_block (Below.heap_alloc _ _ _ hg)).trans q1
 have s2:(w.alloc (.cells (i4 (f:Int) (t:Int) m r) 99)).cell? ⟨g,off+t,none⟩=some (.int .i64 v):=(World.cell?_of_block (Below.heap_alloc _ _ _ hg)).trans q2
 have e1:(0:Int)<=(f:Int):=by omega
 have e2:(f:Int)<(y.length:Int):=by omega
 have e3:(0:Int)<=(t:Int):=by omega
 have e4:(t:Int)<(y.length:Int):=by omega
 have e5:IntKind.i64.wrap (v-u)=v-u:=IntWalk.i64_in _ (by omega)
 go_enter Tryz.func175,Tryz.ntmps175
 go_wp2
 go_region_held3 (fun W=>W.cell? ⟨w.heap.size,0,none⟩=some (.int .i64 (f:Int))∧W.cell? ⟨w.heap.size,1,none⟩=some (.int .i64 (t:Int))∧W.cell? ⟨w.heap.size,2,none⟩=some (.int .i64 m)∧W.cell? ⟨by_,0,none⟩=some (.slice (some ⟨g,off,none⟩) y.length c)∧W.cell? ⟨g,off+f,none⟩=some (.int .i64 u)∧W.cell? ⟨g,off+t,none⟩=some (.int .i64 v)) (exact⟨hckb 0,hckb 1,hckb 2,s0,s1,s2⟩) (fail)
 all_goals go_wp2
 all_goals go_ret
 all_goals exact⟨ret_bool (by rw[<-HV.out]),by first|(go_grown;done)|exact below_drewN (by go_grown) _⟩
theorem kept_a (A A':Option Addr)(c c':Nat)(l:List Pl.Bd)(y:List Int)(K:Bool)(w:World)(hl:Bds w w.heap.size A l)(hm:l.length<=100000)(hy:Ints w w.heap.size A' y)
  (hp: ∀b∈l,b.fr<y.length∧b.till<y.length) (hr: ∀n∈y,0<=n∧n<=100000) (hK:Hid (Pl.keepsB l y=K)):
  Calls Tryz.prog 107 #[.slice A l.length c,.slice A' y.length c'] w fun e w'=>e=.returned (.bool K)∧Below w.heap.size w w':=by
 have kb:=heap_alloc_new w (.cells #[.slice A' y.length c'] 62)
 have hC:=fun(W:World) (hW:Below w.heap.size w W) (hkW:W.heap[w.heap.size]?=some (.cells #[.slice A' y.length c'] 62 (0,0)))=>
  conF_b A c l 175 #[.pointer (some ⟨w.heap.size,0,none⟩)] (fun b=>decide (b.most<Pl.at0 y b.till-Pl.at0 y b.fr)) W (hl.up hW) (by omega) (enters_of (P:=Tryz.prog) Tryz.func175 (by kernel_rfl) rfl)
  (fun b hb W' hW'=>kept1_a A' c' w.heap.size y b W' ((hW'.block _ (lO hkW)).trans hkW) ((hy.up hW).up hW') (hp b hb).1 (hp b hb).2 hr)
 have hmf: ∀(fn:Fn) (first cap:Array Value) (w:World),(Instr.makeFunc fn first cap).run Tryz.prog w=.ok (.func fn first cap) w:=fun _ _ _ _=>rfl
 have HK:Hid ((!(l.any fun b=>decide (b.most<Pl.at0 y b.till-Pl.at0 y b.fr)))=K):=hK
 go_enter Tryz.func107,Tryz.ntmps107
 go_wp2_with (go_at_call 174;refine(hC _ (by go_grown) kb).mono ?_;rintro e w1 ⟨rfl,hx1⟩;have hb1:Below w.heap.size w w1:=Below.trans (by go_grown) (hx1.mono (by go_size));clear hx1;have hsz1:w.heap.size<=w1.heap.size:=hb1.size)
 go_ret
 exact⟨ret_bool HK.out,by go_grown⟩
end Go.Proofs.YtgbpekeoegfjpaaGreatDoor
