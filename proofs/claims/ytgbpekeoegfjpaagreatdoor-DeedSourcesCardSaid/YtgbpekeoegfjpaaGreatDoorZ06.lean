/- Texts of mine, merged: DL, PlS, EA, St, Ld. -/
import Derived.Deep.MidRow
import Derived.Test.YtgbpekeoegfjpaaGreatDoorZ00
import Derived.Test.YtgbpekeoegfjpaaGreatDoorZ03
import Derived.Test.YtgbpekeoegfjpaaGreatDoorZ05
import Derived.Test.YtgbpekeoegfjpaaGreatDoorZ02
/- Walks: drawn, Drawn, At. -/
set_option maxRecDepth 100000
namespace Go.Proofs.YtgbpekeoegfjpaaGreatDoor
open Go.RowKit
theorem drawn1_a (n:Int)(w:World):Calls Tryz.prog 173 #[.int .i64 n] w fun e w'=>e=.returned (.bool (!Pl.inB n 0 100000))∧Below w.heap.size w w':=by
 go_enter Tryz.func173,Tryz.ntmps173
 go_wp2_with (go_at_call 84;refine(inD_a _ _ _ _).mono ?_;rintro e w' ⟨rfl,rfl⟩)
 go_ret
 exact⟨rfl,by go_grown⟩
theorem ranged_a (A:Option Addr)(c:Nat)(y:List Int)(b:Bool)(w:World)(hy:Ints w w.heap.size A y)(hm:y.length<=100000)(hb:Hid ((y.any fun n=> !Pl.inB n 0 100000)=b)):
  Calls Tryz.prog 172 #[.slice A y.length c,.func (.func 173) #[] #[]] w fun e w'=>e=.returned (.bool b)∧Below w.heap.size w w':=by
 have:=conF_i A c y 173 #[] (fun n=> !Pl.inB n 0 100000) w hy (by omega) (enters_of (P:=Tryz.prog) Tryz.func173 (by kernel_rfl) rfl) (fun x _ W _=>drawn1_a x W)
 rw[hb.out]at this
 exact this
set_option maxHeartbeats 2000000 in
theorem drawn_a (A1 A2 A3 A4:Option Addr)(c1 c2 c3 c4:Nat)(f:Pl.Fld)(A:Option Addr)(c:Nat)(y:List Int)(w:World)(hS:f.st.length<=12)(hL1:1<=f.li.length)(hL:f.li.length<=10)(hy:Ints w w.heap.size A y)(hm:y.length<=100000):
  Calls Tryz.prog 105 #[.agg (fq A1 A2 A3 A4 c1 c2 c3 c4 f),.slice A y.length c] w fun e w'=>e=.returned (.bool (Pl.drawnB f.st.length f.li.length y))∧Below w.heap.size w w':=by
 obtain⟨N,hN⟩: ∃N,f.li.length*f.st.length=N:=⟨_,rfl⟩
 have hNb:N<=120:=by rw[<-hN];have:=Nat.mul_le_mul hL hS;omega
 have HN:Hid (((f.li.length:Nat):Int)*(f.st.length:Nat)=(N:Int)):=Lib.hid (by rw[<-hN];simp)
 have HM:=Lib.hid hN
 clear hN
 have kb:=heap_alloc_new w (.cells (fq A1 A2 A3 A4 c1 c2 c3 c4 f) 28)
 by_cases hl:y.length=1+N
 ·have hl':((y.length:Int) !=1+(N:Int))=false:=by simp;omega
  have h0:0<y.length:=by omega
  have HL:=Lib.hid hl
  clear hl
  obtain⟨g,off,hA,hg,q0⟩:=Ints.at1 hy h0
  have hyy:Ints w w.heap.size (some ⟨g,off,none⟩) y:=hA▸hy
  subst hA
  simp only[Nat.add_zero]at q0
  have e0:(0:Int)<(y.length:Int):=by omega
  by_cases hz:y[0]=0
  ·rw[hz]at q0
   have HZ:Hid (Pl.at0 y 0=0):=Lib.hid (by rw[Pl.at0_get h0,hz])
   obtain⟨b,hb⟩: ∃b,(y.any fun n=> !Pl.inB n 0 100000)=b:=⟨_,rfl⟩
   have HB:=Lib.hid hb
   clear hz hb
   cases b with
   | true=>
    have HD:Hid (Pl.drawnB f.st.length f.li.length y=false):=Lib.hid (by unfold Pl.drawnB Pl.rangedB;rw[HB.out];simp)
    go_enter Tryz.func105,Tryz.ntmps105
    go_wp2_with (first
     |(go_at_call 106;refine(points_n A1 A2 A3 A4 c1 c2 c3 c4 f N _ (by omega) (by omega) HN).mono ?_;rintro e w1 ⟨rfl,hx⟩;obtain⟨kb,hckb,hfkb,hltkb⟩:=kB hx kb;have hall:Below w.heap.size w w1:=Below.trans (by go_grown) (hx.mono (by go_size));have hsz:w.heap.size<=w1.heap.size:=hall.size;have q1:=(hall.cell (p:=⟨g,off,none⟩) hg).trans q0;clear hx)
     |(go_at_call 172;refine(ranged_a (some ⟨g,off,none⟩) c y true _ (hyy.up (by go_grown)) hm HB).mono ?_;rintro e w2 ⟨rfl,hx2⟩;have hb2:Below w.heap.size w w2:=Below.trans (by go_grown) (hx2.mono (by go_size));clear hx2;have hsz2:w.heap.size<=w2.heap.size:=hb2.size))
    go_ret
    exact⟨ret_bool (by rw[HD.out]),by go_grown⟩
   | false=>
    obtain⟨K,hK⟩: ∃K,Pl.keepsB (Pl.nature f.st.length f.li.length) y=K:=⟨_,rfl⟩
    have HK:=Lib.hid hK
    have hr:Hid (∀n∈y,0<=n∧n<=100000):=Lib.hid (Pl.rangedB_iff.1 (by unfold Pl.rangedB;rw[HB.out];rfl))
    have HD:Hid (Pl.drawnB f.st.length f.li.length y=K):=Lib.hid (by unfold Pl.drawnB Pl.rangedB;rw[HB.out,HK.out,HZ.out,HL.out,<-HM.out];simp)
    have hlen:(Pl.nature f.st.length f.li.length).length<=100000:=by
     rw[Pl.nature_len,HM.out]
     have:(f.li.length-1)*f.st.length<=9*12:=Nat.mul_le_mul (by omega) hS
     omega
    have hpt:Hid (∀b∈Pl.nature f.st.length f.li.length,b.fr<y.length∧b.till<y.length):=Lib.hid fun b hb=>by
     have:=Pl.nature_pts b hb
     rw[HM.out]at this
     rw[HL.out]
     exact⟨this.1,this.2.1⟩
    clear hK
    go_enter Tryz.func105,Tryz.ntmps105
    go_wp2_with (first
     |(go_at_call 106;refine(points_n A1 A2 A3 A4 c1 c2 c3 c4 f N _ (by omega) (by omega) HN).mono ?_;rintro e w1 ⟨rfl,hx⟩;obtain⟨kb,hckb,hfkb,hltkb⟩:=kB hx kb;have hall:Below w.heap.size w w1:=Below.trans (by go_grown) (hx.mono (by go_size));have hsz:w.heap.size<=w1.heap.size:=hall.size;have q1:=(hall.cell (p:=⟨g,off,none⟩) hg).trans q0;clear hx)
     |(go_at_call 172;refine(ranged_a (some ⟨g,off,none⟩) c y false _ (hyy.up (by go_grown)) hm HB).mono ?_;rintro e w2 ⟨rfl,hx⟩;obtain⟨kb,hckb,hfkb,hltkb⟩:=kB hx kb;have hall:Below w.heap.size w w2:=Below.trans (by go_grown) (hx.mono (by go_size));have hsz:w.heap.size<=w2.heap.size:=hall.size;clear hx)
     |(go_at_call 89;refine(nature_a A1 A2 A3 A4 c1 c2 c3 c4 f _ hS hL1 hL).mono ?_;rintro e w3 ⟨A',c',rfl,hN,hc',hF,hx⟩;obtain⟨kb,hckb,hfkb,hltkb⟩:=kB hx kb;have hall:Below w.heap.size w w3:=Below.trans (by go_grown) (hx.mono (by go_size));have hsz:w.heap.size<=w3.heap.size:=hall.size;clear hx)
     |(go_at_call 107;refine(kept_a A' (some ⟨g,off,none⟩) c' c _ y K _ (hN.up (by go_grown)) hlen (hyy.up (by go_grown)) hpt.out hr.out HK).mono ?_;rintro e w4 ⟨rfl,hx4⟩;have hb4:Below w.heap.size w w4:=Below.trans (by go_grown) (hx4.mono (by go_size));clear hx4;have hsz4:w.heap.size<=w4.heap.size:=hb4.size))
    go_ret
    exact⟨ret_bool (by rw[HD.out]),by go_grown⟩
  ·have HD:Hid (Pl.drawnB f.st.length f.li.length y=false):=Lib.hid (by unfold Pl.drawnB;rw[Pl.at0_get h0];simp[hz])
   have hz':(y[0] !=0)=true:=by simpa using hz
   clear hz
   go_enter Tryz.func105,Tryz.ntmps105
   go_wp2_with (first
    |(go_at_call 106;refine(points_n A1 A2 A3 A4 c1 c2 c3 c4 f N _ (by omega) (by omega) HN).mono ?_;rintro e w1 ⟨rfl,hx⟩;obtain⟨kb,hckb,hfkb,hltkb⟩:=kB hx kb;have hall:Below w.heap.size w w1:=Below.trans (by go_grown) (hx.mono (by go_size));have hsz:w.heap.size<=w1.heap.size:=hall.size;have q1:=(hall.cell (p:=⟨g,off,none⟩) hg).trans q0;clear hx))
   go_ret
   exact⟨ret_bool (by rw[HD.out]),by go_grown⟩
 ·have HD:Hid (Pl.drawnB f.st.length f.li.length y=false):=Lib.hid (by unfold Pl.drawnB;rw[HM.out];simp[hl])
  have hl':((y.length:Int) !=1+(N:Int))=true:=by simp;omega
  clear hl
  go_enter Tryz.func105,Tryz.ntmps105
  go_wp2_with (first
   |(go_at_call 106;refine(points_n A1 A2 A3 A4 c1 c2 c3 c4 f N _ (by omega) (by omega) HN).mono ?_;rintro e w1 ⟨rfl,hx⟩;obtain⟨kb,hckb,hfkb,hltkb⟩:=kB hx kb;have hall:Below w.heap.size w w1:=Below.trans (by go_grown) (hx.mono (by go_size));have hsz:w.heap.size<=w1.heap.size:=hall.size;clear hx))
  go_ret
  exact⟨ret_bool (by rw[HD.out]),by go_grown⟩
end Go.Proofs.YtgbpekeoegfjpaaGreatDoor
/- Plain laws of chapter 03: what makes a call right, test by test. No program. -/
namespace Go.Proofs.YtgbpekeoegfjpaaGreatDoor
namespace Pl
def Crs.isZ (c:Crs):Bool:=c.b==0&&(c.n==0&&(c.l==0&&(c.y==0&&(c.x==0&&c.s==0))))
theorem Crs.isZ_iff {c:Crs}:c.isZ=true↔c=Crs.zero:=by
 obtain⟨b,n,l,y,x,s⟩:=c
 simp[Crs.isZ,Crs.zero]
def limB (L:Nat)(n:Int):Bool:=inB n 0 ((L:Int)-1)
theorem limB_iff {L:Nat}{n:Int}:limB L n=true↔inN n L:=by
 unfold limB inB inN
 simp
 omega
def sizedB (c:Cal)(low:Int):Bool:=inB c.size low 100000&&inB c.er 0 100000
theorem sizedB_iff {c:Cal}{low:Int}:sizedB c low=true↔(low<=c.size∧c.size<=100000)∧0<=c.er∧c.er<=100000:=by
 unfold sizedB inB
 simp
def own1 (c:Cal):Bool:=c.oth==0&&(c.till==0&&c.crs.isZ)
def own2 (c:Cal):Bool:=c.till==0&&c.crs.isZ
def own3 (c:Cal):Bool:=c.oth==0&&(c.size==0&&c.er==0)
def own4 (c:Cal):Bool:=c.size==0&&(c.er==0&&c.crs.isZ)
def own5 (c:Cal):Bool:=c.oth==0&&c.crs.isZ
def stoneB (S L:Nat)(c:Cal):Bool:=own1 c&&limB L c.lim&&limB S c.fr&&sizedB c 0
def widthB (S L:Nat)(c:Cal):Bool:=own2 c&&(limB L c.lim&&limB L c.oth)&&decide (c.lim<c.oth)&&limB S c.fr&&sizedB c 0
def courseB (S L:Nat)(c:Cal):Bool:=own3 c&&limB L c.lim&&(limB S c.fr&&limB S c.till)&&(c.fr !=c.till)&&c.crs.ok
def alongB (S L:Nat)(c:Cal):Bool:=own4 c&&(limB L c.lim&&limB L c.oth)&&decide (c.lim<c.oth)&&(limB S c.fr&&limB S c.till)&&decide (c.fr<c.till)
def levelB (S L:Nat)(c:Cal):Bool:=own5 c&&limB L c.lim&&(limB S c.fr&&limB S c.till)&&(c.fr !=c.till)&&sizedB c (-100000)
def rightB (S L:Nat)(c:Cal):Bool:=
 if c.kind=1 then stoneB S L c else if c.kind=2 then widthB S L c else if c.kind=3 then courseB S L c else if c.kind=4 then alongB S L c else if c.kind=5 then levelB S L c else false
theorem rightB_iff {S L:Nat}{c:Cal}:rightB S L c=true↔c.tab S L∧(c.kind=3->c.crs.ok=true):=by
 unfold rightB Cal.tab stoneB widthB courseB alongB levelB own1 own2 own3 own4 own5
 by_cases h1:c.kind=1
 ·simp[h1,Crs.isZ_iff,limB_iff,sizedB_iff]
  grind
 rw[if_neg h1]
 by_cases h2:c.kind=2
 ·simp[h2,Crs.isZ_iff,limB_iff,sizedB_iff]
  unfold inN;grind
 rw[if_neg h2]
 by_cases h3:c.kind=3
 ·simp[h3,limB_iff]
  unfold inN;grind
 rw[if_neg h3]
 by_cases h4:c.kind=4
 ·simp[h4,Crs.isZ_iff,limB_iff]
  unfold inN;grind
 rw[if_neg h4]
 by_cases h5:c.kind=5
 ·simp[h5,Crs.isZ_iff,limB_iff,sizedB_iff]
  unfold inN;grind
 ·rw[if_neg h5]
  simp[h1,h2,h3,h4,h5]
def checkE (f:Fld)(c:Cal):Int:=
 if rightB f.st.length f.li.length c=false then 1
 else if c.kind≠3 then 0
 else if (decl f.va c.crs.y).2=false then 20
 else if comE f.va [c.crs] (runC f.st c)≠0 then comE f.va [c.crs] (runC f.st c)
 else if (com f.va [c.crs] (runC f.st c)).2.2=true then 0 else 5
theorem checkE_eq {f:Fld}{c:Cal}(hv:vars f.va=0):checkE f c=callE f c:=by
 unfold checkE callE
 by_cases ht:c.tab f.st.length f.li.length
 ·by_cases h3:c.kind=3
  ·cases hk:c.crs.ok with
   | false=>
    have hr:rightB f.st.length f.li.length c=false:=by
     cases hr:rightB f.st.length f.li.length c with
     |false=>rfl
     |true=>have:=(rightB_iff.1 hr).2 h3;rw[hk]at this;cases this
    simp[hr,ht,h3]
   | true=>
    have hr:rightB f.st.length f.li.length c=true:=rightB_iff.2 ⟨ht,fun _=>hk⟩
    cases hd:(decl f.va c.crs.y).2 with
    |true=>simp[hr,ht,h3]
    | false=>
     have:comE f.va [c.crs] (runC f.st c)=20:=by
      unfold comE commonE
      simp[hv,hk,hd]
     simp[hr,ht,h3,this]
  ·have hr:rightB f.st.length f.li.length c=true:=rightB_iff.2 ⟨ht,fun h=>absurd h h3⟩
   simp[hr,ht,h3]
 ·have hr:rightB f.st.length f.li.length c=false:=by
   cases hr:rightB f.st.length f.li.length c with
   |false=>rfl
   |true=>exact absurd (rightB_iff.1 hr).1 ht
  simp[hr,ht]
end Pl
open Go.RowKit
theorem ints1 {w:World}{g:Nat}{x:Int}{t:TypeId}(h:w.heap[g]?=some (.cells #[.int .i64 x] t (0,0))):Ints w w.heap.size (some ⟨g,0,none⟩) [x]:=by
 obtain⟨hc,_⟩:=blk_cells h
 refine .inr ⟨g,0,rfl,(lO h),fun k y hy j v hv=> ?_⟩
 rw[hc]
 match k,hy with
 |0,hy=>simp at hy;subst hy;simpa [encInt]using hv
theorem ints2 {w:World}{g:Nat}{x y:Int}{t:TypeId}(h:w.heap[g]?=some (.cells (i2 x y) t (0,0))):Ints w w.heap.size (some ⟨g,0,none⟩) [x,y]:=by
 obtain⟨hc,_⟩:=blk_cells h
 refine .inr ⟨g,0,rfl,(lO h),fun k z hz j v hv=> ?_⟩
 have hj:j=0:=by
  have:=(List.getElem?_eq_some_iff.1 hv).1
  simp[encInt]at this;exact this
 subst hj
 rw[hc]
 match k,hz with
 |0,hz=>simp at hz;subst hz;simpa [encInt]using hv
 |1,hz=>simp at hz;subst hz;simpa [encInt]using hv
theorem lim1_a (A1 A2 A3 A4:Option Addr)(c1 c2 c3 c4:Nat)(f:Pl.Fld)(k:Int)(c:Pl.Cal)(bc:Nat)(n:Int)(w:World)(hb:w.heap[bc]?=some (.cells (fkq A1 A2 A3 A4 c1 c2 c3 c4 f k c) 128 (0,0)))(hm:f.li.length<=100000):
  Calls Tryz.prog 318 #[.int .i64 n,.pointer (some ⟨bc,0,none⟩)] w fun e w'=>e=.returned (.bool (!Pl.limB f.li.length n))∧Below w.heap.size w w':=by
 obtain⟨hcb,hfb⟩:=blk_cells hb
 go_enter Tryz.func318,Tryz.ntmps318
 go_wp2_with (go_at_call 84;refine(inD_a _ _ _ _).mono ?_;rintro e w' ⟨rfl,rfl⟩)
 go_ret
 exact⟨rfl,by go_grown⟩
theorem sta1_a (A1 A2 A3 A4:Option Addr)(c1 c2 c3 c4:Nat)(f:Pl.Fld)(k:Int)(c:Pl.Cal)(bc:Nat)(n:Int)(w:World)(hb:w.heap[bc]?=some (.cells (fkq A1 A2 A3 A4 c1 c2 c3 c4 f k c) 128 (0,0)))(hm:f.st.length<=100000):
  Calls Tryz.prog 319 #[.int .i64 n,.pointer (some ⟨bc,0,none⟩)] w fun e w'=>e=.returned (.bool (!Pl.limB f.st.length n))∧Below w.heap.size w w':=by
 obtain⟨hcb,hfb⟩:=blk_cells hb
 go_enter Tryz.func319,Tryz.ntmps319
 go_wp2_with (go_at_call 84;refine(inD_a _ _ _ _).mono ?_;rintro e w' ⟨rfl,rfl⟩)
 go_ret
 exact⟨rfl,by go_grown⟩
theorem limits_a (A1 A2 A3 A4:Option Addr)(c1 c2 c3 c4:Nat)(f:Pl.Fld)(k:Int)(c:Pl.Cal)(A:Option Addr)(cp:Nat)(l:List Int)(b:Bool)(w:World)(hl:Ints w w.heap.size A l)(hml:l.length<=1000)(hm:f.li.length<=100000)(hb:Hid (l.all (Pl.limB f.li.length)=b)):
  Calls Tryz.prog 270 #[.agg (fkq A1 A2 A3 A4 c1 c2 c3 c4 f k c),.slice A l.length cp] w fun e w'=>e=.returned (.bool b)∧Below w.heap.size w w':=by
 have kb:=heap_alloc_new w (.cells (fkq A1 A2 A3 A4 c1 c2 c3 c4 f k c) 128)
 have hC:=fun(W:World) (hW:Below w.heap.size w W) (hkW:W.heap[w.heap.size]?=some (.cells (fkq A1 A2 A3 A4 c1 c2 c3 c4 f k c) 128 (0,0)))=>
  conF_i A cp l 318 #[.pointer (some ⟨w.heap.size,0,none⟩)] (fun n=> !Pl.limB f.li.length n) W (hl.up hW) (by omega) (enters_of (P:=Tryz.prog) Tryz.func318 (by kernel_rfl) rfl)
  (fun x _ W' hW'=>lim1_a A1 A2 A3 A4 c1 c2 c3 c4 f k c w.heap.size x W' ((hW'.block _ (lO hkW)).trans hkW) hm)
 have hmf: ∀(fn:Fn) (first cap:Array Value) (w:World),(Instr.makeFunc fn first cap).run Tryz.prog w=.ok (.func fn first cap) w:=fun _ _ _ _=>rfl
 have HK:Hid ((!(l.any fun n=> !Pl.limB f.li.length n))=b):=Lib.hid (by rw[<-hb.out,List.all_eq_not_any_not])
 go_enter Tryz.func270,Tryz.ntmps270
 go_wp2_with (go_at_call 172;refine(hC _ (by go_grown) kb).mono ?_;rintro e w1 ⟨rfl,hx1⟩;have hb1:Below w.heap.size w w1:=Below.trans (by go_grown) (hx1.mono (by go_size));clear hx1;have hsz1:w.heap.size<=w1.heap.size:=hb1.size)
 go_ret
 exact⟨ret_bool HK.out,by go_grown⟩
theorem stations_a (A1 A2 A3 A4:Option Addr)(c1 c2 c3 c4:Nat)(f:Pl.Fld)(k:Int)(c:Pl.Cal)(A:Option Addr)(cp:Nat)(l:List Int)(b:Bool)(w:World)(hl:Ints w w.heap.size A l)(hml:l.length<=1000)(hm:f.st.length<=100000)(hb:Hid (l.all (Pl.limB f.st.length)=b)):
  Calls Tryz.prog 271 #[.agg (fkq A1 A2 A3 A4 c1 c2 c3 c4 f k c),.slice A l.length cp] w fun e w'=>e=.returned (.bool b)∧Below w.heap.size w w':=by
 have kb:=heap_alloc_new w (.cells (fkq A1 A2 A3 A4 c1 c2 c3 c4 f k c) 128)
 have hC:=fun(W:World) (hW:Below w.heap.size w W) (hkW:W.heap[w.heap.size]?=some (.cells (fkq A1 A2 A3 A4 c1 c2 c3 c4 f k c) 128 (0,0)))=>
  conF_i A cp l 319 #[.pointer (some ⟨w.heap.size,0,none⟩)] (fun n=> !Pl.limB f.st.length n) W (hl.up hW) (by omega) (enters_of (P:=Tryz.prog) Tryz.func319 (by kernel_rfl) rfl)
  (fun x _ W' hW'=>sta1_a A1 A2 A3 A4 c1 c2 c3 c4 f k c w.heap.size x W' ((hW'.block _ (lO hkW)).trans hkW) hm)
 have hmf: ∀(fn:Fn) (first cap:Array Value) (w:World),(Instr.makeFunc fn first cap).run Tryz.prog w=.ok (.func fn first cap) w:=fun _ _ _ _=>rfl
 have HK:Hid ((!(l.any fun n=> !Pl.limB f.st.length n))=b):=Lib.hid (by rw[<-hb.out,List.all_eq_not_any_not])
 go_enter Tryz.func271,Tryz.ntmps271
 go_wp2_with (go_at_call 172;refine(hC _ (by go_grown) kb).mono ?_;rintro e w1 ⟨rfl,hx1⟩;have hb1:Below w.heap.size w w1:=Below.trans (by go_grown) (hx1.mono (by go_size));clear hx1;have hsz1:w.heap.size<=w1.heap.size:=hb1.size)
 go_ret
 exact⟨ret_bool HK.out,by go_grown⟩
theorem limits1 (A1 A2 A3 A4:Option Addr)(c1 c2 c3 c4:Nat)(f:Pl.Fld)(k:Int)(c:Pl.Cal)(g:Nat)(x:Int)(b:Bool)(w:World)(hg:w.heap[g]?=some (.cells #[.int .i64 x] 3 (0,0)))(hm:f.li.length<=100000)(hb:Hid (Pl.limB f.li.length x=b)):
  Calls Tryz.prog 270 #[.agg (fkq A1 A2 A3 A4 c1 c2 c3 c4 f k c),.slice (some ⟨g,0,none⟩) 1 1] w fun e w'=>e=.returned (.bool b)∧Below w.heap.size w w':=
 limits_a A1 A2 A3 A4 c1 c2 c3 c4 f k c _ 1 [x] b w (ints1 hg) (by simp) hm (Lib.hid (by simpa using hb.out))
theorem limits2 (A1 A2 A3 A4:Option Addr)(c1 c2 c3 c4:Nat)(f:Pl.Fld)(k:Int)(c:Pl.Cal)(g:Nat)(x y:Int)(b:Bool)(w:World)(hg:w.heap[g]?=some (.cells (i2 x y) 3 (0,0)))(hm:f.li.length<=100000)(hb:Hid ((Pl.limB f.li.length x&&Pl.limB f.li.length y)=b)):
  Calls Tryz.prog 270 #[.agg (fkq A1 A2 A3 A4 c1 c2 c3 c4 f k c),.slice (some ⟨g,0,none⟩) 2 2] w fun e w'=>e=.returned (.bool b)∧Below w.heap.size w w':=
 limits_a A1 A2 A3 A4 c1 c2 c3 c4 f k c _ 2 [x,y] b w (ints2 hg) (by simp) hm (Lib.hid (by simpa using hb.out))
theorem stations1 (A1 A2 A3 A4:Option Addr)(c1 c2 c3 c4:Nat)(f:Pl.Fld)(k:Int)(c:Pl.Cal)(g:Nat)(x:Int)(b:Bool)(w:World)(hg:w.heap[g]?=some (.cells #[.int .i64 x] 3 (0,0)))(hm:f.st.length<=100000)(hb:Hid (Pl.limB f.st.length x=b)):
  Calls Tryz.prog 271 #[.agg (fkq A1 A2 A3 A4 c1 c2 c3 c4 f k c),.slice (some ⟨g,0,none⟩) 1 1] w fun e w'=>e=.returned (.bool b)∧Below w.heap.size w w':=
 stations_a A1 A2 A3 A4 c1 c2 c3 c4 f k c _ 1 [x] b w (ints1 hg) (by simp) hm (Lib.hid (by simpa using hb.out))
theorem stations2 (A1 A2 A3 A4:Option Addr)(c1 c2 c3 c4:Nat)(f:Pl.Fld)(k:Int)(c:Pl.Cal)(g:Nat)(x y:Int)(b:Bool)(w:World)(hg:w.heap[g]?=some (.cells (i2 x y) 3 (0,0)))(hm:f.st.length<=100000)(hb:Hid ((Pl.limB f.st.length x&&Pl.limB f.st.length y)=b)):
  Calls Tryz.prog 271 #[.agg (fkq A1 A2 A3 A4 c1 c2 c3 c4 f k c),.slice (some ⟨g,0,none⟩) 2 2] w fun e w'=>e=.returned (.bool b)∧Below w.heap.size w w':=
 stations_a A1 A2 A3 A4 c1 c2 c3 c4 f k c _ 2 [x,y] b w (ints2 hg) (by simp) hm (Lib.hid (by simpa using hb.out))
theorem sized_a (A1 A2 A3 A4:Option Addr)(c1 c2 c3 c4:Nat)(f:Pl.Fld)(k:Int)(c:Pl.Cal)(low:Int)(b:Bool)(w:World)(hb:Hid (Pl.sizedB c low=b)):
  Calls Tryz.prog 272 #[.agg (fkq A1 A2 A3 A4 c1 c2 c3 c4 f k c),.int .i64 low] w fun e w'=>e=.returned (.bool b)∧Below w.heap.size w w':=by
 cases hb1:Pl.inB c.size low 100000 with
 |true=>
  have HB:Hid (Pl.inB c.er 0 100000=b):=Lib.hid (by rw[<-hb.out];unfold Pl.sizedB;rw[hb1];rfl)
  go_enter Tryz.func272,Tryz.ntmps272
  go_wp2_with (go_at_call 84;refine(inD_a _ _ _ _).mono ?_;rintro e w' ⟨rfl,rfl⟩)
  go_ret
  exact⟨ret_bool HB.out,by go_grown⟩
 |false=>
  have HB:Hid (false=b):=Lib.hid (by rw[<-hb.out];unfold Pl.sizedB;rw[hb1];rfl)
  go_enter Tryz.func272,Tryz.ntmps272
  go_wp2_with (go_at_call 84;refine(inD_a _ _ _ _).mono ?_;rintro e w' ⟨rfl,rfl⟩)
  go_ret
  exact⟨ret_bool HB.out,by go_grown⟩
open Go.RowKit
theorem grown_row (W:World)(g:Nat)(cs:Array Value):W.grownBy (W.setRow g cs) (some g):=
 ⟨rfl,rfl,rfl,by simp,fun k _ hne=>setRow_other W g k cs (by simp at hne;omega)⟩
theorem st_row (w:World)(g:Nat)(t ty:TypeId)(old cells:Array Value)(hg:w.heap[g]?=some (.cells old t (0,0)))(hi:(Tryz.prog.info? ty).map (·.size)=some cells.size)
  (ho:old.size=cells.size) (h1:cells.all (·.oneCell')=true):
  ∃w',(storeVar ty ⟨g,0,none⟩ (.agg cells)).run Tryz.prog w=.ok () w'∧w'.heap[g]?=some (.cells cells t (0,0))∧w.grownBy w' (some g):=
 ⟨_,run_storeVar_row w g t ty old cells hg hi ho h1,setRow_heap w g old cells t (0,0) hg,grown_row w g cells⟩
theorem info_fld :(Tryz.prog.info? 28).map (·.size)=some 4:=by kernel_rfl
theorem info_flt :(Tryz.prog.info? 31).map (·.size)=some 2:=by kernel_rfl
theorem info_cal :(Tryz.prog.info? 48).map (·.size)=some 13:=by kernel_rfl
theorem own_new (w:World)(bc:Array Value)(tb t ty:TypeId)(old cells:Array Value)(hi:(Tryz.prog.info? ty).map (·.size)=some cells.size)(ho:old.size=cells.size)(h1:cells.all (·.oneCell')=true):
  ∃W,(storeVar ty ⟨w.heap.size+1,0,none⟩ (.agg cells)).run Tryz.prog ((w.alloc (.cells bc tb)).alloc (.cells old t))=.ok () W∧W.heap[w.heap.size]?=some (.cells bc tb (0,0))∧W.heap[w.heap.size+1]?=some (.cells cells t (0,0))∧Below w.heap.size w W:=by
 have hg:((w.alloc (.cells bc tb)).alloc (.cells old t)).heap[w.heap.size+1]?=some (.cells old t (0,0)):=by
  have:=heap_alloc_new (w.alloc (.cells bc tb)) (.cells old t)
  rwa[World.size_alloc]at this
 have hb:((w.alloc (.cells bc tb)).alloc (.cells old t)).heap[w.heap.size]?=some (.cells bc tb (0,0)):=
  (Below.heap_alloc _ _ _ (by simp)).trans (heap_alloc_new w _)
 have hB:Below w.heap.size w ((w.alloc (.cells bc tb)).alloc (.cells old t)):=((Below.refl _ w).alloc (Nat.le_refl _) _).alloc (by simp) _
 obtain⟨W,h2,h3,h4⟩:=st_row _ _ t ty old cells hg hi ho h1
 exact⟨W,h2,(h4.block _ (by simp;omega) (by simp)).trans hb,h3,hB.grown h4 hB.size (fun k e=>by cases e;omega)⟩
open Go.RowKit
theorem lv_scalar {t:TypeId}{d:TypeDesc}(hu:Tryz.prog.underlying t=some d)(hd:d.isRow=false)(a:Addr)(w:World):(loadVar t a).run Tryz.prog w=(load a).run Tryz.prog w:=by
 have hagg:(isAgg t).run Tryz.prog w=.ok false w:=by
  unfold isAgg
  rw[Sem.run_bind,run_underlying hu w]
  cases d<;>simp_all
 simp[loadVar,Sem.run_bind,hagg]
theorem lv_int (a:Addr)(w:World):(loadVar 3 a).run Tryz.prog w=(load a).run Tryz.prog w:=lv_scalar Tryz.underlying3 rfl a w
theorem lv_bool (a:Addr)(w:World):(loadVar 4 a).run Tryz.prog w=(load a).run Tryz.prog w:=lv_scalar Tryz.underlying4 rfl a w
theorem lv_u8 (a:Addr)(w:World):(loadVar 5 a).run Tryz.prog w=(load a).run Tryz.prog w:=lv_scalar Tryz.underlying5 rfl a w
theorem lv_string (a:Addr)(w:World):(loadVar 9 a).run Tryz.prog w=(load a).run Tryz.prog w:=lv_scalar Tryz.underlying9 rfl a w
theorem lv_strings (a:Addr)(w:World):(loadVar 24 a).run Tryz.prog w=(load a).run Tryz.prog w:=lv_scalar Tryz.underlying24 rfl a w
theorem lv_ints (a:Addr)(w:World):(loadVar 62 a).run Tryz.prog w=(load a).run Tryz.prog w:=lv_scalar Tryz.underlying62 rfl a w
theorem lv_stas (a:Addr)(w:World):(loadVar 23 a).run Tryz.prog w=(load a).run Tryz.prog w:=lv_scalar Tryz.underlying23 rfl a w
theorem lv_pars (a:Addr)(w:World):(loadVar 25 a).run Tryz.prog w=(load a).run Tryz.prog w:=lv_scalar Tryz.underlying25 rfl a w
theorem lv_vars (a:Addr)(w:World):(loadVar 26 a).run Tryz.prog w=(load a).run Tryz.prog w:=lv_scalar Tryz.underlying26 rfl a w
theorem lv_errno (a:Addr)(w:World):(loadVar 29 a).run Tryz.prog w=(load a).run Tryz.prog w:=lv_scalar Tryz.underlying29 rfl a w
theorem mid_of {w:World}{b o n:Nat}{cs:Array Value}{t:TypeId}{l:List Value}(hg:w.heap[b]?=some (.cells cs t (0,0)))(hl:(cs.toList.drop o).take n=l):w.rangeAt b o l:=by
 intro j v hj
 subst hl
 rw[(blk_cells hg).1,<-Array.getElem?_toList,<-List.getElem?_drop]
 rw[List.getElem?_take]at hj
 split at hj
 ·exact hj
 ·cases hj
structure CBox (A1 A2 A3 A4:Option Addr)(c1 c2 c3 c4:Nat)(f:Pl.Fld)(k:Int)(c:Pl.Cal)(g:Nat)(w:World):Prop where
 blk:w.heap[g]?=some (.cells (fkq A1 A2 A3 A4 c1 c2 c3 c4 f k c) 128 (0,0))
section
variable {A1 A2 A3 A4 : Option Addr} {c1 c2 c3 c4 : Nat} {f : Pl.Fld} {k : Int} {c : Pl.Cal} {g : Nat} {w : World}
theorem CBox.whole (h:CBox A1 A2 A3 A4 c1 c2 c3 c4 f k c g w):(loadVar 128 ⟨g,0,none⟩).run Tryz.prog w=.ok (.agg (fkq A1 A2 A3 A4 c1 c2 c3 c4 f k c)) w:=
 run_loadVar_row w g _ _ _ _ _ h.blk Tryz.underlying128 rfl (by kernel_rfl)
theorem CBox.call (h:CBox A1 A2 A3 A4 c1 c2 c3 c4 f k c g w):(loadVar 48 ⟨g,4,none⟩).run Tryz.prog w=.ok (.agg (kkq k c)) w:=
 run_loadVar_mid w g 4 _ _ _ (mid_of (n:=13) h.blk rfl) Tryz.underlying48 rfl (by kernel_rfl)
theorem CBox.crs (h:CBox A1 A2 A3 A4 c1 c2 c3 c4 f k c g w):(loadVar 46 ⟨g,11,none⟩).run Tryz.prog w=.ok (.agg (cq c.crs)) w:=
 run_loadVar_mid w g 11 _ _ _ (mid_of (n:=6) h.blk rfl) Tryz.underlying46 rfl (by kernel_rfl)
theorem CBox.fld (h:CBox A1 A2 A3 A4 c1 c2 c3 c4 f k c g w):(loadVar 28 ⟨g,0,none⟩).run Tryz.prog w=.ok (.agg (fq A1 A2 A3 A4 c1 c2 c3 c4 f)) w:=
 run_loadVar_mid w g 0 _ _ _ (mid_of (n:=4) h.blk rfl) Tryz.underlying28 rfl (by kernel_rfl)
end
theorem ld_row {w:World}{g:Nat}{t ty:TypeId}{d:TypeDesc}{cs:Array Value}(hg:w.heap[g]?=some (.cells cs t (0,0)))(hu:Tryz.prog.underlying ty=some d)(hd:d.isRow=true)(hi:(Tryz.prog.info? ty).map (·.size)=some cs.size):(loadVar ty ⟨g,0,none⟩).run Tryz.prog w=.ok (.agg cs) w:=
 run_loadVar_row w g _ _ _ _ _ hg hu (by cases d<;>simp_all) hi
end Go.Proofs.YtgbpekeoegfjpaaGreatDoor
