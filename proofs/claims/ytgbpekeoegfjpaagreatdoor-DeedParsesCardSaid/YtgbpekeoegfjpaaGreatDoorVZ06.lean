/- Proved: parts of the walk. -/
import Derived.Test.YtgbpekeoegfjpaaGreatDoorVZ05
set_option maxRecDepth 100000
set_option maxHeartbeats 2000000
namespace Go.Proofs
open Tryz RowKit
theorem KW (n:Int)(w:World):Calls prog 173 #[.int .i64 n] w fun e w'=>e=.returned (.bool (!Pl.bQ n 0 100000))∧Below w.heap.size w w':=by
 go_enter func173,ntmps173
 go_wp2_with (go_at_call 84;refine(dP _ _ _ _).mono ?_;rintro e w' ⟨rfl,rfl⟩)
 go_ret
 exact⟨rfl,by go_grown⟩
theorem C_ (A:Option Addr)(c:Nat)(y:List Int)(b:Bool)(w:World)(hy:Ints w w.heap.size A y)(hm:y.length<=100000)(hb:Hid ((y.any fun n=> !Pl.bQ n 0 100000)=b)):
  Calls prog 172 #[.slice A y.length c,.func (.func 173) #[] #[]] w fun e w'=>e=.returned (.bool b)∧Below w.heap.size w w':=by
 have:=FC A c y 173 #[] (fun n=> !Pl.bQ n 0 100000) w hy (by omega) (enters_of (P:=prog) func173 (by kernel_rfl) rfl) (fun x _ W _=>KW x W)
 rw[hb.out]at this
 exact this
theorem NU (A1 A2 A3 A4:Option Addr)(c1 c2 c3 c4:Nat)(f:Pl.aL)(A:Option Addr)(c:Nat)(y:List Int)(w:World)(hS:f.st.length<=12)(hL1:1<=f.li.length)(hL:f.li.length<=10)(hy:Ints w w.heap.size A y)(hm:y.length<=100000):
  Calls prog 105 #[.agg (fq A1 A2 A3 A4 c1 c2 c3 c4 f),.slice A y.length c] w fun e w'=>e=.returned (.bool (Pl.gW f.st.length f.li.length y))∧Below w.heap.size w w':=by
 obtain⟨N,hN⟩: ∃N,f.li.length*f.st.length=N:=⟨_,rfl⟩
 have hNb:N<=120:=by rw[<-hN];have:=Nat.mul_le_mul hL hS;omega
 have HN:Hid (((f.li.length:Nat):Int)*(f.st.length:Nat)=(N:Int)):=Lib.hid (by rw[<-hN];simp)
 have HM:=Lib.hid hN
 clear hN
 have kb:=heap_alloc_new w (.cells (fq A1 A2 A3 A4 c1 c2 c3 c4 f) 28)
 by_cases hl:y.length=1+N
 ·have hl':((y.length:Int) !=1+(N:Int))=false:=by simp;omega
  have h0:0<y.length:=by omega
  have HL:=Lib.hid hl
  clear hl
  obtain⟨g,off,hA,hg,q0⟩:=Ints.gY hy h0
  have Sc:Ints w w.heap.size (some ⟨g,off,none⟩) y:=hA▸hy
  subst hA
  simp only[Nat.add_zero]at q0
  have e0:(0:Int)<(y.length:Int):=by omega
  by_cases hz:y[0]=0
  ·rw[hz]at q0
   have HZ:Hid (Pl.zG y 0=0):=Lib.hid (by rw[Pl.qh h0,hz])
   obtain⟨b,hb⟩: ∃b,(y.any fun n=> !Pl.bQ n 0 100000)=b:=⟨_,rfl⟩
   have HB:=Lib.hid hb
   clear hz hb
   cases b with
   | true=>
    have HD:Hid (Pl.gW f.st.length f.li.length y=false):=Lib.hid (by unfold Pl.gW Pl.qg;rw[HB.out];simp)
    go_enter func105,ntmps105
    go_wp2_with (first
     |(go_at_call 106;refine(mR A1 A2 A3 A4 c1 c2 c3 c4 f N _ (by omega) (by omega) HN).mono ?_;rintro e w1 ⟨rfl,hx⟩;obtain⟨kb,aQ,aS,aC⟩:=kB hx kb;have hall:=bT (w:=w) hx;have hsz:w.heap.size<=w1.heap.size:=hall.size;have q1:=(hall.cell (p:=⟨g,off,none⟩) hg).trans q0;clear hx)
     |(go_at_call 172;refine(C_ (some ⟨g,off,none⟩) c y true _ (Sc.up (by go_grown)) hm HB).mono ?_;rintro e w2 ⟨rfl,hx2⟩;have hb2:=bT (w:=w) hx2;clear hx2;have hsz2:w.heap.size<=w2.heap.size:=hb2.size))
    go_ret
    exact⟨aD (by rw[HD.out]),by go_grown⟩
   | false=>
    obtain⟨K,hK⟩: ∃K,Pl.FE (Pl.nature f.st.length f.li.length) y=K:=⟨_,rfl⟩
    have HK:=Lib.hid hK
    have hr:Hid (∀n∈y,0<=n∧n<=100000):=Lib.hid (Pl.C9.1 (by unfold Pl.qg;rw[HB.out];rfl))
    have HD:Hid (Pl.gW f.st.length f.li.length y=K):=Lib.hid (by unfold Pl.gW Pl.qg;rw[HB.out,HK.out,HZ.out,HL.out,<-HM.out];simp)
    have hlen:(Pl.nature f.st.length f.li.length).length<=100000:=by
     rw[Pl.FD,HM.out]
     have:(f.li.length-1)*f.st.length<=9*12:=Nat.mul_le_mul (by omega) hS
     omega
    have hpt:Hid (∀b∈Pl.nature f.st.length f.li.length,b.fr<y.length∧b.till<y.length):=Lib.hid fun b hb=>by
     have:=Pl.FH b hb
     rw[HM.out]at this
     rw[HL.out]
     exact⟨this.1,this.2.1⟩
    clear hK
    go_enter func105,ntmps105
    go_wp2_with (first
     |(go_at_call 106;refine(mR A1 A2 A3 A4 c1 c2 c3 c4 f N _ (by omega) (by omega) HN).mono ?_;rintro e w1 ⟨rfl,hx⟩;obtain⟨kb,aQ,aS,aC⟩:=kB hx kb;have hall:=bT (w:=w) hx;have hsz:w.heap.size<=w1.heap.size:=hall.size;have q1:=(hall.cell (p:=⟨g,off,none⟩) hg).trans q0;clear hx)
     |(go_at_call 172;refine(C_ (some ⟨g,off,none⟩) c y false _ (Sc.up (by go_grown)) hm HB).mono ?_;rintro e w2 ⟨rfl,hx⟩;obtain⟨kb,aQ,aS,aC⟩:=kB hx kb;have hall:=bT (w:=w) hx;have hsz:w.heap.size<=w2.heap.size:=hall.size;clear hx)
     |(go_at_call 89;refine(C8 A1 A2 A3 A4 c1 c2 c3 c4 f _ hS hL1 hL).mono ?_;rintro e w3 ⟨A',c',rfl,hN,hc',hF,hx⟩;obtain⟨kb,aQ,aS,aC⟩:=kB hx kb;have hall:=bT (w:=w) hx;have hsz:w.heap.size<=w3.heap.size:=hall.size;clear hx)
     |(go_at_call 107;refine(QG A' (some ⟨g,off,none⟩) c' c _ y K _ (hN.up (by go_grown)) hlen (Sc.up (by go_grown)) hpt.out hr.out HK).mono ?_;rintro e w4 ⟨rfl,hx4⟩;have hb4:=bT (w:=w) hx4;clear hx4;have wJ:w.heap.size<=w4.heap.size:=hb4.size))
    go_ret
    exact⟨aD (by rw[HD.out]),by go_grown⟩
  ·have HD:Hid (Pl.gW f.st.length f.li.length y=false):=Lib.hid (by unfold Pl.gW;rw[Pl.qh h0];simp[hz])
   have hz':(y[0] !=0)=true:=by simpa using hz
   clear hz
   go_enter func105,ntmps105
   go_wp2_with (first
    |(go_at_call 106;refine(mR A1 A2 A3 A4 c1 c2 c3 c4 f N _ (by omega) (by omega) HN).mono ?_;rintro e w1 ⟨rfl,hx⟩;obtain⟨kb,aQ,aS,aC⟩:=kB hx kb;have hall:=bT (w:=w) hx;have hsz:w.heap.size<=w1.heap.size:=hall.size;have q1:=(hall.cell (p:=⟨g,off,none⟩) hg).trans q0;clear hx))
   go_ret
   exact⟨aD (by rw[HD.out]),by go_grown⟩
 ·have HD:Hid (Pl.gW f.st.length f.li.length y=false):=Lib.hid (by unfold Pl.gW;rw[HM.out];simp[hl])
  have hl':((y.length:Int) !=1+(N:Int))=true:=by simp;omega
  clear hl
  go_enter func105,ntmps105
  go_wp2_with (first
   |(go_at_call 106;refine(mR A1 A2 A3 A4 c1 c2 c3 c4 f N _ (by omega) (by omega) HN).mono ?_;rintro e w1 ⟨rfl,hx⟩;obtain⟨kb,aQ,aS,aC⟩:=kB hx kb;have hall:=bT (w:=w) hx;have hsz:w.heap.size<=w1.heap.size:=hall.size;clear hx))
  go_ret
  exact⟨aD (by rw[HD.out]),by go_grown⟩
namespace Pl
def bF.qO (c:bF):Bool:=c.b==0&&(c.n==0&&(c.l==0&&(c.y==0&&(c.x==0&&c.s==0))))
theorem bF.lV {c:bF}:c.qO=true↔c=bF.zero:=by
 obtain⟨b,n,l,y,x,s⟩:=c
 simp[bF.qO,bF.zero]
def bE (L:Nat)(n:Int):Bool:=bQ n 0 ((L:Int)-1)
theorem oM {L:Nat}{n:Int}:bE L n=true↔mO n L:=by
 unfold bE bQ mO
 simp
 omega
def sizedB (c:aZ)(low:Int):Bool:=bQ c.size low 100000&&bQ c.er 0 100000
theorem qP {c:aZ}{low:Int}:sizedB c low=true↔(low<=c.size∧c.size<=100000)∧0<=c.er∧c.er<=100000:=by
 unfold sizedB bQ
 simp
def Ba (c:aZ):Bool:=c.bL==0&&(c.till==0&&c.aB.qO)
def zf (c:aZ):Bool:=c.till==0&&c.aB.qO
def zh (c:aZ):Bool:=c.bL==0&&(c.size==0&&c.er==0)
def zi (c:aZ):Bool:=c.size==0&&(c.er==0&&c.aB.qO)
def zk (c:aZ):Bool:=c.bL==0&&c.aB.qO
def wS (S L:Nat)(c:aZ):Bool:=Ba c&&bE L c.lim&&bE S c.fr&&sizedB c 0
def wT (S L:Nat)(c:aZ):Bool:=zf c&&(bE L c.lim&&bE L c.bL)&&decide (c.lim<c.bL)&&bE S c.fr&&sizedB c 0
def rX (S L:Nat)(c:aZ):Bool:=zh c&&bE L c.lim&&(bE S c.fr&&bE S c.till)&&(c.fr !=c.till)&&c.aB.ok
def wU (S L:Nat)(c:aZ):Bool:=zi c&&(bE L c.lim&&bE L c.bL)&&decide (c.lim<c.bL)&&(bE S c.fr&&bE S c.till)&&decide (c.fr<c.till)
def wV (S L:Nat)(c:aZ):Bool:=zk c&&bE L c.lim&&(bE S c.fr&&bE S c.till)&&(c.fr !=c.till)&&sizedB c (-100000)
def dX (S L:Nat)(c:aZ):Bool:=
 if c.kind=1 then wS S L c else if c.kind=2 then wT S L c else if c.kind=3 then rX S L c else if c.kind=4 then wU S L c else if c.kind=5 then wV S L c else false
theorem lg {S L:Nat}{c:aZ}:dX S L c=true↔c.tab S L∧(c.kind=3->c.aB.ok=true):=by
 unfold dX aZ.tab wS wT rX wU wV Ba zf zh zi zk
 by_cases h1:c.kind=1
 ·simp[h1,bF.lV,oM,qP]
  grind
 rw[if_neg h1]
 by_cases h2:c.kind=2
 ·simp[h2,bF.lV,oM,qP]
  unfold mO;grind
 rw[if_neg h2]
 by_cases h3:c.kind=3
 ·simp[h3,oM]
  unfold mO;grind
 rw[if_neg h3]
 by_cases h4:c.kind=4
 ·simp[h4,bF.lV,oM]
  unfold mO;grind
 rw[if_neg h4]
 by_cases h5:c.kind=5
 ·simp[h5,bF.lV,oM,qP]
  unfold mO;grind
 ·rw[if_neg h5]
  simp[h1,h2,h3,h4,h5]
def oN (f:aL)(c:aZ):Int:=
 if dX f.st.length f.li.length c=false then 1
 else if c.kind≠3 then 0
 else if (decl f.va c.aB.y).2=false then 20
 else if jA f.va [c.aB] (kH f.st c)≠0 then jA f.va [c.aB] (kH f.st c)
 else if (com f.va [c.aB] (kH f.st c)).2.2=true then 0 else 5
theorem tY {f:aL}{c:aZ}(hv:vars f.va=0):oN f c=fP f c:=by
 unfold oN fP
 by_cases ht:c.tab f.st.length f.li.length
 ·by_cases h3:c.kind=3
  ·cases hk:c.aB.ok with
   | false=>
    have hr:dX f.st.length f.li.length c=false:=by
     cases hr:dX f.st.length f.li.length c with
     |false=>rfl
     |true=>have:=(lg.1 hr).2 h3;rw[hk]at this;cases this
    simp[hr,ht,h3]
   | true=>
    have hr:dX f.st.length f.li.length c=true:=lg.2 ⟨ht,fun _=>hk⟩
    cases hd:(decl f.va c.aB.y).2 with
    |true=>simp[hr,ht,h3]
    | false=>
     have:jA f.va [c.aB] (kH f.st c)=20:=by
      unfold jA bS
      simp[hv,hk,hd]
     simp[hr,ht,h3,this]
  ·have hr:dX f.st.length f.li.length c=true:=lg.2 ⟨ht,fun h=>absurd h h3⟩
   simp[hr,ht,h3]
 ·have hr:dX f.st.length f.li.length c=false:=by
   cases hr:dX f.st.length f.li.length c with
   |false=>rfl
   |true=>exact absurd (lg.1 hr).1 ht
  simp[hr,ht]
end Pl
theorem P9 {w:World}{g:Nat}{x:Int}{t:TypeId}(h:w.heap[g]?=some (.cells #[.int .i64 x] t (0,0))):Ints w w.heap.size (some ⟨g,0,none⟩) [x]:=by
 obtain⟨hc,_⟩:=ah h
 refine .inr ⟨g,0,rfl,(lO h),fun k y hy j v hv=> ?_⟩
 rw[hc]
 match k,hy with
 |0,hy=>simp at hy;subst hy;simpa [jK]using hv
theorem P_ {w:World}{g:Nat}{x y:Int}{t:TypeId}(h:w.heap[g]?=some (.cells (i2 x y) t (0,0))):Ints w w.heap.size (some ⟨g,0,none⟩) [x,y]:=by
 obtain⟨hc,_⟩:=ah h
 refine .inr ⟨g,0,rfl,(lO h),fun k z hz j v hv=> ?_⟩
 have hj:j=0:=by
  have:=(List.getElem?_eq_some_iff.1 hv).1
  simp[jK]at this;exact this
 subst hj
 rw[hc]
 match k,hz with
 |0,hz=>simp at hz;subst hz;simpa [jK]using hv
 |1,hz=>simp at hz;subst hz;simpa [jK]using hv
theorem QH (A1 A2 A3 A4:Option Addr)(c1 c2 c3 c4:Nat)(f:Pl.aL)(k:Int)(c:Pl.aZ)(bc:Nat)(n:Int)(w:World)(hb:w.heap[bc]?=some (.cells (bG A1 A2 A3 A4 c1 c2 c3 c4 f k c) 128 (0,0)))(hm:f.li.length<=100000):
  Calls prog 318 #[.int .i64 n,.pointer (some ⟨bc,0,none⟩)] w fun e w'=>e=.returned (.bool (!Pl.bE f.li.length n))∧Below w.heap.size w w':=by
 obtain⟨hcb,ru⟩:=ah hb
 go_enter func318,ntmps318
 go_wp2_with (go_at_call 84;refine(dP _ _ _ _).mono ?_;rintro e w' ⟨rfl,rfl⟩)
 go_ret
 exact⟨rfl,by go_grown⟩
theorem QI (A1 A2 A3 A4:Option Addr)(c1 c2 c3 c4:Nat)(f:Pl.aL)(k:Int)(c:Pl.aZ)(bc:Nat)(n:Int)(w:World)(hb:w.heap[bc]?=some (.cells (bG A1 A2 A3 A4 c1 c2 c3 c4 f k c) 128 (0,0)))(hm:f.st.length<=100000):
  Calls prog 319 #[.int .i64 n,.pointer (some ⟨bc,0,none⟩)] w fun e w'=>e=.returned (.bool (!Pl.bE f.st.length n))∧Below w.heap.size w w':=by
 obtain⟨hcb,ru⟩:=ah hb
 go_enter func319,ntmps319
 go_wp2_with (go_at_call 84;refine(dP _ _ _ _).mono ?_;rintro e w' ⟨rfl,rfl⟩)
 go_ret
 exact⟨rfl,by go_grown⟩
theorem Da (A1 A2 A3 A4:Option Addr)(c1 c2 c3 c4:Nat)(f:Pl.aL)(k:Int)(c:Pl.aZ)(A:Option Addr)(cp:Nat)(l:List Int)(b:Bool)(w:World)(hl:Ints w w.heap.size A l)(hml:l.length<=1000)(hm:f.li.length<=100000)(hb:Hid (l.all (Pl.bE f.li.length)=b)):
  Calls prog 270 #[.agg (bG A1 A2 A3 A4 c1 c2 c3 c4 f k c),.slice A l.length cp] w fun e w'=>e=.returned (.bool b)∧Below w.heap.size w w':=by
 have kb:=heap_alloc_new w (.cells (bG A1 A2 A3 A4 c1 c2 c3 c4 f k c) 128)
 have hC:=fun(W:World) (hW:Below w.heap.size w W) (hkW:W.heap[w.heap.size]?=some (.cells (bG A1 A2 A3 A4 c1 c2 c3 c4 f k c) 128 (0,0)))=>
  FC A cp l 318 #[.pointer (some ⟨w.heap.size,0,none⟩)] (fun n=> !Pl.bE f.li.length n) W (hl.up hW) (by omega) (enters_of (P:=prog) func318 (by kernel_rfl) rfl)
  (fun x _ W' hW'=>QH A1 A2 A3 A4 c1 c2 c3 c4 f k c w.heap.size x W' ((hW'.block _ (lO hkW)).trans hkW) hm)
 have Cv: ∀(fn:Fn) (first cap:Array Value) (w:World),(Instr.makeFunc fn first cap).run prog w=.ok (.func fn first cap) w:=fun _ _ _ _=>rfl
 have HK:Hid ((!(l.any fun n=> !Pl.bE f.li.length n))=b):=Lib.hid (by rw[<-hb.out,List.all_eq_not_any_not])
 go_enter func270,ntmps270
 go_wp2_with (go_at_call 172;refine(hC _ (by go_grown) kb).mono ?_;rintro e w1 ⟨rfl,hx1⟩;have hb1:=bT (w:=w) hx1;clear hx1;have hsz1:w.heap.size<=w1.heap.size:=hb1.size)
 go_ret
 exact⟨aD HK.out,by go_grown⟩
theorem wW (A1 A2 A3 A4:Option Addr)(c1 c2 c3 c4:Nat)(f:Pl.aL)(k:Int)(c:Pl.aZ)(A:Option Addr)(cp:Nat)(l:List Int)(b:Bool)(w:World)(hl:Ints w w.heap.size A l)(hml:l.length<=1000)(hm:f.st.length<=100000)(hb:Hid (l.all (Pl.bE f.st.length)=b)):
  Calls prog 271 #[.agg (bG A1 A2 A3 A4 c1 c2 c3 c4 f k c),.slice A l.length cp] w fun e w'=>e=.returned (.bool b)∧Below w.heap.size w w':=by
 have kb:=heap_alloc_new w (.cells (bG A1 A2 A3 A4 c1 c2 c3 c4 f k c) 128)
 have hC:=fun(W:World) (hW:Below w.heap.size w W) (hkW:W.heap[w.heap.size]?=some (.cells (bG A1 A2 A3 A4 c1 c2 c3 c4 f k c) 128 (0,0)))=>
  FC A cp l 319 #[.pointer (some ⟨w.heap.size,0,none⟩)] (fun n=> !Pl.bE f.st.length n) W (hl.up hW) (by omega) (enters_of (P:=prog) func319 (by kernel_rfl) rfl)
  (fun x _ W' hW'=>QI A1 A2 A3 A4 c1 c2 c3 c4 f k c w.heap.size x W' ((hW'.block _ (lO hkW)).trans hkW) hm)
 have Cv: ∀(fn:Fn) (first cap:Array Value) (w:World),(Instr.makeFunc fn first cap).run prog w=.ok (.func fn first cap) w:=fun _ _ _ _=>rfl
 have HK:Hid ((!(l.any fun n=> !Pl.bE f.st.length n))=b):=Lib.hid (by rw[<-hb.out,List.all_eq_not_any_not])
 go_enter func271,ntmps271
 go_wp2_with (go_at_call 172;refine(hC _ (by go_grown) kb).mono ?_;rintro e w1 ⟨rfl,hx1⟩;have hb1:=bT (w:=w) hx1;clear hx1;have hsz1:w.heap.size<=w1.heap.size:=hb1.size)
 go_ret
 exact⟨aD HK.out,by go_grown⟩
theorem ji (A1 A2 A3 A4:Option Addr)(c1 c2 c3 c4:Nat)(f:Pl.aL)(k:Int)(c:Pl.aZ)(g:Nat)(x:Int)(b:Bool)(w:World)(hg:w.heap[g]?=some (.cells #[.int .i64 x] 3 (0,0)))(hm:f.li.length<=100000)(hb:Hid (Pl.bE f.li.length x=b)):
  Calls prog 270 #[.agg (bG A1 A2 A3 A4 c1 c2 c3 c4 f k c),.slice (some ⟨g,0,none⟩) 1 1] w fun e w'=>e=.returned (.bool b)∧Below w.heap.size w w':=
 Da A1 A2 A3 A4 c1 c2 c3 c4 f k c _ 1 [x] b w (P9 hg) (by simp) hm (Lib.hid (by simpa using hb.out))
theorem lW (A1 A2 A3 A4:Option Addr)(c1 c2 c3 c4:Nat)(f:Pl.aL)(k:Int)(c:Pl.aZ)(g:Nat)(x y:Int)(b:Bool)(w:World)(hg:w.heap[g]?=some (.cells (i2 x y) 3 (0,0)))(hm:f.li.length<=100000)(hb:Hid ((Pl.bE f.li.length x&&Pl.bE f.li.length y)=b)):
  Calls prog 270 #[.agg (bG A1 A2 A3 A4 c1 c2 c3 c4 f k c),.slice (some ⟨g,0,none⟩) 2 2] w fun e w'=>e=.returned (.bool b)∧Below w.heap.size w w':=
 Da A1 A2 A3 A4 c1 c2 c3 c4 f k c _ 2 [x,y] b w (P_ hg) (by simp) hm (Lib.hid (by simpa using hb.out))
theorem qj (A1 A2 A3 A4:Option Addr)(c1 c2 c3 c4:Nat)(f:Pl.aL)(k:Int)(c:Pl.aZ)(g:Nat)(x:Int)(b:Bool)(w:World)(hg:w.heap[g]?=some (.cells #[.int .i64 x] 3 (0,0)))(hm:f.st.length<=100000)(hb:Hid (Pl.bE f.st.length x=b)):
  Calls prog 271 #[.agg (bG A1 A2 A3 A4 c1 c2 c3 c4 f k c),.slice (some ⟨g,0,none⟩) 1 1] w fun e w'=>e=.returned (.bool b)∧Below w.heap.size w w':=
 wW A1 A2 A3 A4 c1 c2 c3 c4 f k c _ 1 [x] b w (P9 hg) (by simp) hm (Lib.hid (by simpa using hb.out))
theorem iW (A1 A2 A3 A4:Option Addr)(c1 c2 c3 c4:Nat)(f:Pl.aL)(k:Int)(c:Pl.aZ)(g:Nat)(x y:Int)(b:Bool)(w:World)(hg:w.heap[g]?=some (.cells (i2 x y) 3 (0,0)))(hm:f.st.length<=100000)(hb:Hid ((Pl.bE f.st.length x&&Pl.bE f.st.length y)=b)):
  Calls prog 271 #[.agg (bG A1 A2 A3 A4 c1 c2 c3 c4 f k c),.slice (some ⟨g,0,none⟩) 2 2] w fun e w'=>e=.returned (.bool b)∧Below w.heap.size w w':=
 wW A1 A2 A3 A4 c1 c2 c3 c4 f k c _ 2 [x,y] b w (P_ hg) (by simp) hm (Lib.hid (by simpa using hb.out))
theorem Bb (A1 A2 A3 A4:Option Addr)(c1 c2 c3 c4:Nat)(f:Pl.aL)(k:Int)(c:Pl.aZ)(low:Int)(b:Bool)(w:World)(hb:Hid (Pl.sizedB c low=b)):
  Calls prog 272 #[.agg (bG A1 A2 A3 A4 c1 c2 c3 c4 f k c),.int .i64 low] w fun e w'=>e=.returned (.bool b)∧Below w.heap.size w w':=by
 cases hb1:Pl.bQ c.size low 100000 with
 |true=>
  have HB:Hid (Pl.bQ c.er 0 100000=b):=Lib.hid (by rw[<-hb.out];unfold Pl.sizedB;rw[hb1];rfl)
  go_enter func272,ntmps272
  go_wp2_with (go_at_call 84;refine(dP _ _ _ _).mono ?_;rintro e w' ⟨rfl,rfl⟩)
  go_ret
  exact⟨aD HB.out,by go_grown⟩
 |false=>
  have HB:Hid (false=b):=Lib.hid (by rw[<-hb.out];unfold Pl.sizedB;rw[hb1];rfl)
  go_enter func272,ntmps272
  go_wp2_with (go_at_call 84;refine(dP _ _ _ _).mono ?_;rintro e w' ⟨rfl,rfl⟩)
  go_ret
  exact⟨aD HB.out,by go_grown⟩
theorem zR (W:World)(g:Nat)(cs:Array Value):W.grownBy (W.setRow g cs) (some g):=
 ⟨rfl,rfl,rfl,by simp,fun k _ hne=>setRow_other W g k cs (by simp at hne;omega)⟩
theorem aG (w:World)(g:Nat)(t ty:TypeId)(old cells:Array Value)(hg:w.heap[g]?=some (.cells old t (0,0)))(hi:(prog.info? ty).map (·.size)=some cells.size)
  (ho:old.size=cells.size) (h1:cells.all (·.oneCell')=true):
  ∃w',(storeVar ty ⟨g,0,none⟩ (.agg cells)).run prog w=.ok () w'∧w'.heap[g]?=some (.cells cells t (0,0))∧w.grownBy w' (some g):=
 ⟨_,run_storeVar_row w g t ty old cells hg hi ho h1,setRow_heap w g old cells t (0,0) hg,zR w g cells⟩
theorem av :(prog.info? 28).map (·.size)=some 4:=by kernel_rfl
theorem j_ :(prog.info? 31).map (·.size)=some 2:=by kernel_rfl
theorem aj :(prog.info? 48).map (·.size)=some 13:=by kernel_rfl
theorem dG (w:World)(bc:Array Value)(tb t ty:TypeId)(old cells:Array Value)(hi:(prog.info? ty).map (·.size)=some cells.size)(ho:old.size=cells.size)(h1:cells.all (·.oneCell')=true):
  ∃W,(storeVar ty ⟨w.heap.size+1,0,none⟩ (.agg cells)).run prog ((w.alloc (.cells bc tb)).alloc (.cells old t))=.ok () W∧W.heap[w.heap.size]?=some (.cells bc tb (0,0))∧W.heap[w.heap.size+1]?=some (.cells cells t (0,0))∧Below w.heap.size w W:=by
 have hg:((w.alloc (.cells bc tb)).alloc (.cells old t)).heap[w.heap.size+1]?=some (.cells old t (0,0)):=by
  have:=heap_alloc_new (w.alloc (.cells bc tb)) (.cells old t)
  rwa[World.size_alloc]at this
 have hb:((w.alloc (.cells bc tb)).alloc (.cells old t)).heap[w.heap.size]?=some (.cells bc tb (0,0)):=
  (Below.heap_alloc _ _ _ (by simp)).trans (heap_alloc_new w _)
 have hB:Below w.heap.size w ((w.alloc (.cells bc tb)).alloc (.cells old t)):=((Below.refl _ w).alloc (Nat.le_refl _) _).alloc (by simp) _
 obtain⟨W,h2,h3,h4⟩:=aG _ _ t ty old cells hg hi ho h1
 exact⟨W,h2,(h4.block _ (by simp;omega) (by simp)).trans hb,h3,hB.grown h4 hB.size (fun k e=>by cases e;omega)⟩
theorem fE {t:TypeId}{d:TypeDesc}(hu:prog.underlying t=some d)(hd:d.isRow=false)(a:Addr)(w:World):(loadVar t a).run prog w=(load a).run prog w:=by
 have hagg:(isAgg t).run prog w=.ok false w:=by
  unfold isAgg
  rw[Sem.run_bind,run_underlying hu w]
  cases d<;>simp_all
 simp[loadVar,Sem.run_bind,hagg]
theorem bZ (a:Addr)(w:World):(loadVar 3 a).run prog w=(load a).run prog w:=fE underlying3 rfl a w
theorem bH (a:Addr)(w:World):(loadVar 4 a).run prog w=(load a).run prog w:=fE underlying4 rfl a w
theorem dU (a:Addr)(w:World):(loadVar 5 a).run prog w=(load a).run prog w:=fE underlying5 rfl a w
theorem aT (a:Addr)(w:World):(loadVar 9 a).run prog w=(load a).run prog w:=fE underlying9 rfl a w
theorem dD (a:Addr)(w:World):(loadVar 24 a).run prog w=(load a).run prog w:=fE underlying24 rfl a w
theorem nE (a:Addr)(w:World):(loadVar 23 a).run prog w=(load a).run prog w:=fE underlying23 rfl a w
theorem Bc (a:Addr)(w:World):(loadVar 25 a).run prog w=(load a).run prog w:=fE underlying25 rfl a w
theorem eB (a:Addr)(w:World):(loadVar 26 a).run prog w=(load a).run prog w:=fE underlying26 rfl a w
theorem mU (a:Addr)(w:World):(loadVar 29 a).run prog w=(load a).run prog w:=fE underlying29 rfl a w
theorem wX {w:World}{b o n:Nat}{cs:Array Value}{t:TypeId}{l:List Value}(hg:w.heap[b]?=some (.cells cs t (0,0)))(hl:(cs.toList.drop o).take n=l):w.rangeAt b o l:=by
 intro j v hj
 subst hl
 rw[(ah hg).1,<-Array.getElem?_toList,<-List.getElem?_drop]
 rw[List.getElem?_take]at hj
 split at hj
 ·exact hj
 ·cases hj
structure ay (A1 A2 A3 A4:Option Addr)(c1 c2 c3 c4:Nat)(f:Pl.aL)(k:Int)(c:Pl.aZ)(g:Nat)(w:World):Prop where
 blk:w.heap[g]?=some (.cells (bG A1 A2 A3 A4 c1 c2 c3 c4 f k c) 128 (0,0))
section
variable {A1 A2 A3 A4 : Option Addr} {c1 c2 c3 c4 : Nat} {f : Pl.aL} {k : Int} {c : Pl.aZ} {g : Nat} {w : World}
theorem ay.whole (h:ay A1 A2 A3 A4 c1 c2 c3 c4 f k c g w):(loadVar 128 ⟨g,0,none⟩).run prog w=.ok (.agg (bG A1 A2 A3 A4 c1 c2 c3 c4 f k c)) w:=
 run_loadVar_row w g _ _ _ _ _ h.blk underlying128 rfl (by kernel_rfl)
theorem ay.call (h:ay A1 A2 A3 A4 c1 c2 c3 c4 f k c g w):(loadVar 48 ⟨g,4,none⟩).run prog w=.ok (.agg (iq k c)) w:=
 run_loadVar_mid w g 4 _ _ _ (wX (n:=13) h.blk rfl) underlying48 rfl (by kernel_rfl)
theorem ay.aB (h:ay A1 A2 A3 A4 c1 c2 c3 c4 f k c g w):(loadVar 46 ⟨g,11,none⟩).run prog w=.ok (.agg (cq c.aB)) w:=
 run_loadVar_mid w g 11 _ _ _ (wX (n:=6) h.blk rfl) underlying46 rfl (by kernel_rfl)
theorem ay.NV (h:ay A1 A2 A3 A4 c1 c2 c3 c4 f k c g w):(loadVar 28 ⟨g,0,none⟩).run prog w=.ok (.agg (fq A1 A2 A3 A4 c1 c2 c3 c4 f)) w:=
 run_loadVar_mid w g 0 _ _ _ (wX (n:=4) h.blk rfl) underlying28 rfl (by kernel_rfl)
end
theorem ak {w:World}{g:Nat}{t ty:TypeId}{d:TypeDesc}{cs:Array Value}(hg:w.heap[g]?=some (.cells cs t (0,0)))(hu:prog.underlying ty=some d)(hd:d.isRow=true)(hi:(prog.info? ty).map (·.size)=some cs.size):(loadVar ty ⟨g,0,none⟩).run prog w=.ok (.agg cs) w:=
 run_loadVar_row w g _ _ _ _ _ hg hu (by cases d<;>simp_all) hi
