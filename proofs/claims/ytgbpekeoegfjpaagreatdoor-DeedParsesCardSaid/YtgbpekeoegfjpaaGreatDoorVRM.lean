/- Proved: parts of the walk. -/
import Derived.Test.YtgbpekeoegfjpaaGreatDoorVRD
set_option maxRecDepth 100000
set_option maxHeartbeats 8000000
namespace Go.Proofs
open Tryz RowKit
variable (A1 A2 A3 A4 : Option Addr) (c1 c2 c3 c4 : Nat) (f : Pl.aL)
attribute [-go_sem] loadVar storeVar run_equalIn_agg
attribute [local go_sem] bZ bH dU aT yQ mU
theorem aBE (x:Pl.j6×Option Addr×Nat)(w:World)(_hf:bB w w.heap.size A1 A2 A3 A4 f)(_hm:Small f)(_hc:dY c1 c2 c3 c4 f)(_hF:Pl.aR f=0)(_hcl:aAB w w.heap.size x.2.1 x.1.calls)(_hk: ∀c∈x.1.calls,c.kind<=255)(_hn:x.1.name.size<=100000)(h:20<x.1.calls.length):
  Calls prog 123 #[.agg (fq A1 A2 A3 A4 c1 c2 c3 c4 f),.agg (dq x.1 x.2.1 x.2.2)] w fun e w'=>e=.returned (.int .i64 (Pl.aAl f x.1))∧Below w.heap.size w w':=by
 have kf:=heap_alloc2_old w (.cells (fq A1 A2 A3 A4 c1 c2 c3 c4 f) 28) (.cells (dq x.1 x.2.1 x.2.2) 90)
 have kd:=heap_alloc2_new w (.cells (fq A1 A2 A3 A4 c1 c2 c3 c4 f) 28) (.cells (dq x.1 x.2.1 x.2.2) 90)
 have hb0:Below w.heap.size w ((w.alloc (.cells (fq A1 A2 A3 A4 c1 c2 c3 c4 f) 28)).alloc (.cells (dq x.1 x.2.1 x.2.2) 90)):=((Below.refl _ w).alloc (Nat.le_refl _) _).alloc (by simp) _
 obtain⟨hcf,nY⟩:=ah kf
 obtain⟨hcd,Ya⟩:=ah kd
 have iw:=ak kf underlying28 rfl av
 have HV:Hid (Pl.aAl f x.1=2):=Lib.hid (by unfold Pl.aAl;rw[if_pos h])
 have n1:(20:Int)<(x.1.calls.length:Int):=by omega
 go_enter func123,ntmps123
 go_wp2
 go_ret
 exact⟨by rw[HV.out];rfl,hb0⟩
theorem aBF (x:Pl.j6×Option Addr×Nat)(w:World)(_hf:bB w w.heap.size A1 A2 A3 A4 f)(_hm:Small f)(_hc:dY c1 c2 c3 c4 f)(_hF:Pl.aR f=0)(_hcl:aAB w w.heap.size x.2.1 x.1.calls)(_hk: ∀c∈x.1.calls,c.kind<=255)(hn:x.1.name.size<=100000)(h: ¬20<x.1.calls.length)(hN:Pl.isName x.1.name=false):
  Calls prog 123 #[.agg (fq A1 A2 A3 A4 c1 c2 c3 c4 f),.agg (dq x.1 x.2.1 x.2.2)] w fun e w'=>e=.returned (.int .i64 (Pl.aAl f x.1))∧Below w.heap.size w w':=by
 have kf:=heap_alloc2_old w (.cells (fq A1 A2 A3 A4 c1 c2 c3 c4 f) 28) (.cells (dq x.1 x.2.1 x.2.2) 90)
 have kd:=heap_alloc2_new w (.cells (fq A1 A2 A3 A4 c1 c2 c3 c4 f) 28) (.cells (dq x.1 x.2.1 x.2.2) 90)
 have hb0:Below w.heap.size w ((w.alloc (.cells (fq A1 A2 A3 A4 c1 c2 c3 c4 f) 28)).alloc (.cells (dq x.1 x.2.1 x.2.2) 90)):=((Below.refl _ w).alloc (Nat.le_refl _) _).alloc (by simp) _
 obtain⟨hcf,nY⟩:=ah kf
 obtain⟨hcd,Ya⟩:=ah kd
 have iw:=ak kf underlying28 rfl av
 have HV:Hid (Pl.aAl f x.1=4):=Lib.hid (by unfold Pl.aAl;rw[if_neg h,if_pos hN])
 have n1: ¬(20:Int)<(x.1.calls.length:Int):=by omega
 have HN:=Lib.hid hN
 clear hN
 go_enter func123,ntmps123
 go_wp2_with (go_at_call 82;refine(wF _ _ hn).mono ?_;rintro e w' ⟨rfl,rfl⟩;rw[HN.out])
 go_ret
 exact⟨by rw[HV.out];rfl,hb0⟩
theorem aBG (x:Pl.j6×Option Addr×Nat)(w:World)(_hf:bB w w.heap.size A1 A2 A3 A4 f)(_hm:Small f)(_hc:dY c1 c2 c3 c4 f)(_hF:Pl.aR f=0)(_hcl:aAB w w.heap.size x.2.1 x.1.calls)(_hk: ∀c∈x.1.calls,c.kind<=255)(hn:x.1.name.size<=100000)(h: ¬20<x.1.calls.length)(hN:Pl.isName x.1.name=true)(hD:(Pl.bQ x.1.year 1 3000&&Pl.bQ x.1.rank 0 1000)=false):
  Calls prog 123 #[.agg (fq A1 A2 A3 A4 c1 c2 c3 c4 f),.agg (dq x.1 x.2.1 x.2.2)] w fun e w'=>e=.returned (.int .i64 (Pl.aAl f x.1))∧Below w.heap.size w w':=by
 have kf:=heap_alloc2_old w (.cells (fq A1 A2 A3 A4 c1 c2 c3 c4 f) 28) (.cells (dq x.1 x.2.1 x.2.2) 90)
 have kd:=heap_alloc2_new w (.cells (fq A1 A2 A3 A4 c1 c2 c3 c4 f) 28) (.cells (dq x.1 x.2.1 x.2.2) 90)
 have hb0:Below w.heap.size w ((w.alloc (.cells (fq A1 A2 A3 A4 c1 c2 c3 c4 f) 28)).alloc (.cells (dq x.1 x.2.1 x.2.2) 90)):=((Below.refl _ w).alloc (Nat.le_refl _) _).alloc (by simp) _
 obtain⟨hcf,nY⟩:=ah kf
 obtain⟨hcd,Ya⟩:=ah kd
 have iw:=ak kf underlying28 rfl av
 have HV:Hid (Pl.aAl f x.1=1):=Lib.hid (by unfold Pl.aAl Pl.aAP;rw[if_neg h,if_neg (by rw[hN];decide),if_pos hD])
 have n1: ¬(20:Int)<(x.1.calls.length:Int):=by omega
 have HN:=Lib.hid hN
 have HD:=Lib.hid hD
 clear hN hD
 go_enter func123,ntmps123
 go_wp2_with (first|(go_at_call 82;refine(wF _ _ hn).mono ?_;rintro e w' ⟨rfl,rfl⟩;rw[HN.out])|(go_at_call 160;refine(aAo _ _ _).mono ?_;rintro e w' ⟨rfl,rfl⟩;rw[HD.out]))
 go_ret
 exact⟨by rw[HV.out];rfl,hb0⟩
theorem aBp (x:Pl.j6×Option Addr×Nat)(w:World)(hf:bB w w.heap.size A1 A2 A3 A4 f)(hm:Small f)(hc:dY c1 c2 c3 c4 f)(hF:Pl.aR f=0)(hcl:aAB w w.heap.size x.2.1 x.1.calls)(hk: ∀c∈x.1.calls,c.kind<=255)(hn:x.1.name.size<=100000)(h: ¬20<x.1.calls.length)(hN:Pl.isName x.1.name=true)(hD:(Pl.bQ x.1.year 1 3000&&Pl.bQ x.1.rank 0 1000)=true):
  Calls prog 123 #[.agg (fq A1 A2 A3 A4 c1 c2 c3 c4 f),.agg (dq x.1 x.2.1 x.2.2)] w fun e w'=>e=.returned (.int .i64 (Pl.aAl f x.1))∧Below w.heap.size w w':=by
 have kf:=heap_alloc2_old w (.cells (fq A1 A2 A3 A4 c1 c2 c3 c4 f) 28) (.cells (dq x.1 x.2.1 x.2.2) 90)
 have kd:=heap_alloc2_new w (.cells (fq A1 A2 A3 A4 c1 c2 c3 c4 f) 28) (.cells (dq x.1 x.2.1 x.2.2) 90)
 have hb0:Below w.heap.size w ((w.alloc (.cells (fq A1 A2 A3 A4 c1 c2 c3 c4 f) 28)).alloc (.cells (dq x.1 x.2.1 x.2.2) 90)):=((Below.refl _ w).alloc (Nat.le_refl _) _).alloc (by simp) _
 obtain⟨hcf,nY⟩:=ah kf
 obtain⟨hcd,Ya⟩:=ah kd
 have iw:=ak kf underlying28 rfl av
 have HV:Hid (Pl.aAl f x.1=Pl.Q7 f x.1.year x.1.calls):=Lib.hid (by unfold Pl.aAl Pl.aAP;rw[if_neg h,if_neg (by rw[hN];decide),if_neg (by rw[hD];decide)])
 have n1: ¬(20:Int)<(x.1.calls.length:Int):=by omega
 have HN:=Lib.hid hN
 have HD:=Lib.hid hD
 clear hN hD
 obtain⟨⟨nm,yr,rk,cs⟩,P,pc⟩:=x
 simp only at*
 go_enter func123,ntmps123
 go_wp2_with (first|(go_at_call 82;refine(wF _ _ hn).mono ?_;rintro e w' ⟨rfl,rfl⟩;rw[HN.out])|(go_at_call 160;refine(aAo _ _ _).mono ?_;rintro e w' ⟨rfl,rfl⟩;rw[HD.out]))
 obtain⟨W0,hW0⟩: ∃W0,((w.alloc (.cells (fq A1 A2 A3 A4 c1 c2 c3 c4 f) 28)).alloc (.cells #[.string nm,.int .i64 yr,.int .i64 rk,.slice P cs.length pc] 90))=W0:=⟨_,rfl⟩
 rw[hW0]at kf kd hb0 hcf hcd nY Ya iw ⊢
 clear hW0 hcf hcd nY Ya iw
 have hal:w.heap.size+1<W0.heap.size:=(lO kd)
 obtain⟨E,hE⟩: ∃E,Pl.Q7 f yr cs=E:=⟨_,rfl⟩
 rw[hE]at HV
 go_loopw [28] (fun i wr=> ∃(k:Nat),k<=cs.length∧i=.int .i64 k∧Hid (Pl.Q7 f yr (cs.drop k)=E)∧Below W0.heap.size W0 wr) (fun i _=>cs.length-(intOf i).toNat)
 case atStart=>exact⟨0,by omega,rfl,Lib.hid (by rw[List.drop_zero];exact hE),Below.refl _ _⟩
 case round=>
  obtain⟨k,hkl,rfl,hdr,hall⟩:=hrel
  have kf:=(hall.block _ (by omega)).trans kf
  have kd:=(hall.block _ hal).trans kd
  obtain⟨hcd,Ya⟩:=ah kd
  have hsz:=hall.size
  have hbw:Below w.heap.size w wr:=hb0.trans (hall.mono hb0.size)
  by_cases hlt:k<cs.length
  ·obtain⟨g,o,hP,hg,u0⟩:=aAB.ld hcl hlt
   have hkc:=hk _ (List.getElem_mem hlt)
   have aA2:Hid (Pl.Q7 f yr (cs[k]::cs.drop (k+1))=E):=Lib.hid (by rw[<-List.drop_eq_getElem_cons hlt];exact hdr.out)
   obtain⟨c,aCf⟩: ∃c,cs[k]=c:=⟨_,rfl⟩
   rw[aCf]at u0 hkc aA2
   clear aCf
   subst hP
   have e1:(0:Int)<=(k:Int):=by omega
   have e2:(k:Int)<(cs.length:Int):=by omega
   have u1:=u0 _ hbw
   have kn:=heap_alloc_new wr (.cells bP 48)
   obtain⟨W1,st1,k1,hg1⟩:=aG (wr.alloc (.cells bP 48)) wr.heap.size 48 48 bP (kq c) kn aj rfl (by simp[Value.oneCell'])
   have hx1:Below wr.heap.size wr W1:=((Below.refl _ wr).alloc (Nat.le_refl _) _).grown hg1 (by simp) (fun j e=>by cases e;exact Nat.le_refl _)
   have kf1:=(hx1.block _ (by omega)).trans kf
   have kd1:=(hx1.block _ (by omega)).trans kd
   have l1:=ak kf1 underlying28 rfl av
   have l2:=ak k1 underlying48 rfl aj
   have hb1:Below w.heap.size w W1:=hbw.trans (hx1.mono (by omega))
   have aBH:=Ie A1 A2 A3 A4 c1 c2 c3 c4 f c W1 (hf.up hb1) hm hc hF hkc
   obtain⟨Ec,hEc⟩: ∃E,Pl.fP f c=E:=⟨_,rfl⟩
   rw[hEc]at aBH
   have HEc:=Lib.hid hEc
   have hln:=(lO k1)
   clear hEc kn u0
   by_cases h0:Ec=0
   ·subst h0
    clear hcd Ya
    have HR:Hid ((if c.kind=3∧c.aB.y≠yr then 1 else Pl.Q7 f yr (cs.drop (k+1)))=E):=Lib.hid (by have:=aA2.out;unfold Pl.Q7 at this;rw[HEc.out,if_neg (by simp)]at this;exact this)
    by_cases h3:c.kind=3
    ·have b3:((c.kind:Int)==3)=true:=by simp;omega
     by_cases hyr:c.aB.y=yr
     ·have b4:(c.aB.y !=yr)=false:=by simpa using hyr
      have HN2:Hid (Pl.Q7 f yr (cs.drop (k+1))=E):=Lib.hid (by have:=HR.out;rw[if_neg (fun h=>h.2 hyr)]at this;exact this)
      clear h3 hyr
      go_wp2_with (go_at_call 108;refine aBH.mono ?_;rintro e w2 ⟨rfl,hy⟩;have hb2:=hb1.trans (hy.mono hb1.size);have ha2:Below W0.heap.size W0 w2:=(hall.trans (hx1.mono hsz)).trans (hy.mono (by have:=hx1.size;omega));have k2:=(hy.block _ hln).trans k1;obtain⟨hck,SS⟩:=ah k2;have kd2:=kE hy kd1;obtain⟨aCg,aCh⟩:=ah kd2)
      go_roundw
      case rel=>exact⟨k+1,by omega,by go_num,HN2,ha2⟩
      case measure=>first|(simp[intOf];done)|(simp[intOf];omega)
     ·have b4:(c.aB.y !=yr)=true:=by simpa using hyr
      have HN2:Hid (1=E):=Lib.hid (by have:=HR.out;rw[if_pos ⟨h3,hyr⟩]at this;exact this)
      clear h3 hyr
      go_wp2_with (go_at_call 108;refine aBH.mono ?_;rintro e w2 ⟨rfl,hy⟩;have hb2:=hb1.trans (hy.mono hb1.size);have ha2:Below W0.heap.size W0 w2:=(hall.trans (hx1.mono hsz)).trans (hy.mono (by have:=hx1.size;omega));have k2:=(hy.block _ hln).trans k1;obtain⟨hck,SS⟩:=ah k2;have kd2:=kE hy kd1;obtain⟨aCg,aCh⟩:=ah kd2)
      go_ret
      exact⟨by rw[HV.out,<-HN2.out];rfl,hb2⟩
    ·have b3:((c.kind:Int)==3)=false:=by simp;omega
     have HN2:Hid (Pl.Q7 f yr (cs.drop (k+1))=E):=Lib.hid (by have:=HR.out;rw[if_neg (fun h=>h3 h.1)]at this;exact this)
     clear h3
     go_wp2_with (go_at_call 108;refine aBH.mono ?_;rintro e w2 ⟨rfl,hy⟩;have hb2:=hb1.trans (hy.mono hb1.size);have ha2:Below W0.heap.size W0 w2:=(hall.trans (hx1.mono hsz)).trans (hy.mono (by have:=hx1.size;omega));have k2:=(hy.block _ hln).trans k1;obtain⟨hck,SS⟩:=ah k2;have kd2:=kE hy kd1;obtain⟨aCg,aCh⟩:=ah kd2)
     go_roundw
     case rel=>exact⟨k+1,by omega,by go_num,HN2,ha2⟩
     case measure=>first|(simp[intOf];done)|(simp[intOf];omega)
   ·have hne:(Ec !=0)=true:=by simpa using h0
    have HR:Hid (Ec=E):=Lib.hid (by have:=aA2.out;unfold Pl.Q7 at this;rw[HEc.out,if_pos h0]at this;exact this)
    clear h0
    go_wp2_with (go_at_call 108;refine aBH.mono ?_;rintro e w2 ⟨rfl,hy⟩;have hb2:=hb1.trans (hy.mono hb1.size))
    go_ret
    exact⟨by rw[HV.out,<-HR.out];rfl,hb2⟩
  ·have HR:Hid (0=E):=Lib.hid (by have:=hdr.out;rw[List.drop_of_length_le (by omega)]at this;exact this)
   go_wp2
   go_ret
   exact⟨by rw[HV.out,<-HR.out];rfl,hbw⟩
end Go.Proofs
namespace Go.Proofs
open Tryz RowKit
variable (A1 A2 A3 A4 : Option Addr) (c1 c2 c3 c4 : Nat) (f : Pl.aL)
attribute [-go_sem] loadVar storeVar run_equalIn_agg
attribute [local go_sem] bZ bH dU aT yQ mU
theorem aCi (x:Pl.j6×Option Addr×Nat)(w:World)(hf:bB w w.heap.size A1 A2 A3 A4 f)(hm:Small f)(hc:dY c1 c2 c3 c4 f)(hF:Pl.aR f=0)(hcl:aAB w w.heap.size x.2.1 x.1.calls)(hk: ∀c∈x.1.calls,c.kind<=255)(hn:x.1.name.size<=100000):
  Calls prog 123 #[.agg (fq A1 A2 A3 A4 c1 c2 c3 c4 f),.agg (dq x.1 x.2.1 x.2.2)] w fun e w'=>e=.returned (.int .i64 (Pl.aAl f x.1))∧Below w.heap.size w w':=by
 by_cases h:20<x.1.calls.length
 ·exact aBE A1 A2 A3 A4 c1 c2 c3 c4 f x w hf hm hc hF hcl hk hn h
 cases hN:Pl.isName x.1.name with
 |false=>exact aBF A1 A2 A3 A4 c1 c2 c3 c4 f x w hf hm hc hF hcl hk hn h hN
 |true=>
  cases hD:(Pl.bQ x.1.year 1 3000&&Pl.bQ x.1.rank 0 1000)with
  |false=>exact aBG A1 A2 A3 A4 c1 c2 c3 c4 f x w hf hm hc hF hcl hk hn h hN hD
  |true=>exact aBp A1 A2 A3 A4 c1 c2 c3 c4 f x w hf hm hc hF hcl hk hn h hN hD
theorem aBI (bx:Nat)(n:ByteArray)(y r:Int)(u v:Value)(nm:ByteArray)(y' r':Int)(w:World)(hb:w.heap[bx]?=some (.cells #[.string n,.int .i64 y,.int .i64 r,v] 90 (0,0))):
  Calls prog 125 #[.agg #[.string nm,.int .i64 y',.int .i64 r',u],.pointer (some ⟨bx,0,none⟩)] w fun e w'=>e=.returned (.bool (decide (nm=n)))∧Below w.heap.size w w':=by
 obtain⟨hc,hf⟩:=ah hb
 have hlt:=(lO hb)
 go_enter func125,ntmps125
 go_wp2
 go_ret
 exact⟨aD (dF nm n),by go_grown⟩
theorem Seg.take {α:Type}{enc:α->List Value}{size B:Nat}{w:World}{A:Option Addr}{l:List α}(h:Seg enc size w B A l)(k:Nat):Seg enc size w B A (l.take k):=by
 rcases h with h|⟨b,off,hA,hb,hc⟩
 ·exact .inl (by rw[h];simp)
 ·refine .inr ⟨b,off,hA,hb,fun j x hj i v hv=>hc j x ?_ i v hv⟩
  rw[List.getElem?_take]at hj
  split at hj
  ·exact hj
  ·cases hj
theorem aAG (A:Option Addr)(c:Nat)(l:List (Pl.j6×Option Addr×Nat))(w:World)(hf:bB w w.heap.size A1 A2 A3 A4 f)(hm:Small f)(hc:dY c1 c2 c3 c4 f)(hE:Pl.aR f=0)(hD:aAc w w.heap.size A l)(hlc:l.length<=c)(hk: ∀x∈l,∀c∈x.1.calls,c.kind<=255)(hn: ∀x∈l,x.1.name.size<=100000)(hl:l.length<=60):
  Calls prog 48 #[.agg (fq A1 A2 A3 A4 c1 c2 c3 c4 f),.slice A l.length c] w fun e w'=>e=.returned (.int .i64 (Pl.Q8 f [] (l.map (·.1))))∧Below w.heap.size w w':=by
 have kf:=heap_alloc_new w (.cells (fq A1 A2 A3 A4 c1 c2 c3 c4 f) 28)
 have hb0:Below w.heap.size w (w.alloc (.cells (fq A1 A2 A3 A4 c1 c2 c3 c4 f) 28)):=(Below.refl _ w).alloc (Nat.le_refl _) _
 have iw:=ak kf underlying28 rfl av
 have HE:=Lib.hid hE
 have n1: ¬(60:Int)<(l.length:Int):=by omega
 obtain⟨E,hV⟩: ∃E,Pl.Q8 f [] (l.map (·.1))=E:=⟨_,rfl⟩
 rw[hV]
 clear hE
 go_enter func48,ntmps48
 go_wp2_with (go_at_call 22;refine(bX A1 A2 A3 A4 c1 c2 c3 c4 f 0 _ HE (hf.up hb0) hm hc).mono ?_;rintro e w1 ⟨rfl,hx⟩;have kf:=kE hx kf;have hb1:Below w.heap.size w w1:=hb0.trans (hx.mono hb0.size);clear iw)
 have hal:w.heap.size<w1.heap.size:=(lO kf)
 go_loopw [19] (fun i wr=> ∃(k:Nat),k<=l.length∧i=.int .i64 k∧Hid (Pl.Q8 f ((l.take k).map (·.1.name)) ((l.drop k).map (·.1))=E)∧Below w1.heap.size w1 wr) (fun i _=>l.length-(intOf i).toNat)
 case atStart=>exact⟨0,by omega,rfl,Lib.hid (by simpa using hV),Below.refl _ _⟩
 case round=>
  obtain⟨k,hkl,rfl,hdr,hall⟩:=hrel
  have kf2:=(hall.block _ hal).trans kf
  have hsz:=hall.size
  have hbw:Below w.heap.size w wr:=hb1.trans (hall.mono hb1.size)
  by_cases hlt:k<l.length
  ·obtain⟨g,o,hP,hg,u0⟩:=Dds.ld hD.row hlt
   have hmem:=List.getElem_mem hlt
   have hcl:=hD.own _ hmem
   have hkc:=hk _ hmem
   have hnc:=hn _ hmem
   have aA2:Hid (Pl.Q8 f ((l.take k).map (·.1.name)) (l[k].1::(l.drop (k+1)).map (·.1))=E):=Lib.hid (by
    have:=hdr.out;rw[List.drop_eq_getElem_cons hlt]at this;exact this)
   have htk:(l.take (k+1)).map (·.1.name)=(l.take k).map (·.1.name)++[l[k].1.name]:=by rw[List.take_add_one,List.getElem?_eq_getElem hlt,List.map_append];rfl
   have htl:(l.take k).length=k:=by rw[List.length_take];omega
   obtain⟨x,hxd⟩: ∃x,l[k]=x:=⟨_,rfl⟩
   rw[hxd]at u0 hcl hkc hnc aA2 htk
   clear hxd hmem
   subst hP
   have e1:(0:Int)<=(k:Int):=by omega
   have e2:(k:Int)<(l.length:Int):=by omega
   have e3:(k:Int)<=(c:Int):=by omega
   have u1:=u0 _ hbw
   have kn:=heap_alloc_new wr (.cells #[.string ⟨#[]⟩,.int .i64 0,.int .i64 0,.slice none 0 0] 90)
   obtain⟨W1,st1,k1,hg1⟩:=aG (wr.alloc (.cells #[.string ⟨#[]⟩,.int .i64 0,.int .i64 0,.slice none 0 0] 90)) wr.heap.size 90 90 #[.string ⟨#[]⟩,.int .i64 0,.int .i64 0,.slice none 0 0] (dq x.1 x.2.1 x.2.2) kn (by kernel_rfl) rfl (by simp[Value.oneCell'])
   have hx1:Below wr.heap.size wr W1:=((Below.refl _ wr).alloc (Nat.le_refl _) _).grown hg1 (by simp) (fun j e=>by cases e;exact Nat.le_refl _)
   have kf3:=(hx1.block _ (by omega)).trans kf2
   have l1:=ak kf3 underlying28 rfl av
   have l2:=ak k1 underlying90 rfl (by kernel_rfl)
   have hb2:Below w.heap.size w W1:=hbw.trans (hx1.mono (by omega))
   have aBR:=aCi A1 A2 A3 A4 c1 c2 c3 c4 f x W1 (hf.up hb2) hm hc HE.out (hcl.up hb2) hkc hnc
   have hln:=(lO k1)
   obtain⟨Ed,X_⟩: ∃E,Pl.aAl f x.1=E:=⟨_,rfl⟩
   rw[X_]at aBR
   have HEd:=Lib.hid X_
   clear X_ kn u0
   by_cases h0:Ed=0
   ·subst h0
    have HR:Hid ((if ((l.take k).map (·.1.name)).any (fun y=>decide (y=x.1.name))=true then 6 else Pl.Q8 f ((l.take k).map (·.1.name)++[x.1.name]) ((l.drop (k+1)).map (·.1)))=E):=Lib.hid (by
     have:=aA2.out;unfold Pl.Q8 at this;rw[HEd.out,if_neg (by simp)]at this;exact this)
    have hcon:=fun(W:World) (hW:Below w.heap.size w W) (hkW:W.heap[wr.heap.size]?=some (.cells (dq x.1 x.2.1 x.2.2) 90 (0,0)))=>
     aA6 (some ⟨g,o,none⟩) c (l.take k) 125 #[.pointer (some ⟨wr.heap.size,0,none⟩)] (fun y=>decide (y.1.name=x.1.name)) W ((hD.row.take k).up hW) (by omega) (enters_of (P:=prog) func125 (by kernel_rfl) rfl)
      (fun y _ W' hW'=>aBI wr.heap.size x.1.name x.1.year x.1.rank (slv y.2 y.1.calls.length) _ y.1.name y.1.year y.1.rank W' ((hW'.block _ (lO hkW)).trans hkW))
    rw[htl]at hcon
    have hany:((l.take k).map (·.1.name)).any (fun y=>decide (y=x.1.name))=(l.take k).any fun y=>decide (y.1.name=x.1.name):=by rw[List.any_map];rfl
    obtain⟨q,hq⟩: ∃q,((l.take k).any fun y=>decide (y.1.name=x.1.name))=q:=⟨_,rfl⟩
    rw[hany,hq]at HR
    simp only[hq]at hcon
    have HTK:=Lib.hid htk
    clear hany hq htk aA2
    cases q with
    | true=>
     have HR2:Hid (6=E):=Lib.hid (by have:=HR.out;rw[if_pos rfl]at this;exact this)
     go_wp2_with (first
      |(go_at_call 123;refine aBR.mono ?_;rintro e w2 ⟨rfl,hy⟩;have hb3:=hb2.trans (hy.mono hb2.size);have k2:=(hy.block _ hln).trans k1)
      |(go_at_call 124;refine(hcon _ hb3 k2).mono ?_;rintro e w3 ⟨rfl,hz⟩;have hb4:=hb3.trans (hz.mono hb3.size)))
     go_ret
     exact⟨by rw[<-HR2.out];rfl,hb4⟩
    | false=>
     have HR2:Hid (Pl.Q8 f ((l.take (k+1)).map (·.1.name)) ((l.drop (k+1)).map (·.1))=E):=Lib.hid (by have:=HR.out;rw[if_neg (by simp),<-HTK.out]at this;exact this)
     go_wp2_with (first
      |(go_at_call 123;refine aBR.mono ?_;rintro e w2 ⟨rfl,hy⟩;have hb3:=hb2.trans (hy.mono hb2.size);have k2:=(hy.block _ hln).trans k1;have ha2:Below w1.heap.size w1 w2:=(hall.trans (hx1.mono hsz)).trans (hy.mono (by have:=hx1.size;omega)))
      |(go_at_call 124;refine(hcon _ hb3 k2).mono ?_;rintro e w3 ⟨rfl,hz⟩;have ha3:=ha2.trans (hz.mono ha2.size)))
     go_roundw
     case rel=>exact⟨k+1,by omega,by go_num,HR2,ha3⟩
     case measure=>first|(simp[intOf];done)|(simp[intOf];omega)
   ·have hne:(Ed !=0)=true:=by simpa using h0
    have HR:Hid (Ed=E):=Lib.hid (by have:=aA2.out;unfold Pl.Q8 at this;rw[HEd.out,if_pos h0]at this;exact this)
    clear h0
    go_wp2_with (go_at_call 123;refine aBR.mono ?_;rintro e w2 ⟨rfl,hy⟩;have hb3:=hb2.trans (hy.mono hb2.size))
    go_ret
    exact⟨by rw[<-HR.out];rfl,hb3⟩
  ·have HR:Hid (0=E):=Lib.hid (by have:=hdr.out;rw[List.drop_of_length_le (by omega)]at this;exact this)
   go_wp2
   go_ret
   exact⟨by rw[<-HR.out];rfl,hbw⟩
end Go.Proofs
namespace Go.Proofs
open Tryz RowKit
attribute [-go_sem] loadVar storeVar run_equalIn_agg
attribute [local go_sem] bZ bH dU aT yQ mU
theorem aAT (A1 A2 A3 A4:Option Addr)(c1 c2 c3 c4:Nat)(f:Pl.aL)(A:Option Addr)(c:Nat)(l:List (Pl.j6×Option Addr×Nat))(w:World)(hf:bB w w.heap.size A1 A2 A3 A4 f)(hm:Small f)(hc:dY c1 c2 c3 c4 f)(hD:aAc w w.heap.size A l)(hlc:l.length<=c)(hk: ∀x∈l,∀c∈x.1.calls,c.kind<=255)(hn: ∀x∈l,x.1.name.size<=100000)(hl:l.length<=100000):
  Calls prog 48 #[.agg (fq A1 A2 A3 A4 c1 c2 c3 c4 f),.slice A l.length c] w fun e w'=>e=.returned (.int .i64 (Pl.aAd f (l.map (·.1))))∧Below w.heap.size w w':=by
 by_cases hE:Pl.aR f=0
 ·by_cases h60:60<l.length
  ·have HV:Hid (Pl.aAd f (l.map (·.1))=2):=Lib.hid (by unfold Pl.aAd;rw[if_pos hE,if_pos (by simpa using h60)])
   have HE:=Lib.hid hE
   have kf:=heap_alloc_new w (.cells (fq A1 A2 A3 A4 c1 c2 c3 c4 f) 28)
   have hb0:Below w.heap.size w (w.alloc (.cells (fq A1 A2 A3 A4 c1 c2 c3 c4 f) 28)):=(Below.refl _ w).alloc (Nat.le_refl _) _
   have iw:=ak kf underlying28 rfl av
   have n1:(60:Int)<(l.length:Int):=by omega
   clear hE
   go_enter func48,ntmps48
   go_wp2_with (go_at_call 22;refine(bX A1 A2 A3 A4 c1 c2 c3 c4 f 0 _ HE (hf.up hb0) hm hc).mono ?_;rintro e w1 ⟨rfl,hx⟩;have hb1:Below w.heap.size w w1:=hb0.trans (hx.mono hb0.size))
   go_ret
   exact⟨by rw[HV.out];rfl,hb1⟩
  ·have HV:Pl.aAd f (l.map (·.1))=Pl.Q8 f [] (l.map (·.1)):=by unfold Pl.aAd;rw[if_pos hE,if_neg (by simpa using h60)]
   rw[HV]
   exact aAG A1 A2 A3 A4 c1 c2 c3 c4 f A c l w hf hm hc hE hD hlc hk hn (by omega)
 ·obtain⟨E,he⟩: ∃E,Pl.aR f=E:=⟨_,rfl⟩
  have HV:Hid (Pl.aAd f (l.map (·.1))=E):=Lib.hid (by unfold Pl.aAd;rw[if_neg hE,he])
  rw[he]at hE
  have HE:=Lib.hid he
  have hne:(E !=0)=true:=by simpa using hE
  have kf:=heap_alloc_new w (.cells (fq A1 A2 A3 A4 c1 c2 c3 c4 f) 28)
  have hb0:Below w.heap.size w (w.alloc (.cells (fq A1 A2 A3 A4 c1 c2 c3 c4 f) 28)):=(Below.refl _ w).alloc (Nat.le_refl _) _
  have iw:=ak kf underlying28 rfl av
  clear he hE
  go_enter func48,ntmps48
  go_wp2_with (go_at_call 22;refine(bX A1 A2 A3 A4 c1 c2 c3 c4 f E _ HE (hf.up hb0) hm hc).mono ?_;rintro e w1 ⟨rfl,hx⟩;have hb1:Below w.heap.size w w1:=hb0.trans (hx.mono hb0.size))
  go_ret
  exact⟨by rw[HV.out];rfl,hb1⟩
end Go.Proofs
namespace Go.Proofs
open Tryz
namespace Pl
def tot (l:List ByteArray):Nat:=(l.map fun x=>x.size+1).sum
theorem tC (l:List ByteArray)(k:Nat):tot (l.take k)<=tot l:=by
 have h:tot l=tot (l.take k)+tot (l.drop k):=by unfold tot;rw[<-List.sum_append,<-List.map_append,List.take_append_drop]
 omega
theorem yT (l:List ByteArray)(k:Nat):tot (l.drop k)<=tot l:=by
 have h:tot l=tot (l.take k)+tot (l.drop k):=by unfold tot;rw[<-List.sum_append,<-List.map_append,List.take_append_drop]
 omega
theorem gQ {l:List ByteArray}{x:ByteArray}(h:x∈l):x.size+1<=tot l:=by
 induction l with
 |nil=>cases h
 |cons a l ih=>
  have e:tot (a::l)=a.size+1+tot l:=by unfold tot;simp
  rcases List.mem_cons.1 h with rfl|h
  ·omega
  ·have:=ih h;omega
theorem wm (l:List ByteArray):l.length<=tot l:=by
 induction l with
 |nil=>simp[tot]
 |cons a l ih=>
  have e:tot (a::l)=a.size+1+tot l:=by unfold tot;simp
  simp only[List.length_cons]
  omega
theorem yU : ∀l:List ByteArray,(Lib.join (l.map (fun x:ByteArray=>x.data.toList)) [32]).length<=tot l
 | []=>by simp[Lib.join]
 | [x]=>by
  rw[List.map_cons,List.map_nil,join_one]
  have:=gQ (l:=[x]) (x:=x) (by simp)
  have e:x.data.toList.length=x.size:=Array.length_toList
  omega
 |x::y::r=>by
  have ih:=yU (y::r)
  have e1:tot (x::y::r)=x.size+1+tot (y::r):=by unfold tot;simp
  have e:x.data.toList.length=x.size:=Array.length_toList
  rw[List.map_cons,List.map_cons,gK,List.length_append,List.length_cons,<-List.map_cons (f:=fun x:ByteArray=>x.data.toList)]
  omega
theorem PL (sep:UInt8)(l:List UInt8):((cutAt sep l).map fun x=>x.length+1).sum=l.length+1:=by
 induction l with
 |nil=>simp[cutAt]
 | cons b l ih=>
  unfold cutAt
  split
  ·simp only[List.map_cons,List.sum_cons,List.length_nil,ih,List.length_cons];omega
  ·split
   ·rename_i e;rw[e]at ih;simp at ih
   ·rename_i w ws e
    rw[e]at ih
    simp only[List.map_cons,List.sum_cons,List.length_cons]at ih ⊢
    omega
theorem Ke (l:List (List UInt8)):((solid l).map fun x=>x.length+1).sum<=(l.map fun x=>x.length+1).sum:=by
 induction l with
 |nil=>simp[solid]
 |cons a l ih=>
  unfold solid at ih ⊢
  rw[List.filter_cons]
  split
  ·simp only[List.map_cons,List.sum_cons];omega
  ·simp only[List.map_cons,List.sum_cons];omega
theorem Kg (s:ByteArray):tot (aW s)<=s.size+1:=by
 have h1:=Ke (cutAt 32 (ahead s.data.toList))
 rw[PL]at h1
 have h2:(ahead s.data.toList).length<=s.data.toList.length:=by
  unfold ahead
  exact(List.takeWhile_sublist _).length_le
 have e:s.data.toList.length=s.size:=Array.length_toList
 have h3:tot (aW s)=((solid (cutAt 32 (ahead s.data.toList))).map fun x=>x.length+1).sum:=by
  unfold tot aW kM
  rw[List.map_map]
  congr 1
 omega
theorem aBq (s:ByteArray):tot (iA s)=s.size+1:=by
 have e:s.data.toList.length=s.size:=Array.length_toList
 have h:=PL 10 s.data.toList
 rw[e]at h
 rw[<-h]
 unfold tot iA rH
 rw[List.map_map]
 congr 1
end Pl
open Tryz
namespace Pl
theorem aAN {f:aL}{y:Int}: ∀ {l:List aZ},(∀c∈l,fP f c=0∧(c.kind=3->c.aB.y=y))->Q7 f y l=0
 | [],_=>rfl
 |c::l,h=>by
  obtain⟨h1,h2⟩:=h c (by simp)
  unfold Q7
  rw[if_neg (by simp[h1]),if_neg (by rintro⟨a,b⟩;exact b (h2 a))]
  exact aAN fun d hd=>h d (by simp[hd])
theorem aBU {f:aL}{d:j6}(h:aBu f d):aAl f d=0:=by
 obtain⟨h1,h2,h3,h4,h5⟩:=h
 unfold aAl
 rw[if_neg (by omega),if_neg (by simp[h2]),if_neg (by unfold aAP bQ;simp;omega)]
 exact aAN h5
theorem aAO {f:aL}: ∀ {l:List j6} {done:List ByteArray},(∀d∈l,aBu f d)->(l.map j6.name).Nodup->(∀d∈l,d.name∉done)->Q8 f done l=0
 | [],_,_,_,_=>rfl
 | d::l,done,h,hn,hd=>by
  rw[List.map_cons]at hn
  obtain⟨n1,n2⟩:=List.nodup_cons.1 hn
  unfold Q8
  rw[if_neg (by simp[aBU (h d (by simp))]),if_neg (by simpa using hd d (by simp))]
  refine aAO (fun x hx=>h x (by simp[hx])) n2 fun x hx hm=> ?_
  rcases List.mem_append.1 hm with hm|hm
  ·exact hd x (by simp[hx]) hm
  ·have e:=List.mem_singleton.1 hm
   exact n1 (List.mem_map.2 ⟨x,hx,e⟩)
structure aBt (f:aL)(l:List j6):Prop where
 len:l.length<=60
 all: ∀d∈l,aBu f d
 one:(l.map j6.name).Nodup
theorem aA4 {f:aL}{x:kZ}{y:Int}{c:aZ}(h:jF f x y=.ok c):fP f c=0∧(c.kind=3->c.aB.y=y):=by
 unfold jF at h
 split at h
 ·split at h
  ·rename_i c' hc' he
   cases h
   refine⟨he,fun hk=> ?_⟩
   unfold looked at hc'
   obtain⟨_,_,h1⟩:=Option.bind_eq_some_iff.1 hc'
   obtain⟨_,_,h2⟩:=Option.bind_eq_some_iff.1 h1
   obtain⟨_,_,h3⟩:=Option.bind_eq_some_iff.1 h2
   obtain⟨_,_,h4⟩:=Option.map_eq_some_iff.1 h3
   subst h4
   simp only at hk ⊢
   rw[if_pos hk]
  ·cases h
 ·cases h
theorem aAE {f:aL} {ds a:List j6} {ws:List ByteArray} (h:aBt f ds) (hl:dn f ds ws=.ok a):aBt f a:=by
 unfold dn at hl
 split at hl
 ·split at hl
  ·split at hl
   ·split at hl
    ·cases hl
    ·split at hl
     ·cases hl
     ·split at hl
      ·cases hl
      ·rename_i hy h60 hr ht
       cases hl
       split at hy
       ·rename_i hn
        refine⟨by rw[List.length_append,List.length_singleton];omega,fun d hd=> ?_,?_⟩
        ·rcases List.mem_append.1 hd with hd|hd
         ·exact h.all d hd
         ·have:=List.mem_singleton.1 hd
          subst this
          exact⟨by simp,hn,by dsimp only;omega,by dsimp only;omega,fun c hc=>(by cases hc)⟩
        ·rw[List.map_append]
         refine List.nodup_append.2 ⟨h.one,by simp,fun x hx z hz e=> ?_⟩
         have:=List.mem_singleton.1 hz
         subst this
         subst e
         obtain⟨d,hd,hdn⟩:=List.mem_map.1 hx
         exact ht (List.any_eq_true.2 ⟨d,hd,by simp[hdn]⟩)
       ·cases hy
   ·cases hl
  ·cases hl
 ·split at hl
  ·cases hl
  ·split at hl
   ·cases hl
   ·split at hl
    ·cases hl
    ·split at hl
     ·cases hl
     ·rename_i d hg h20 _ c hm
      cases hl
      have hne:ds≠ []:=fun e=>by rw[e]at hg;cases hg
      have hsp:ds.dropLast++[d]=ds:=by
       rw[List.getLast?_eq_some_getLast hne]at hg
       cases hg
       exact List.dropLast_concat_getLast hne
      have hd:=h.all d (List.mem_of_getLast? hg)
      have hm2:=aA4 hm
      refine⟨by have:=List.length_pos_iff.2 hne;have:=h.len;simp;omega,fun x hx=> ?_,?_⟩
      ·rcases List.mem_append.1 hx with hx|hx
       ·exact h.all x (List.dropLast_subset _ hx)
       ·have:=List.mem_singleton.1 hx
        subst this
        refine⟨by rw[List.length_append,List.length_singleton];omega,hd.name,hd.year,hd.rank,fun c' hc'=> ?_⟩
        rcases List.mem_append.1 hc' with hc'|hc'
        ·exact hd.calls c' hc'
        ·have:=List.mem_singleton.1 hc'
         subst this
         exact hm2
      ·have h1:=h.one
       rw[<-hsp]at h1
       rw[List.map_append]at h1 ⊢
       exact h1
theorem aAe (f:aL): ∀(L:List (List ByteArray)) (ds:List j6) (n:Nat),aBt f ds->aBt f (DJ f ds n L).1
 | [],ds,n,h=>by unfold DJ;exact h
 | ws::L,ds,n,h=>by
  unfold DJ
  split
  ·exact aAe f L ds (n+1) h
  ·split
   ·rename_i a ha
    exact aAe f L a (n+1) (aAE h ha)
   ·exact⟨by simp,fun d hd=>(by cases hd),by simp⟩
theorem aAh (f:aL)(s:ByteArray):aBt f (dz f s).1:=by
 unfold dz
 split
 ·exact⟨by simp,fun d hd=>(by cases hd),by simp⟩
 ·split
  ·exact⟨by simp,fun d hd=>(by cases hd),by simp⟩
  ·exact aAe f _ [] 0 ⟨by simp,fun d hd=>(by cases hd),by simp⟩
theorem aAz {f:aL}{s:ByteArray}(h:(dz f s).2.1=0):aR f=0:=by
 unfold dz at h
 split at h
 ·exact h
 ·rename_i h1
  exact Decidable.not_not.1 h1
theorem aAI {f:aL}{s:ByteArray}(h:(dz f s).2.1=0):aAd f (dz f s).1=0:=by
 have H:=aAh f s
 unfold aAd
 rw[if_pos (aAz h),if_neg (by have:=H.len;omega)]
 exact aAO H.all H.one (fun d _ h=>(by cases h))
end Pl
