/- Proved: parts of the walk. -/
import Derived.Test.YtgbpekeoegfjpaaGreatDoorVZ06
set_option maxRecDepth 100000
set_option maxHeartbeats 2000000
namespace Go.Proofs
open Tryz RowKit
variable (A1 A2 A3 A4 : Option Addr) (c1 c2 c3 c4 : Nat) (f : Pl.aL)
theorem vV (k:Int)(c:Pl.aZ)(W:World):(Op.equalIn 10000 48 (.agg (iq k c)) (.agg (ka k c.lim 0 c.fr 0 c.size c.er))).run prog W=.ok (Pl.Ba c) W:=by
 unfold Pl.Ba Pl.bF.qO
 simp[go_sem]
 repeat' split
 all_goals simp_all
theorem rY (k:Int)(c:Pl.aZ)(W:World):(Op.equalIn 10000 48 (.agg (iq k c)) (.agg (ka k c.lim c.bL c.fr 0 c.size c.er))).run prog W=.ok (Pl.zf c) W:=by
 unfold Pl.zf Pl.bF.qO
 simp[go_sem]
 repeat' split
 all_goals simp_all
theorem rZ (k:Int)(c:Pl.aZ)(W:World):(Op.equalIn 10000 48 (.agg (iq k c)) (.agg (bR k c.lim 0 c.fr c.till 0 0 c.aB.b c.aB.n c.aB.l c.aB.y c.aB.x c.aB.s))).run prog W=.ok (Pl.zh c) W:=by
 unfold Pl.zh
 simp[go_sem]
 repeat' split
 all_goals simp_all
theorem r_ (k:Int)(c:Pl.aZ)(W:World):(Op.equalIn 10000 48 (.agg (iq k c)) (.agg (ka k c.lim c.bL c.fr c.till 0 0))).run prog W=.ok (Pl.zi c) W:=by
 unfold Pl.zi Pl.bF.qO
 simp[go_sem]
 repeat' split
 all_goals simp_all
theorem sj (k:Int)(c:Pl.aZ)(W:World):(Op.equalIn 10000 48 (.agg (iq k c)) (.agg (ka k c.lim 0 c.fr c.till c.size c.er))).run prog W=.ok (Pl.zk c) W:=by
 unfold Pl.zk Pl.bF.qO
 simp[go_sem]
 repeat' split
 all_goals simp_all
attribute [-go_sem] run_equalIn_agg storeVar loadVar
attribute [local go_sem] bZ bH dU aT
theorem NW (k:Int)(c:Pl.aZ)(w:World)(_hS:f.st.length<=100000)(_hL:f.li.length<=100000)(h0:Pl.Ba c=false):
  Calls prog 211 #[.agg (bG A1 A2 A3 A4 c1 c2 c3 c4 f k c)] w fun e w'=>e=.returned (.bool false)∧Below w.heap.size w w':=by
 have hEq: ∀W,(Op.equalIn 10000 48 (.agg (iq k c)) (.agg (ka k c.lim 0 c.fr 0 c.size c.er))).run prog W=.ok false W:=fun W=>(vV k c W).trans (by rw[h0])
 clear h0
 obtain⟨W1,hst,kb,ko,hall⟩:=dG w (bG A1 A2 A3 A4 c1 c2 c3 c4 f k c) 128 48 48 bP (ka k c.lim 0 c.fr 0 c.size c.er) aj rfl (by simp[Value.oneCell'])
 obtain⟨aQ,aS⟩:=ah kb
 obtain⟨dM,dN⟩:=ah ko
 have aC:=(lO kb)
 have bK:=(lO ko)
 have hla:=ay.call (ay.mk (f:=f) (c:=c) (k:=k) kb)
 have hlb:=ak ko underlying48 rfl aj
 have hlc:=ay.whole (ay.mk (f:=f) (c:=c) (k:=k) kb)
 go_enter func211,ntmps211
 go_wp2
 go_ret
 exact⟨rfl,by go_grown⟩
theorem NY (k:Int)(c:Pl.aZ)(w:World)(_hS:f.st.length<=100000)(hL:f.li.length<=100000)(h0:Pl.Ba c=true)(h1:Pl.bE f.li.length c.lim=false):
  Calls prog 211 #[.agg (bG A1 A2 A3 A4 c1 c2 c3 c4 f k c)] w fun e w'=>e=.returned (.bool false)∧Below w.heap.size w w':=by
 have hEq: ∀W,(Op.equalIn 10000 48 (.agg (iq k c)) (.agg (ka k c.lim 0 c.fr 0 c.size c.er))).run prog W=.ok true W:=fun W=>(vV k c W).trans (by rw[h0])
 have H1:=Lib.hid h1
 clear h0 h1
 obtain⟨W1,hst,kb,ko,hall⟩:=dG w (bG A1 A2 A3 A4 c1 c2 c3 c4 f k c) 128 48 48 bP (ka k c.lim 0 c.fr 0 c.size c.er) aj rfl (by simp[Value.oneCell'])
 obtain⟨aQ,aS⟩:=ah kb
 obtain⟨dM,dN⟩:=ah ko
 have aC:=(lO kb)
 have bK:=(lO ko)
 have hla:=ay.call (ay.mk (f:=f) (c:=c) (k:=k) kb)
 have hlb:=ak ko underlying48 rfl aj
 have hlc:=ay.whole (ay.mk (f:=f) (c:=c) (k:=k) kb)
 go_enter func211,ntmps211
 go_wp2_with (first
  |(go_at_call 270;refine(ji A1 A2 A3 A4 c1 c2 c3 c4 f k c _ c.lim false _ (bI (by simp)) (by omega) H1).mono ?_;rintro e w1 ⟨rfl,hx⟩;obtain⟨kb,aQ,aS,aC⟩:=kB hx kb;obtain⟨ko,dM,dN,bK⟩:=kB hx ko;have hall:=bT (w:=w) hx;have hsz:w.heap.size<=w1.heap.size:=hall.size;have hl1:=ay.whole (ay.mk (f:=f) (c:=c) (k:=k) kb);clear hx))
 go_ret
 exact⟨rfl,by go_grown⟩
theorem NZ (k:Int)(c:Pl.aZ)(w:World)(hS:f.st.length<=100000)(hL:f.li.length<=100000)(h0:Pl.Ba c=true)(h1:Pl.bE f.li.length c.lim=true)(h2:Pl.bE f.st.length c.fr=false):
  Calls prog 211 #[.agg (bG A1 A2 A3 A4 c1 c2 c3 c4 f k c)] w fun e w'=>e=.returned (.bool false)∧Below w.heap.size w w':=by
 have hEq: ∀W,(Op.equalIn 10000 48 (.agg (iq k c)) (.agg (ka k c.lim 0 c.fr 0 c.size c.er))).run prog W=.ok true W:=fun W=>(vV k c W).trans (by rw[h0])
 have H1:=Lib.hid h1
 have H2:=Lib.hid h2
 clear h0 h1 h2
 obtain⟨W1,hst,kb,ko,hall⟩:=dG w (bG A1 A2 A3 A4 c1 c2 c3 c4 f k c) 128 48 48 bP (ka k c.lim 0 c.fr 0 c.size c.er) aj rfl (by simp[Value.oneCell'])
 obtain⟨aQ,aS⟩:=ah kb
 obtain⟨dM,dN⟩:=ah ko
 have aC:=(lO kb)
 have bK:=(lO ko)
 have hla:=ay.call (ay.mk (f:=f) (c:=c) (k:=k) kb)
 have hlb:=ak ko underlying48 rfl aj
 have hlc:=ay.whole (ay.mk (f:=f) (c:=c) (k:=k) kb)
 go_enter func211,ntmps211
 go_wp2_with (first
  |(go_at_call 270;refine(ji A1 A2 A3 A4 c1 c2 c3 c4 f k c _ c.lim true _ (bI (by simp)) (by omega) H1).mono ?_;rintro e w1 ⟨rfl,hx⟩;obtain⟨kb,aQ,aS,aC⟩:=kB hx kb;obtain⟨ko,dM,dN,bK⟩:=kB hx ko;have hall:=bT (w:=w) hx;have hsz:w.heap.size<=w1.heap.size:=hall.size;have hl1:=ay.whole (ay.mk (f:=f) (c:=c) (k:=k) kb);clear hx)
  |(go_at_call 271;refine(qj A1 A2 A3 A4 c1 c2 c3 c4 f k c _ c.fr false _ (bI (by simp)) (by omega) H2).mono ?_;rintro e w2 ⟨rfl,hx⟩;obtain⟨kb,aQ,aS,aC⟩:=kB hx kb;obtain⟨ko,dM,dN,bK⟩:=kB hx ko;have hall:=bT (w:=w) hx;have hsz:w.heap.size<=w2.heap.size:=hall.size;have hl2:=ay.whole (ay.mk (f:=f) (c:=c) (k:=k) kb);clear hx))
 go_ret
 exact⟨rfl,by go_grown⟩
theorem N8 (k:Int)(c:Pl.aZ)(w:World)(hS:f.st.length<=100000)(hL:f.li.length<=100000)(h0:Pl.Ba c=true)(h1:Pl.bE f.li.length c.lim=true)(h2:Pl.bE f.st.length c.fr=true)(b:Bool)(h3:Pl.sizedB c 0=b):
  Calls prog 211 #[.agg (bG A1 A2 A3 A4 c1 c2 c3 c4 f k c)] w fun e w'=>e=.returned (.bool b)∧Below w.heap.size w w':=by
 have hEq: ∀W,(Op.equalIn 10000 48 (.agg (iq k c)) (.agg (ka k c.lim 0 c.fr 0 c.size c.er))).run prog W=.ok true W:=fun W=>(vV k c W).trans (by rw[h0])
 have H1:=Lib.hid h1
 have H2:=Lib.hid h2
 have H3:=Lib.hid h3
 clear h0 h1 h2 h3
 obtain⟨W1,hst,kb,ko,hall⟩:=dG w (bG A1 A2 A3 A4 c1 c2 c3 c4 f k c) 128 48 48 bP (ka k c.lim 0 c.fr 0 c.size c.er) aj rfl (by simp[Value.oneCell'])
 obtain⟨aQ,aS⟩:=ah kb
 obtain⟨dM,dN⟩:=ah ko
 have aC:=(lO kb)
 have bK:=(lO ko)
 have hla:=ay.call (ay.mk (f:=f) (c:=c) (k:=k) kb)
 have hlb:=ak ko underlying48 rfl aj
 have hlc:=ay.whole (ay.mk (f:=f) (c:=c) (k:=k) kb)
 go_enter func211,ntmps211
 go_wp2_with (first
  |(go_at_call 270;refine(ji A1 A2 A3 A4 c1 c2 c3 c4 f k c _ c.lim true _ (bI (by simp)) (by omega) H1).mono ?_;rintro e w1 ⟨rfl,hx⟩;obtain⟨kb,aQ,aS,aC⟩:=kB hx kb;obtain⟨ko,dM,dN,bK⟩:=kB hx ko;have hall:=bT (w:=w) hx;have hsz:w.heap.size<=w1.heap.size:=hall.size;have hl1:=ay.whole (ay.mk (f:=f) (c:=c) (k:=k) kb);clear hx)
  |(go_at_call 271;refine(qj A1 A2 A3 A4 c1 c2 c3 c4 f k c _ c.fr true _ (bI (by simp)) (by omega) H2).mono ?_;rintro e w2 ⟨rfl,hx⟩;obtain⟨kb,aQ,aS,aC⟩:=kB hx kb;obtain⟨ko,dM,dN,bK⟩:=kB hx ko;have hall:=bT (w:=w) hx;have hsz:w.heap.size<=w2.heap.size:=hall.size;have hl2:=ay.whole (ay.mk (f:=f) (c:=c) (k:=k) kb);clear hx)
  |(go_at_call 272;refine(Bb A1 A2 A3 A4 c1 c2 c3 c4 f k c 0 b _ H3).mono ?_;rintro e w3 ⟨rfl,hx⟩;obtain⟨kb,aQ,aS,aC⟩:=kB hx kb;obtain⟨ko,dM,dN,bK⟩:=kB hx ko;have hall:=bT (w:=w) hx;have hsz:w.heap.size<=w3.heap.size:=hall.size;have hl3:=ay.whole (ay.mk (f:=f) (c:=c) (k:=k) kb);clear hx))
 go_ret
 exact⟨rfl,by go_grown⟩
theorem N_ (k:Int)(c:Pl.aZ)(w:World)(hS:f.st.length<=100000)(hL:f.li.length<=100000):
  Calls prog 211 #[.agg (bG A1 A2 A3 A4 c1 c2 c3 c4 f k c)] w fun e w'=>e=.returned (.bool (Pl.wS f.st.length f.li.length c))∧Below w.heap.size w w':=by
 unfold Pl.wS
 cases h0:Pl.Ba c with
 |false=>simpa using NW A1 A2 A3 A4 c1 c2 c3 c4 f k c w hS hL h0
 |true=>
 cases h1:Pl.bE f.li.length c.lim with
 |false=>simpa using NY A1 A2 A3 A4 c1 c2 c3 c4 f k c w hS hL h0 h1
 |true=>
 cases h2:Pl.bE f.st.length c.fr with
 |false=>simpa using NZ A1 A2 A3 A4 c1 c2 c3 c4 f k c w hS hL h0 h1 h2
 |true=>
 simpa using N8 A1 A2 A3 A4 c1 c2 c3 c4 f k c w hS hL h0 h1 h2 _ rfl
theorem Oa (k:Int)(c:Pl.aZ)(w:World)(_hS:f.st.length<=100000)(_hL:f.li.length<=100000)(h0:Pl.zf c=false):
  Calls prog 213 #[.agg (bG A1 A2 A3 A4 c1 c2 c3 c4 f k c)] w fun e w'=>e=.returned (.bool false)∧Below w.heap.size w w':=by
 have hEq: ∀W,(Op.equalIn 10000 48 (.agg (iq k c)) (.agg (ka k c.lim c.bL c.fr 0 c.size c.er))).run prog W=.ok false W:=fun W=>(rY k c W).trans (by rw[h0])
 clear h0
 obtain⟨W1,hst,kb,ko,hall⟩:=dG w (bG A1 A2 A3 A4 c1 c2 c3 c4 f k c) 128 48 48 bP (ka k c.lim c.bL c.fr 0 c.size c.er) aj rfl (by simp[Value.oneCell'])
 obtain⟨aQ,aS⟩:=ah kb
 obtain⟨dM,dN⟩:=ah ko
 have aC:=(lO kb)
 have bK:=(lO ko)
 have hla:=ay.call (ay.mk (f:=f) (c:=c) (k:=k) kb)
 have hlb:=ak ko underlying48 rfl aj
 have hlc:=ay.whole (ay.mk (f:=f) (c:=c) (k:=k) kb)
 go_enter func213,ntmps213
 go_wp2
 go_ret
 exact⟨rfl,by go_grown⟩
theorem Ob (k:Int)(c:Pl.aZ)(w:World)(_hS:f.st.length<=100000)(hL:f.li.length<=100000)(h0:Pl.zf c=true)(h1:(Pl.bE f.li.length c.lim&&Pl.bE f.li.length c.bL)=false):
  Calls prog 213 #[.agg (bG A1 A2 A3 A4 c1 c2 c3 c4 f k c)] w fun e w'=>e=.returned (.bool false)∧Below w.heap.size w w':=by
 have hEq: ∀W,(Op.equalIn 10000 48 (.agg (iq k c)) (.agg (ka k c.lim c.bL c.fr 0 c.size c.er))).run prog W=.ok true W:=fun W=>(rY k c W).trans (by rw[h0])
 have H1:=Lib.hid h1
 clear h0 h1
 obtain⟨W1,hst,kb,ko,hall⟩:=dG w (bG A1 A2 A3 A4 c1 c2 c3 c4 f k c) 128 48 48 bP (ka k c.lim c.bL c.fr 0 c.size c.er) aj rfl (by simp[Value.oneCell'])
 obtain⟨aQ,aS⟩:=ah kb
 obtain⟨dM,dN⟩:=ah ko
 have aC:=(lO kb)
 have bK:=(lO ko)
 have hla:=ay.call (ay.mk (f:=f) (c:=c) (k:=k) kb)
 have hlb:=ak ko underlying48 rfl aj
 have hlc:=ay.whole (ay.mk (f:=f) (c:=c) (k:=k) kb)
 go_enter func213,ntmps213
 go_wp2_with (first
  |(go_at_call 270;refine(lW A1 A2 A3 A4 c1 c2 c3 c4 f k c _ c.lim c.bL false _ (bI (by simp)) (by omega) H1).mono ?_;rintro e w1 ⟨rfl,hx⟩;obtain⟨kb,aQ,aS,aC⟩:=kB hx kb;obtain⟨ko,dM,dN,bK⟩:=kB hx ko;have hall:=bT (w:=w) hx;have hsz:w.heap.size<=w1.heap.size:=hall.size;have hl1:=ay.whole (ay.mk (f:=f) (c:=c) (k:=k) kb);clear hx))
 go_ret
 exact⟨rfl,by go_grown⟩
theorem Oc (k:Int)(c:Pl.aZ)(w:World)(_hS:f.st.length<=100000)(hL:f.li.length<=100000)(h0:Pl.zf c=true)(h1:(Pl.bE f.li.length c.lim&&Pl.bE f.li.length c.bL)=true)(h2:decide (c.lim<c.bL)=false):
  Calls prog 213 #[.agg (bG A1 A2 A3 A4 c1 c2 c3 c4 f k c)] w fun e w'=>e=.returned (.bool false)∧Below w.heap.size w w':=by
 have hEq: ∀W,(Op.equalIn 10000 48 (.agg (iq k c)) (.agg (ka k c.lim c.bL c.fr 0 c.size c.er))).run prog W=.ok true W:=fun W=>(rY k c W).trans (by rw[h0])
 have H1:=Lib.hid h1
 clear h0 h1
 obtain⟨W1,hst,kb,ko,hall⟩:=dG w (bG A1 A2 A3 A4 c1 c2 c3 c4 f k c) 128 48 48 bP (ka k c.lim c.bL c.fr 0 c.size c.er) aj rfl (by simp[Value.oneCell'])
 obtain⟨aQ,aS⟩:=ah kb
 obtain⟨dM,dN⟩:=ah ko
 have aC:=(lO kb)
 have bK:=(lO ko)
 have hla:=ay.call (ay.mk (f:=f) (c:=c) (k:=k) kb)
 have hlb:=ak ko underlying48 rfl aj
 have hlc:=ay.whole (ay.mk (f:=f) (c:=c) (k:=k) kb)
 go_enter func213,ntmps213
 go_wp2_with (first
  |(go_at_call 270;refine(lW A1 A2 A3 A4 c1 c2 c3 c4 f k c _ c.lim c.bL true _ (bI (by simp)) (by omega) H1).mono ?_;rintro e w1 ⟨rfl,hx⟩;obtain⟨kb,aQ,aS,aC⟩:=kB hx kb;obtain⟨ko,dM,dN,bK⟩:=kB hx ko;have hall:=bT (w:=w) hx;have hsz:w.heap.size<=w1.heap.size:=hall.size;have hl1:=ay.whole (ay.mk (f:=f) (c:=c) (k:=k) kb);clear hx))
 go_ret
 exact⟨rfl,by go_grown⟩
theorem Od (k:Int)(c:Pl.aZ)(w:World)(hS:f.st.length<=100000)(hL:f.li.length<=100000)(h0:Pl.zf c=true)(h1:(Pl.bE f.li.length c.lim&&Pl.bE f.li.length c.bL)=true)(h2:decide (c.lim<c.bL)=true)(h3:Pl.bE f.st.length c.fr=false):
  Calls prog 213 #[.agg (bG A1 A2 A3 A4 c1 c2 c3 c4 f k c)] w fun e w'=>e=.returned (.bool false)∧Below w.heap.size w w':=by
 have hEq: ∀W,(Op.equalIn 10000 48 (.agg (iq k c)) (.agg (ka k c.lim c.bL c.fr 0 c.size c.er))).run prog W=.ok true W:=fun W=>(rY k c W).trans (by rw[h0])
 have H1:=Lib.hid h1
 have H3:=Lib.hid h3
 clear h0 h1 h3
 obtain⟨W1,hst,kb,ko,hall⟩:=dG w (bG A1 A2 A3 A4 c1 c2 c3 c4 f k c) 128 48 48 bP (ka k c.lim c.bL c.fr 0 c.size c.er) aj rfl (by simp[Value.oneCell'])
 obtain⟨aQ,aS⟩:=ah kb
 obtain⟨dM,dN⟩:=ah ko
 have aC:=(lO kb)
 have bK:=(lO ko)
 have hla:=ay.call (ay.mk (f:=f) (c:=c) (k:=k) kb)
 have hlb:=ak ko underlying48 rfl aj
 have hlc:=ay.whole (ay.mk (f:=f) (c:=c) (k:=k) kb)
 go_enter func213,ntmps213
 go_wp2_with (first
  |(go_at_call 270;refine(lW A1 A2 A3 A4 c1 c2 c3 c4 f k c _ c.lim c.bL true _ (bI (by simp)) (by omega) H1).mono ?_;rintro e w1 ⟨rfl,hx⟩;obtain⟨kb,aQ,aS,aC⟩:=kB hx kb;obtain⟨ko,dM,dN,bK⟩:=kB hx ko;have hall:=bT (w:=w) hx;have hsz:w.heap.size<=w1.heap.size:=hall.size;have hl1:=ay.whole (ay.mk (f:=f) (c:=c) (k:=k) kb);clear hx)
  |(go_at_call 271;refine(qj A1 A2 A3 A4 c1 c2 c3 c4 f k c _ c.fr false _ (bI (by simp)) (by omega) H3).mono ?_;rintro e w3 ⟨rfl,hx⟩;obtain⟨kb,aQ,aS,aC⟩:=kB hx kb;obtain⟨ko,dM,dN,bK⟩:=kB hx ko;have hall:=bT (w:=w) hx;have hsz:w.heap.size<=w3.heap.size:=hall.size;have hl3:=ay.whole (ay.mk (f:=f) (c:=c) (k:=k) kb);clear hx))
 go_ret
 exact⟨rfl,by go_grown⟩
theorem Oe (k:Int)(c:Pl.aZ)(w:World)(hS:f.st.length<=100000)(hL:f.li.length<=100000)(h0:Pl.zf c=true)(h1:(Pl.bE f.li.length c.lim&&Pl.bE f.li.length c.bL)=true)(h2:decide (c.lim<c.bL)=true)(h3:Pl.bE f.st.length c.fr=true)(b:Bool)(h4:Pl.sizedB c 0=b):
  Calls prog 213 #[.agg (bG A1 A2 A3 A4 c1 c2 c3 c4 f k c)] w fun e w'=>e=.returned (.bool b)∧Below w.heap.size w w':=by
 have hEq: ∀W,(Op.equalIn 10000 48 (.agg (iq k c)) (.agg (ka k c.lim c.bL c.fr 0 c.size c.er))).run prog W=.ok true W:=fun W=>(rY k c W).trans (by rw[h0])
 have H1:=Lib.hid h1
 have H3:=Lib.hid h3
 have H4:=Lib.hid h4
 clear h0 h1 h3 h4
 obtain⟨W1,hst,kb,ko,hall⟩:=dG w (bG A1 A2 A3 A4 c1 c2 c3 c4 f k c) 128 48 48 bP (ka k c.lim c.bL c.fr 0 c.size c.er) aj rfl (by simp[Value.oneCell'])
 obtain⟨aQ,aS⟩:=ah kb
 obtain⟨dM,dN⟩:=ah ko
 have aC:=(lO kb)
 have bK:=(lO ko)
 have hla:=ay.call (ay.mk (f:=f) (c:=c) (k:=k) kb)
 have hlb:=ak ko underlying48 rfl aj
 have hlc:=ay.whole (ay.mk (f:=f) (c:=c) (k:=k) kb)
 go_enter func213,ntmps213
 go_wp2_with (first
  |(go_at_call 270;refine(lW A1 A2 A3 A4 c1 c2 c3 c4 f k c _ c.lim c.bL true _ (bI (by simp)) (by omega) H1).mono ?_;rintro e w1 ⟨rfl,hx⟩;obtain⟨kb,aQ,aS,aC⟩:=kB hx kb;obtain⟨ko,dM,dN,bK⟩:=kB hx ko;have hall:=bT (w:=w) hx;have hsz:w.heap.size<=w1.heap.size:=hall.size;have hl1:=ay.whole (ay.mk (f:=f) (c:=c) (k:=k) kb);clear hx)
  |(go_at_call 271;refine(qj A1 A2 A3 A4 c1 c2 c3 c4 f k c _ c.fr true _ (bI (by simp)) (by omega) H3).mono ?_;rintro e w3 ⟨rfl,hx⟩;obtain⟨kb,aQ,aS,aC⟩:=kB hx kb;obtain⟨ko,dM,dN,bK⟩:=kB hx ko;have hall:=bT (w:=w) hx;have hsz:w.heap.size<=w3.heap.size:=hall.size;have hl3:=ay.whole (ay.mk (f:=f) (c:=c) (k:=k) kb);clear hx)
  |(go_at_call 272;refine(Bb A1 A2 A3 A4 c1 c2 c3 c4 f k c 0 b _ H4).mono ?_;rintro e w4 ⟨rfl,hx⟩;obtain⟨kb,aQ,aS,aC⟩:=kB hx kb;obtain⟨ko,dM,dN,bK⟩:=kB hx ko;have hall:=bT (w:=w) hx;have hsz:w.heap.size<=w4.heap.size:=hall.size;have hl4:=ay.whole (ay.mk (f:=f) (c:=c) (k:=k) kb);clear hx))
 go_ret
 exact⟨rfl,by go_grown⟩
theorem Og (k:Int)(c:Pl.aZ)(w:World)(hS:f.st.length<=100000)(hL:f.li.length<=100000):
  Calls prog 213 #[.agg (bG A1 A2 A3 A4 c1 c2 c3 c4 f k c)] w fun e w'=>e=.returned (.bool (Pl.wT f.st.length f.li.length c))∧Below w.heap.size w w':=by
 unfold Pl.wT
 cases h0:Pl.zf c with
 |false=>simpa using Oa A1 A2 A3 A4 c1 c2 c3 c4 f k c w hS hL h0
 |true=>
 cases h1:(Pl.bE f.li.length c.lim&&Pl.bE f.li.length c.bL)with
 |false=>simpa using Ob A1 A2 A3 A4 c1 c2 c3 c4 f k c w hS hL h0 h1
 |true=>
 cases h2:decide (c.lim<c.bL)with
 |false=>simpa using Oc A1 A2 A3 A4 c1 c2 c3 c4 f k c w hS hL h0 h1 h2
 |true=>
 cases h3:Pl.bE f.st.length c.fr with
 |false=>simpa using Od A1 A2 A3 A4 c1 c2 c3 c4 f k c w hS hL h0 h1 h2 h3
 |true=>
 simpa using Oe A1 A2 A3 A4 c1 c2 c3 c4 f k c w hS hL h0 h1 h2 h3 _ rfl
theorem KY (k:Int)(c:Pl.aZ)(w:World)(_hS:f.st.length<=100000)(_hL:f.li.length<=100000)(h0:Pl.zh c=false):
  Calls prog 215 #[.agg (bG A1 A2 A3 A4 c1 c2 c3 c4 f k c)] w fun e w'=>e=.returned (.bool false)∧Below w.heap.size w w':=by
 have hEq: ∀W,(Op.equalIn 10000 48 (.agg (iq k c)) (.agg (bR k c.lim 0 c.fr c.till 0 0 c.aB.b c.aB.n c.aB.l c.aB.y c.aB.x c.aB.s))).run prog W=.ok false W:=fun W=>(rZ k c W).trans (by rw[h0])
 clear h0
 obtain⟨W1,hst,kb,ko,hall⟩:=dG w (bG A1 A2 A3 A4 c1 c2 c3 c4 f k c) 128 48 48 bP (bR k c.lim 0 c.fr c.till 0 0 c.aB.b c.aB.n c.aB.l c.aB.y c.aB.x c.aB.s) aj rfl (by simp[Value.oneCell'])
 obtain⟨aQ,aS⟩:=ah kb
 obtain⟨dM,dN⟩:=ah ko
 have aC:=(lO kb)
 have bK:=(lO ko)
 have hla:=ay.call (ay.mk (f:=f) (c:=c) (k:=k) kb)
 have hlb:=ak ko underlying48 rfl aj
 have hlc:=ay.whole (ay.mk (f:=f) (c:=c) (k:=k) kb)
 have hld:=ay.aB (ay.mk (f:=f) (c:=c) (k:=k) (heap_alloc_new w (.cells (bG A1 A2 A3 A4 c1 c2 c3 c4 f k c) 128)))
 go_enter func215,ntmps215
 go_wp2
 go_ret
 exact⟨rfl,by go_grown⟩
theorem KZ (k:Int)(c:Pl.aZ)(w:World)(_hS:f.st.length<=100000)(hL:f.li.length<=100000)(h0:Pl.zh c=true)(h1:Pl.bE f.li.length c.lim=false):
  Calls prog 215 #[.agg (bG A1 A2 A3 A4 c1 c2 c3 c4 f k c)] w fun e w'=>e=.returned (.bool false)∧Below w.heap.size w w':=by
 have hEq: ∀W,(Op.equalIn 10000 48 (.agg (iq k c)) (.agg (bR k c.lim 0 c.fr c.till 0 0 c.aB.b c.aB.n c.aB.l c.aB.y c.aB.x c.aB.s))).run prog W=.ok true W:=fun W=>(rZ k c W).trans (by rw[h0])
 have H1:=Lib.hid h1
 clear h0 h1
 obtain⟨W1,hst,kb,ko,hall⟩:=dG w (bG A1 A2 A3 A4 c1 c2 c3 c4 f k c) 128 48 48 bP (bR k c.lim 0 c.fr c.till 0 0 c.aB.b c.aB.n c.aB.l c.aB.y c.aB.x c.aB.s) aj rfl (by simp[Value.oneCell'])
 obtain⟨aQ,aS⟩:=ah kb
 obtain⟨dM,dN⟩:=ah ko
 have aC:=(lO kb)
 have bK:=(lO ko)
 have hla:=ay.call (ay.mk (f:=f) (c:=c) (k:=k) kb)
 have hlb:=ak ko underlying48 rfl aj
 have hlc:=ay.whole (ay.mk (f:=f) (c:=c) (k:=k) kb)
 have hld:=ay.aB (ay.mk (f:=f) (c:=c) (k:=k) (heap_alloc_new w (.cells (bG A1 A2 A3 A4 c1 c2 c3 c4 f k c) 128)))
 go_enter func215,ntmps215
 go_wp2_with (first
  |(go_at_call 270;refine(ji A1 A2 A3 A4 c1 c2 c3 c4 f k c _ c.lim false _ (bI (by simp)) (by omega) H1).mono ?_;rintro e w1 ⟨rfl,hx⟩;obtain⟨kb,aQ,aS,aC⟩:=kB hx kb;obtain⟨ko,dM,dN,bK⟩:=kB hx ko;have hall:=bT (w:=w) hx;have hsz:w.heap.size<=w1.heap.size:=hall.size;have hl1:=ay.whole (ay.mk (f:=f) (c:=c) (k:=k) kb);have hm1:=ay.aB (ay.mk (f:=f) (c:=c) (k:=k) kb);clear hx))
 go_ret
 exact⟨rfl,by go_grown⟩
theorem K3 (k:Int)(c:Pl.aZ)(w:World)(hS:f.st.length<=100000)(hL:f.li.length<=100000)(h0:Pl.zh c=true)(h1:Pl.bE f.li.length c.lim=true)(h2:(Pl.bE f.st.length c.fr&&Pl.bE f.st.length c.till)=false):
  Calls prog 215 #[.agg (bG A1 A2 A3 A4 c1 c2 c3 c4 f k c)] w fun e w'=>e=.returned (.bool false)∧Below w.heap.size w w':=by
 have hEq: ∀W,(Op.equalIn 10000 48 (.agg (iq k c)) (.agg (bR k c.lim 0 c.fr c.till 0 0 c.aB.b c.aB.n c.aB.l c.aB.y c.aB.x c.aB.s))).run prog W=.ok true W:=fun W=>(rZ k c W).trans (by rw[h0])
 have H1:=Lib.hid h1
 have H2:=Lib.hid h2
 clear h0 h1 h2
 obtain⟨W1,hst,kb,ko,hall⟩:=dG w (bG A1 A2 A3 A4 c1 c2 c3 c4 f k c) 128 48 48 bP (bR k c.lim 0 c.fr c.till 0 0 c.aB.b c.aB.n c.aB.l c.aB.y c.aB.x c.aB.s) aj rfl (by simp[Value.oneCell'])
 obtain⟨aQ,aS⟩:=ah kb
 obtain⟨dM,dN⟩:=ah ko
 have aC:=(lO kb)
 have bK:=(lO ko)
 have hla:=ay.call (ay.mk (f:=f) (c:=c) (k:=k) kb)
 have hlb:=ak ko underlying48 rfl aj
 have hlc:=ay.whole (ay.mk (f:=f) (c:=c) (k:=k) kb)
 have hld:=ay.aB (ay.mk (f:=f) (c:=c) (k:=k) (heap_alloc_new w (.cells (bG A1 A2 A3 A4 c1 c2 c3 c4 f k c) 128)))
 go_enter func215,ntmps215
 go_wp2_with (first
  |(go_at_call 270;refine(ji A1 A2 A3 A4 c1 c2 c3 c4 f k c _ c.lim true _ (bI (by simp)) (by omega) H1).mono ?_;rintro e w1 ⟨rfl,hx⟩;obtain⟨kb,aQ,aS,aC⟩:=kB hx kb;obtain⟨ko,dM,dN,bK⟩:=kB hx ko;have hall:=bT (w:=w) hx;have hsz:w.heap.size<=w1.heap.size:=hall.size;have hl1:=ay.whole (ay.mk (f:=f) (c:=c) (k:=k) kb);have hm1:=ay.aB (ay.mk (f:=f) (c:=c) (k:=k) kb);clear hx)
  |(go_at_call 271;refine(iW A1 A2 A3 A4 c1 c2 c3 c4 f k c _ c.fr c.till false _ (bI (by simp)) (by omega) H2).mono ?_;rintro e w2 ⟨rfl,hx⟩;obtain⟨kb,aQ,aS,aC⟩:=kB hx kb;obtain⟨ko,dM,dN,bK⟩:=kB hx ko;have hall:=bT (w:=w) hx;have hsz:w.heap.size<=w2.heap.size:=hall.size;have hl2:=ay.whole (ay.mk (f:=f) (c:=c) (k:=k) kb);have hm2:=ay.aB (ay.mk (f:=f) (c:=c) (k:=k) kb);clear hx))
 go_ret
 exact⟨rfl,by go_grown⟩
theorem K4 (k:Int)(c:Pl.aZ)(w:World)(hS:f.st.length<=100000)(hL:f.li.length<=100000)(h0:Pl.zh c=true)(h1:Pl.bE f.li.length c.lim=true)(h2:(Pl.bE f.st.length c.fr&&Pl.bE f.st.length c.till)=true)(h3:(c.fr !=c.till)=false):
  Calls prog 215 #[.agg (bG A1 A2 A3 A4 c1 c2 c3 c4 f k c)] w fun e w'=>e=.returned (.bool false)∧Below w.heap.size w w':=by
 have hEq: ∀W,(Op.equalIn 10000 48 (.agg (iq k c)) (.agg (bR k c.lim 0 c.fr c.till 0 0 c.aB.b c.aB.n c.aB.l c.aB.y c.aB.x c.aB.s))).run prog W=.ok true W:=fun W=>(rZ k c W).trans (by rw[h0])
 have H1:=Lib.hid h1
 have H2:=Lib.hid h2
 clear h0 h1 h2
 obtain⟨W1,hst,kb,ko,hall⟩:=dG w (bG A1 A2 A3 A4 c1 c2 c3 c4 f k c) 128 48 48 bP (bR k c.lim 0 c.fr c.till 0 0 c.aB.b c.aB.n c.aB.l c.aB.y c.aB.x c.aB.s) aj rfl (by simp[Value.oneCell'])
 obtain⟨aQ,aS⟩:=ah kb
 obtain⟨dM,dN⟩:=ah ko
 have aC:=(lO kb)
 have bK:=(lO ko)
 have hla:=ay.call (ay.mk (f:=f) (c:=c) (k:=k) kb)
 have hlb:=ak ko underlying48 rfl aj
 have hlc:=ay.whole (ay.mk (f:=f) (c:=c) (k:=k) kb)
 have hld:=ay.aB (ay.mk (f:=f) (c:=c) (k:=k) (heap_alloc_new w (.cells (bG A1 A2 A3 A4 c1 c2 c3 c4 f k c) 128)))
 go_enter func215,ntmps215
 go_wp2_with (first
  |(go_at_call 270;refine(ji A1 A2 A3 A4 c1 c2 c3 c4 f k c _ c.lim true _ (bI (by simp)) (by omega) H1).mono ?_;rintro e w1 ⟨rfl,hx⟩;obtain⟨kb,aQ,aS,aC⟩:=kB hx kb;obtain⟨ko,dM,dN,bK⟩:=kB hx ko;have hall:=bT (w:=w) hx;have hsz:w.heap.size<=w1.heap.size:=hall.size;have hl1:=ay.whole (ay.mk (f:=f) (c:=c) (k:=k) kb);have hm1:=ay.aB (ay.mk (f:=f) (c:=c) (k:=k) kb);clear hx)
  |(go_at_call 271;refine(iW A1 A2 A3 A4 c1 c2 c3 c4 f k c _ c.fr c.till true _ (bI (by simp)) (by omega) H2).mono ?_;rintro e w2 ⟨rfl,hx⟩;obtain⟨kb,aQ,aS,aC⟩:=kB hx kb;obtain⟨ko,dM,dN,bK⟩:=kB hx ko;have hall:=bT (w:=w) hx;have hsz:w.heap.size<=w2.heap.size:=hall.size;have hl2:=ay.whole (ay.mk (f:=f) (c:=c) (k:=k) kb);have hm2:=ay.aB (ay.mk (f:=f) (c:=c) (k:=k) kb);clear hx))
 go_ret
 exact⟨rfl,by go_grown⟩
theorem K5 (k:Int)(c:Pl.aZ)(w:World)(hS:f.st.length<=100000)(hL:f.li.length<=100000)(h0:Pl.zh c=true)(h1:Pl.bE f.li.length c.lim=true)(h2:(Pl.bE f.st.length c.fr&&Pl.bE f.st.length c.till)=true)(h3:(c.fr !=c.till)=true)(b:Bool)(h4:c.aB.ok=b):
  Calls prog 215 #[.agg (bG A1 A2 A3 A4 c1 c2 c3 c4 f k c)] w fun e w'=>e=.returned (.bool b)∧Below w.heap.size w w':=by
 have hEq: ∀W,(Op.equalIn 10000 48 (.agg (iq k c)) (.agg (bR k c.lim 0 c.fr c.till 0 0 c.aB.b c.aB.n c.aB.l c.aB.y c.aB.x c.aB.s))).run prog W=.ok true W:=fun W=>(rZ k c W).trans (by rw[h0])
 have H1:=Lib.hid h1
 have H2:=Lib.hid h2
 have hc4:(Pl.err (Pl.dJ c.aB.b c.aB.n c.aB.l c.aB.y c.aB.x c.aB.s)==0)=b:=by
  rw[<-h4];unfold Pl.bF.ok;cases Pl.dJ c.aB.b c.aB.n c.aB.l c.aB.y c.aB.x c.aB.s<;>rfl
 clear h0 h1 h2 h4
 obtain⟨W1,hst,kb,ko,hall⟩:=dG w (bG A1 A2 A3 A4 c1 c2 c3 c4 f k c) 128 48 48 bP (bR k c.lim 0 c.fr c.till 0 0 c.aB.b c.aB.n c.aB.l c.aB.y c.aB.x c.aB.s) aj rfl (by simp[Value.oneCell'])
 obtain⟨aQ,aS⟩:=ah kb
 obtain⟨dM,dN⟩:=ah ko
 have aC:=(lO kb)
 have bK:=(lO ko)
 have hla:=ay.call (ay.mk (f:=f) (c:=c) (k:=k) kb)
 have hlb:=ak ko underlying48 rfl aj
 have hlc:=ay.whole (ay.mk (f:=f) (c:=c) (k:=k) kb)
 have hld:=ay.aB (ay.mk (f:=f) (c:=c) (k:=k) (heap_alloc_new w (.cells (bG A1 A2 A3 A4 c1 c2 c3 c4 f k c) 128)))
 go_enter func215,ntmps215
 go_wp2_with (first
  |(go_at_call 270;refine(ji A1 A2 A3 A4 c1 c2 c3 c4 f k c _ c.lim true _ (bI (by simp)) (by omega) H1).mono ?_;rintro e w1 ⟨rfl,hx⟩;obtain⟨kb,aQ,aS,aC⟩:=kB hx kb;obtain⟨ko,dM,dN,bK⟩:=kB hx ko;have hall:=bT (w:=w) hx;have hsz:w.heap.size<=w1.heap.size:=hall.size;have hl1:=ay.whole (ay.mk (f:=f) (c:=c) (k:=k) kb);have hm1:=ay.aB (ay.mk (f:=f) (c:=c) (k:=k) kb);clear hx)
  |(go_at_call 271;refine(iW A1 A2 A3 A4 c1 c2 c3 c4 f k c _ c.fr c.till true _ (bI (by simp)) (by omega) H2).mono ?_;rintro e w2 ⟨rfl,hx⟩;obtain⟨kb,aQ,aS,aC⟩:=kB hx kb;obtain⟨ko,dM,dN,bK⟩:=kB hx ko;have hall:=bT (w:=w) hx;have hsz:w.heap.size<=w2.heap.size:=hall.size;have hl2:=ay.whole (ay.mk (f:=f) (c:=c) (k:=k) kb);have hm2:=ay.aB (ay.mk (f:=f) (c:=c) (k:=k) kb);clear hx)
  |(go_at_call 109;refine(rD _ _ _ _ _ _ _).mono ?_;rintro e w4 ⟨rfl,hx⟩;obtain⟨kb,aQ,aS,aC⟩:=kB hx kb;obtain⟨ko,dM,dN,bK⟩:=kB hx ko;have hall:=bT (w:=w) hx;have hsz:w.heap.size<=w4.heap.size:=hall.size;have hl4:=ay.whole (ay.mk (f:=f) (c:=c) (k:=k) kb);have K6:=ay.aB (ay.mk (f:=f) (c:=c) (k:=k) kb);clear hx))
 go_ret
 exact⟨rfl,by go_grown⟩
theorem Jh (k:Int)(c:Pl.aZ)(w:World)(hS:f.st.length<=100000)(hL:f.li.length<=100000):
  Calls prog 215 #[.agg (bG A1 A2 A3 A4 c1 c2 c3 c4 f k c)] w fun e w'=>e=.returned (.bool (Pl.rX f.st.length f.li.length c))∧Below w.heap.size w w':=by
 unfold Pl.rX
 cases h0:Pl.zh c with
 |false=>simpa using KY A1 A2 A3 A4 c1 c2 c3 c4 f k c w hS hL h0
 |true=>
 cases h1:Pl.bE f.li.length c.lim with
 |false=>simpa using KZ A1 A2 A3 A4 c1 c2 c3 c4 f k c w hS hL h0 h1
 |true=>
 cases h2:(Pl.bE f.st.length c.fr&&Pl.bE f.st.length c.till)with
 |false=>simpa using K3 A1 A2 A3 A4 c1 c2 c3 c4 f k c w hS hL h0 h1 h2
 |true=>
 cases h3:(c.fr !=c.till)with
 |false=>simpa using K4 A1 A2 A3 A4 c1 c2 c3 c4 f k c w hS hL h0 h1 h2 h3
 |true=>
 simpa using K5 A1 A2 A3 A4 c1 c2 c3 c4 f k c w hS hL h0 h1 h2 h3 _ rfl
theorem Oh (k:Int)(c:Pl.aZ)(w:World)(_hS:f.st.length<=100000)(_hL:f.li.length<=100000)(h0:Pl.zi c=false):
  Calls prog 217 #[.agg (bG A1 A2 A3 A4 c1 c2 c3 c4 f k c)] w fun e w'=>e=.returned (.bool false)∧Below w.heap.size w w':=by
 have hEq: ∀W,(Op.equalIn 10000 48 (.agg (iq k c)) (.agg (ka k c.lim c.bL c.fr c.till 0 0))).run prog W=.ok false W:=fun W=>(r_ k c W).trans (by rw[h0])
 clear h0
 obtain⟨W1,hst,kb,ko,hall⟩:=dG w (bG A1 A2 A3 A4 c1 c2 c3 c4 f k c) 128 48 48 bP (ka k c.lim c.bL c.fr c.till 0 0) aj rfl (by simp[Value.oneCell'])
 obtain⟨aQ,aS⟩:=ah kb
 obtain⟨dM,dN⟩:=ah ko
 have aC:=(lO kb)
 have bK:=(lO ko)
 have hla:=ay.call (ay.mk (f:=f) (c:=c) (k:=k) kb)
 have hlb:=ak ko underlying48 rfl aj
 have hlc:=ay.whole (ay.mk (f:=f) (c:=c) (k:=k) kb)
 go_enter func217,ntmps217
 go_wp2
 go_ret
 exact⟨rfl,by go_grown⟩
theorem Oi (k:Int)(c:Pl.aZ)(w:World)(_hS:f.st.length<=100000)(hL:f.li.length<=100000)(h0:Pl.zi c=true)(h1:(Pl.bE f.li.length c.lim&&Pl.bE f.li.length c.bL)=false):
  Calls prog 217 #[.agg (bG A1 A2 A3 A4 c1 c2 c3 c4 f k c)] w fun e w'=>e=.returned (.bool false)∧Below w.heap.size w w':=by
 have hEq: ∀W,(Op.equalIn 10000 48 (.agg (iq k c)) (.agg (ka k c.lim c.bL c.fr c.till 0 0))).run prog W=.ok true W:=fun W=>(r_ k c W).trans (by rw[h0])
 have H1:=Lib.hid h1
 clear h0 h1
 obtain⟨W1,hst,kb,ko,hall⟩:=dG w (bG A1 A2 A3 A4 c1 c2 c3 c4 f k c) 128 48 48 bP (ka k c.lim c.bL c.fr c.till 0 0) aj rfl (by simp[Value.oneCell'])
 obtain⟨aQ,aS⟩:=ah kb
 obtain⟨dM,dN⟩:=ah ko
 have aC:=(lO kb)
 have bK:=(lO ko)
 have hla:=ay.call (ay.mk (f:=f) (c:=c) (k:=k) kb)
 have hlb:=ak ko underlying48 rfl aj
 have hlc:=ay.whole (ay.mk (f:=f) (c:=c) (k:=k) kb)
 go_enter func217,ntmps217
 go_wp2_with (first
  |(go_at_call 270;refine(lW A1 A2 A3 A4 c1 c2 c3 c4 f k c _ c.lim c.bL false _ (bI (by simp)) (by omega) H1).mono ?_;rintro e w1 ⟨rfl,hx⟩;obtain⟨kb,aQ,aS,aC⟩:=kB hx kb;obtain⟨ko,dM,dN,bK⟩:=kB hx ko;have hall:=bT (w:=w) hx;have hsz:w.heap.size<=w1.heap.size:=hall.size;have hl1:=ay.whole (ay.mk (f:=f) (c:=c) (k:=k) kb);clear hx))
 go_ret
 exact⟨rfl,by go_grown⟩
theorem Oj (k:Int)(c:Pl.aZ)(w:World)(_hS:f.st.length<=100000)(hL:f.li.length<=100000)(h0:Pl.zi c=true)(h1:(Pl.bE f.li.length c.lim&&Pl.bE f.li.length c.bL)=true)(h2:decide (c.lim<c.bL)=false):
  Calls prog 217 #[.agg (bG A1 A2 A3 A4 c1 c2 c3 c4 f k c)] w fun e w'=>e=.returned (.bool false)∧Below w.heap.size w w':=by
 have hEq: ∀W,(Op.equalIn 10000 48 (.agg (iq k c)) (.agg (ka k c.lim c.bL c.fr c.till 0 0))).run prog W=.ok true W:=fun W=>(r_ k c W).trans (by rw[h0])
 have H1:=Lib.hid h1
 clear h0 h1
 obtain⟨W1,hst,kb,ko,hall⟩:=dG w (bG A1 A2 A3 A4 c1 c2 c3 c4 f k c) 128 48 48 bP (ka k c.lim c.bL c.fr c.till 0 0) aj rfl (by simp[Value.oneCell'])
 obtain⟨aQ,aS⟩:=ah kb
 obtain⟨dM,dN⟩:=ah ko
 have aC:=(lO kb)
 have bK:=(lO ko)
 have hla:=ay.call (ay.mk (f:=f) (c:=c) (k:=k) kb)
 have hlb:=ak ko underlying48 rfl aj
 have hlc:=ay.whole (ay.mk (f:=f) (c:=c) (k:=k) kb)
 go_enter func217,ntmps217
 go_wp2_with (first
  |(go_at_call 270;refine(lW A1 A2 A3 A4 c1 c2 c3 c4 f k c _ c.lim c.bL true _ (bI (by simp)) (by omega) H1).mono ?_;rintro e w1 ⟨rfl,hx⟩;obtain⟨kb,aQ,aS,aC⟩:=kB hx kb;obtain⟨ko,dM,dN,bK⟩:=kB hx ko;have hall:=bT (w:=w) hx;have hsz:w.heap.size<=w1.heap.size:=hall.size;have hl1:=ay.whole (ay.mk (f:=f) (c:=c) (k:=k) kb);clear hx))
 go_ret
 exact⟨rfl,by go_grown⟩
theorem Ol (k:Int)(c:Pl.aZ)(w:World)(hS:f.st.length<=100000)(hL:f.li.length<=100000)(h0:Pl.zi c=true)(h1:(Pl.bE f.li.length c.lim&&Pl.bE f.li.length c.bL)=true)(h2:decide (c.lim<c.bL)=true)(h3:(Pl.bE f.st.length c.fr&&Pl.bE f.st.length c.till)=false):
  Calls prog 217 #[.agg (bG A1 A2 A3 A4 c1 c2 c3 c4 f k c)] w fun e w'=>e=.returned (.bool false)∧Below w.heap.size w w':=by
 have hEq: ∀W,(Op.equalIn 10000 48 (.agg (iq k c)) (.agg (ka k c.lim c.bL c.fr c.till 0 0))).run prog W=.ok true W:=fun W=>(r_ k c W).trans (by rw[h0])
 have H1:=Lib.hid h1
 have H3:=Lib.hid h3
 clear h0 h1 h3
 obtain⟨W1,hst,kb,ko,hall⟩:=dG w (bG A1 A2 A3 A4 c1 c2 c3 c4 f k c) 128 48 48 bP (ka k c.lim c.bL c.fr c.till 0 0) aj rfl (by simp[Value.oneCell'])
 obtain⟨aQ,aS⟩:=ah kb
 obtain⟨dM,dN⟩:=ah ko
 have aC:=(lO kb)
 have bK:=(lO ko)
 have hla:=ay.call (ay.mk (f:=f) (c:=c) (k:=k) kb)
 have hlb:=ak ko underlying48 rfl aj
 have hlc:=ay.whole (ay.mk (f:=f) (c:=c) (k:=k) kb)
 go_enter func217,ntmps217
 go_wp2_with (first
  |(go_at_call 270;refine(lW A1 A2 A3 A4 c1 c2 c3 c4 f k c _ c.lim c.bL true _ (bI (by simp)) (by omega) H1).mono ?_;rintro e w1 ⟨rfl,hx⟩;obtain⟨kb,aQ,aS,aC⟩:=kB hx kb;obtain⟨ko,dM,dN,bK⟩:=kB hx ko;have hall:=bT (w:=w) hx;have hsz:w.heap.size<=w1.heap.size:=hall.size;have hl1:=ay.whole (ay.mk (f:=f) (c:=c) (k:=k) kb);clear hx)
  |(go_at_call 271;refine(iW A1 A2 A3 A4 c1 c2 c3 c4 f k c _ c.fr c.till false _ (bI (by simp)) (by omega) H3).mono ?_;rintro e w3 ⟨rfl,hx⟩;obtain⟨kb,aQ,aS,aC⟩:=kB hx kb;obtain⟨ko,dM,dN,bK⟩:=kB hx ko;have hall:=bT (w:=w) hx;have hsz:w.heap.size<=w3.heap.size:=hall.size;have hl3:=ay.whole (ay.mk (f:=f) (c:=c) (k:=k) kb);clear hx))
 go_ret
 exact⟨rfl,by go_grown⟩
theorem Om (k:Int)(c:Pl.aZ)(w:World)(hS:f.st.length<=100000)(hL:f.li.length<=100000)(h0:Pl.zi c=true)(h1:(Pl.bE f.li.length c.lim&&Pl.bE f.li.length c.bL)=true)(h2:decide (c.lim<c.bL)=true)(h3:(Pl.bE f.st.length c.fr&&Pl.bE f.st.length c.till)=true)(b:Bool)(h4:decide (c.fr<c.till)=b):
  Calls prog 217 #[.agg (bG A1 A2 A3 A4 c1 c2 c3 c4 f k c)] w fun e w'=>e=.returned (.bool b)∧Below w.heap.size w w':=by
 have hEq: ∀W,(Op.equalIn 10000 48 (.agg (iq k c)) (.agg (ka k c.lim c.bL c.fr c.till 0 0))).run prog W=.ok true W:=fun W=>(r_ k c W).trans (by rw[h0])
 have H1:=Lib.hid h1
 have H3:=Lib.hid h3
 clear h0 h1 h3
 obtain⟨W1,hst,kb,ko,hall⟩:=dG w (bG A1 A2 A3 A4 c1 c2 c3 c4 f k c) 128 48 48 bP (ka k c.lim c.bL c.fr c.till 0 0) aj rfl (by simp[Value.oneCell'])
 obtain⟨aQ,aS⟩:=ah kb
 obtain⟨dM,dN⟩:=ah ko
 have aC:=(lO kb)
 have bK:=(lO ko)
 have hla:=ay.call (ay.mk (f:=f) (c:=c) (k:=k) kb)
 have hlb:=ak ko underlying48 rfl aj
 have hlc:=ay.whole (ay.mk (f:=f) (c:=c) (k:=k) kb)
 go_enter func217,ntmps217
 go_wp2_with (first
  |(go_at_call 270;refine(lW A1 A2 A3 A4 c1 c2 c3 c4 f k c _ c.lim c.bL true _ (bI (by simp)) (by omega) H1).mono ?_;rintro e w1 ⟨rfl,hx⟩;obtain⟨kb,aQ,aS,aC⟩:=kB hx kb;obtain⟨ko,dM,dN,bK⟩:=kB hx ko;have hall:=bT (w:=w) hx;have hsz:w.heap.size<=w1.heap.size:=hall.size;have hl1:=ay.whole (ay.mk (f:=f) (c:=c) (k:=k) kb);clear hx)
  |(go_at_call 271;refine(iW A1 A2 A3 A4 c1 c2 c3 c4 f k c _ c.fr c.till true _ (bI (by simp)) (by omega) H3).mono ?_;rintro e w3 ⟨rfl,hx⟩;obtain⟨kb,aQ,aS,aC⟩:=kB hx kb;obtain⟨ko,dM,dN,bK⟩:=kB hx ko;have hall:=bT (w:=w) hx;have hsz:w.heap.size<=w3.heap.size:=hall.size;have hl3:=ay.whole (ay.mk (f:=f) (c:=c) (k:=k) kb);clear hx))
 go_ret
 exact⟨rfl,by go_grown⟩
theorem Oo (k:Int)(c:Pl.aZ)(w:World)(hS:f.st.length<=100000)(hL:f.li.length<=100000):
  Calls prog 217 #[.agg (bG A1 A2 A3 A4 c1 c2 c3 c4 f k c)] w fun e w'=>e=.returned (.bool (Pl.wU f.st.length f.li.length c))∧Below w.heap.size w w':=by
 unfold Pl.wU
 cases h0:Pl.zi c with
 |false=>simpa using Oh A1 A2 A3 A4 c1 c2 c3 c4 f k c w hS hL h0
 |true=>
 cases h1:(Pl.bE f.li.length c.lim&&Pl.bE f.li.length c.bL)with
 |false=>simpa using Oi A1 A2 A3 A4 c1 c2 c3 c4 f k c w hS hL h0 h1
 |true=>
 cases h2:decide (c.lim<c.bL)with
 |false=>simpa using Oj A1 A2 A3 A4 c1 c2 c3 c4 f k c w hS hL h0 h1 h2
 |true=>
 cases h3:(Pl.bE f.st.length c.fr&&Pl.bE f.st.length c.till)with
 |false=>simpa using Ol A1 A2 A3 A4 c1 c2 c3 c4 f k c w hS hL h0 h1 h2 h3
 |true=>
 simpa using Om A1 A2 A3 A4 c1 c2 c3 c4 f k c w hS hL h0 h1 h2 h3 _ rfl
theorem Oq (k:Int)(c:Pl.aZ)(w:World)(_hS:f.st.length<=100000)(_hL:f.li.length<=100000)(h0:Pl.zk c=false):
  Calls prog 219 #[.agg (bG A1 A2 A3 A4 c1 c2 c3 c4 f k c)] w fun e w'=>e=.returned (.bool false)∧Below w.heap.size w w':=by
 have hEq: ∀W,(Op.equalIn 10000 48 (.agg (iq k c)) (.agg (ka k c.lim 0 c.fr c.till c.size c.er))).run prog W=.ok false W:=fun W=>(sj k c W).trans (by rw[h0])
 clear h0
 obtain⟨W1,hst,kb,ko,hall⟩:=dG w (bG A1 A2 A3 A4 c1 c2 c3 c4 f k c) 128 48 48 bP (ka k c.lim 0 c.fr c.till c.size c.er) aj rfl (by simp[Value.oneCell'])
 obtain⟨aQ,aS⟩:=ah kb
 obtain⟨dM,dN⟩:=ah ko
 have aC:=(lO kb)
 have bK:=(lO ko)
 have hla:=ay.call (ay.mk (f:=f) (c:=c) (k:=k) kb)
 have hlb:=ak ko underlying48 rfl aj
 have hlc:=ay.whole (ay.mk (f:=f) (c:=c) (k:=k) kb)
 go_enter func219,ntmps219
 go_wp2
 go_ret
 exact⟨rfl,by go_grown⟩
theorem Ot (k:Int)(c:Pl.aZ)(w:World)(_hS:f.st.length<=100000)(hL:f.li.length<=100000)(h0:Pl.zk c=true)(h1:Pl.bE f.li.length c.lim=false):
  Calls prog 219 #[.agg (bG A1 A2 A3 A4 c1 c2 c3 c4 f k c)] w fun e w'=>e=.returned (.bool false)∧Below w.heap.size w w':=by
 have hEq: ∀W,(Op.equalIn 10000 48 (.agg (iq k c)) (.agg (ka k c.lim 0 c.fr c.till c.size c.er))).run prog W=.ok true W:=fun W=>(sj k c W).trans (by rw[h0])
 have H1:=Lib.hid h1
 clear h0 h1
 obtain⟨W1,hst,kb,ko,hall⟩:=dG w (bG A1 A2 A3 A4 c1 c2 c3 c4 f k c) 128 48 48 bP (ka k c.lim 0 c.fr c.till c.size c.er) aj rfl (by simp[Value.oneCell'])
 obtain⟨aQ,aS⟩:=ah kb
 obtain⟨dM,dN⟩:=ah ko
 have aC:=(lO kb)
 have bK:=(lO ko)
 have hla:=ay.call (ay.mk (f:=f) (c:=c) (k:=k) kb)
 have hlb:=ak ko underlying48 rfl aj
 have hlc:=ay.whole (ay.mk (f:=f) (c:=c) (k:=k) kb)
 go_enter func219,ntmps219
 go_wp2_with (first
  |(go_at_call 270;refine(ji A1 A2 A3 A4 c1 c2 c3 c4 f k c _ c.lim false _ (bI (by simp)) (by omega) H1).mono ?_;rintro e w1 ⟨rfl,hx⟩;obtain⟨kb,aQ,aS,aC⟩:=kB hx kb;obtain⟨ko,dM,dN,bK⟩:=kB hx ko;have hall:=bT (w:=w) hx;have hsz:w.heap.size<=w1.heap.size:=hall.size;have hl1:=ay.whole (ay.mk (f:=f) (c:=c) (k:=k) kb);clear hx))
 go_ret
 exact⟨rfl,by go_grown⟩
theorem Ou (k:Int)(c:Pl.aZ)(w:World)(hS:f.st.length<=100000)(hL:f.li.length<=100000)(h0:Pl.zk c=true)(h1:Pl.bE f.li.length c.lim=true)(h2:(Pl.bE f.st.length c.fr&&Pl.bE f.st.length c.till)=false):
  Calls prog 219 #[.agg (bG A1 A2 A3 A4 c1 c2 c3 c4 f k c)] w fun e w'=>e=.returned (.bool false)∧Below w.heap.size w w':=by
 have hEq: ∀W,(Op.equalIn 10000 48 (.agg (iq k c)) (.agg (ka k c.lim 0 c.fr c.till c.size c.er))).run prog W=.ok true W:=fun W=>(sj k c W).trans (by rw[h0])
 have H1:=Lib.hid h1
 have H2:=Lib.hid h2
 clear h0 h1 h2
 obtain⟨W1,hst,kb,ko,hall⟩:=dG w (bG A1 A2 A3 A4 c1 c2 c3 c4 f k c) 128 48 48 bP (ka k c.lim 0 c.fr c.till c.size c.er) aj rfl (by simp[Value.oneCell'])
 obtain⟨aQ,aS⟩:=ah kb
 obtain⟨dM,dN⟩:=ah ko
 have aC:=(lO kb)
 have bK:=(lO ko)
 have hla:=ay.call (ay.mk (f:=f) (c:=c) (k:=k) kb)
 have hlb:=ak ko underlying48 rfl aj
 have hlc:=ay.whole (ay.mk (f:=f) (c:=c) (k:=k) kb)
 go_enter func219,ntmps219
 go_wp2_with (first
  |(go_at_call 270;refine(ji A1 A2 A3 A4 c1 c2 c3 c4 f k c _ c.lim true _ (bI (by simp)) (by omega) H1).mono ?_;rintro e w1 ⟨rfl,hx⟩;obtain⟨kb,aQ,aS,aC⟩:=kB hx kb;obtain⟨ko,dM,dN,bK⟩:=kB hx ko;have hall:=bT (w:=w) hx;have hsz:w.heap.size<=w1.heap.size:=hall.size;have hl1:=ay.whole (ay.mk (f:=f) (c:=c) (k:=k) kb);clear hx)
  |(go_at_call 271;refine(iW A1 A2 A3 A4 c1 c2 c3 c4 f k c _ c.fr c.till false _ (bI (by simp)) (by omega) H2).mono ?_;rintro e w2 ⟨rfl,hx⟩;obtain⟨kb,aQ,aS,aC⟩:=kB hx kb;obtain⟨ko,dM,dN,bK⟩:=kB hx ko;have hall:=bT (w:=w) hx;have hsz:w.heap.size<=w2.heap.size:=hall.size;have hl2:=ay.whole (ay.mk (f:=f) (c:=c) (k:=k) kb);clear hx))
 go_ret
 exact⟨rfl,by go_grown⟩
theorem Ov (k:Int)(c:Pl.aZ)(w:World)(hS:f.st.length<=100000)(hL:f.li.length<=100000)(h0:Pl.zk c=true)(h1:Pl.bE f.li.length c.lim=true)(h2:(Pl.bE f.st.length c.fr&&Pl.bE f.st.length c.till)=true)(h3:(c.fr !=c.till)=false):
  Calls prog 219 #[.agg (bG A1 A2 A3 A4 c1 c2 c3 c4 f k c)] w fun e w'=>e=.returned (.bool false)∧Below w.heap.size w w':=by
 have hEq: ∀W,(Op.equalIn 10000 48 (.agg (iq k c)) (.agg (ka k c.lim 0 c.fr c.till c.size c.er))).run prog W=.ok true W:=fun W=>(sj k c W).trans (by rw[h0])
 have H1:=Lib.hid h1
 have H2:=Lib.hid h2
 clear h0 h1 h2
 obtain⟨W1,hst,kb,ko,hall⟩:=dG w (bG A1 A2 A3 A4 c1 c2 c3 c4 f k c) 128 48 48 bP (ka k c.lim 0 c.fr c.till c.size c.er) aj rfl (by simp[Value.oneCell'])
 obtain⟨aQ,aS⟩:=ah kb
 obtain⟨dM,dN⟩:=ah ko
 have aC:=(lO kb)
 have bK:=(lO ko)
 have hla:=ay.call (ay.mk (f:=f) (c:=c) (k:=k) kb)
 have hlb:=ak ko underlying48 rfl aj
 have hlc:=ay.whole (ay.mk (f:=f) (c:=c) (k:=k) kb)
 go_enter func219,ntmps219
 go_wp2_with (first
  |(go_at_call 270;refine(ji A1 A2 A3 A4 c1 c2 c3 c4 f k c _ c.lim true _ (bI (by simp)) (by omega) H1).mono ?_;rintro e w1 ⟨rfl,hx⟩;obtain⟨kb,aQ,aS,aC⟩:=kB hx kb;obtain⟨ko,dM,dN,bK⟩:=kB hx ko;have hall:=bT (w:=w) hx;have hsz:w.heap.size<=w1.heap.size:=hall.size;have hl1:=ay.whole (ay.mk (f:=f) (c:=c) (k:=k) kb);clear hx)
  |(go_at_call 271;refine(iW A1 A2 A3 A4 c1 c2 c3 c4 f k c _ c.fr c.till true _ (bI (by simp)) (by omega) H2).mono ?_;rintro e w2 ⟨rfl,hx⟩;obtain⟨kb,aQ,aS,aC⟩:=kB hx kb;obtain⟨ko,dM,dN,bK⟩:=kB hx ko;have hall:=bT (w:=w) hx;have hsz:w.heap.size<=w2.heap.size:=hall.size;have hl2:=ay.whole (ay.mk (f:=f) (c:=c) (k:=k) kb);clear hx))
 go_ret
 exact⟨rfl,by go_grown⟩
theorem Ow (k:Int)(c:Pl.aZ)(w:World)(hS:f.st.length<=100000)(hL:f.li.length<=100000)(h0:Pl.zk c=true)(h1:Pl.bE f.li.length c.lim=true)(h2:(Pl.bE f.st.length c.fr&&Pl.bE f.st.length c.till)=true)(h3:(c.fr !=c.till)=true)(b:Bool)(h4:Pl.sizedB c (-100000)=b):
  Calls prog 219 #[.agg (bG A1 A2 A3 A4 c1 c2 c3 c4 f k c)] w fun e w'=>e=.returned (.bool b)∧Below w.heap.size w w':=by
 have hEq: ∀W,(Op.equalIn 10000 48 (.agg (iq k c)) (.agg (ka k c.lim 0 c.fr c.till c.size c.er))).run prog W=.ok true W:=fun W=>(sj k c W).trans (by rw[h0])
 have H1:=Lib.hid h1
 have H2:=Lib.hid h2
 have H4:=Lib.hid h4
 clear h0 h1 h2 h4
 obtain⟨W1,hst,kb,ko,hall⟩:=dG w (bG A1 A2 A3 A4 c1 c2 c3 c4 f k c) 128 48 48 bP (ka k c.lim 0 c.fr c.till c.size c.er) aj rfl (by simp[Value.oneCell'])
 obtain⟨aQ,aS⟩:=ah kb
 obtain⟨dM,dN⟩:=ah ko
 have aC:=(lO kb)
 have bK:=(lO ko)
 have hla:=ay.call (ay.mk (f:=f) (c:=c) (k:=k) kb)
 have hlb:=ak ko underlying48 rfl aj
 have hlc:=ay.whole (ay.mk (f:=f) (c:=c) (k:=k) kb)
 go_enter func219,ntmps219
 go_wp2_with (first
  |(go_at_call 270;refine(ji A1 A2 A3 A4 c1 c2 c3 c4 f k c _ c.lim true _ (bI (by simp)) (by omega) H1).mono ?_;rintro e w1 ⟨rfl,hx⟩;obtain⟨kb,aQ,aS,aC⟩:=kB hx kb;obtain⟨ko,dM,dN,bK⟩:=kB hx ko;have hall:=bT (w:=w) hx;have hsz:w.heap.size<=w1.heap.size:=hall.size;have hl1:=ay.whole (ay.mk (f:=f) (c:=c) (k:=k) kb);clear hx)
  |(go_at_call 271;refine(iW A1 A2 A3 A4 c1 c2 c3 c4 f k c _ c.fr c.till true _ (bI (by simp)) (by omega) H2).mono ?_;rintro e w2 ⟨rfl,hx⟩;obtain⟨kb,aQ,aS,aC⟩:=kB hx kb;obtain⟨ko,dM,dN,bK⟩:=kB hx ko;have hall:=bT (w:=w) hx;have hsz:w.heap.size<=w2.heap.size:=hall.size;have hl2:=ay.whole (ay.mk (f:=f) (c:=c) (k:=k) kb);clear hx)
  |(go_at_call 272;refine(Bb A1 A2 A3 A4 c1 c2 c3 c4 f k c (-100000) b _ H4).mono ?_;rintro e w4 ⟨rfl,hx⟩;obtain⟨kb,aQ,aS,aC⟩:=kB hx kb;obtain⟨ko,dM,dN,bK⟩:=kB hx ko;have hall:=bT (w:=w) hx;have hsz:w.heap.size<=w4.heap.size:=hall.size;have hl4:=ay.whole (ay.mk (f:=f) (c:=c) (k:=k) kb);clear hx))
 go_ret
 exact⟨rfl,by go_grown⟩
theorem OA (k:Int)(c:Pl.aZ)(w:World)(hS:f.st.length<=100000)(hL:f.li.length<=100000):
  Calls prog 219 #[.agg (bG A1 A2 A3 A4 c1 c2 c3 c4 f k c)] w fun e w'=>e=.returned (.bool (Pl.wV f.st.length f.li.length c))∧Below w.heap.size w w':=by
 unfold Pl.wV
 cases h0:Pl.zk c with
 |false=>simpa using Oq A1 A2 A3 A4 c1 c2 c3 c4 f k c w hS hL h0
 |true=>
 cases h1:Pl.bE f.li.length c.lim with
 |false=>simpa using Ot A1 A2 A3 A4 c1 c2 c3 c4 f k c w hS hL h0 h1
 |true=>
 cases h2:(Pl.bE f.st.length c.fr&&Pl.bE f.st.length c.till)with
 |false=>simpa using Ou A1 A2 A3 A4 c1 c2 c3 c4 f k c w hS hL h0 h1 h2
 |true=>
 cases h3:(c.fr !=c.till)with
 |false=>simpa using Ov A1 A2 A3 A4 c1 c2 c3 c4 f k c w hS hL h0 h1 h2 h3
 |true=>
 simpa using Ow A1 A2 A3 A4 c1 c2 c3 c4 f k c w hS hL h0 h1 h2 h3 _ rfl
