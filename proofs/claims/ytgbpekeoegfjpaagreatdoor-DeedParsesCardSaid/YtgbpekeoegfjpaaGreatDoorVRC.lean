/- Proved: parts of the walk. -/
import Derived.Test.YtgbpekeoegfjpaaGreatDoorVUC
set_option maxRecDepth 100000
set_option maxHeartbeats 4000000
namespace Go.Proofs
open Tryz RowKit
variable (A1 A2 A3 A4 : Option Addr) (c1 c2 c3 c4 : Nat) (f : Pl.aL)
attribute [-go_sem] Builtin.append_ run_equalIn_agg
theorem aBh (bx:Nat)(n:ByteArray)(y r:Int)(x:Pl.j6×Option Addr×Nat)(w:World)(hb:w.heap[bx]?=some (.cells #[.string n,.int .i64 y,.int .i64 r,.slice none 0 0] 90 (0,0))):
  Calls prog 161 #[.agg #[.string x.1.name,.int .i64 x.1.year,.int .i64 x.1.rank,slv x.2 x.1.calls.length],.pointer (some ⟨bx,0,none⟩)] w fun e w'=>e=.returned (.bool (decide (x.1.name=n)))∧Below w.heap.size w w':=by
 obtain⟨hc,hf⟩:=ah hb
 have hlt:=(lO hb)
 unfold slv
 go_enter func161,ntmps161
 go_wp2
 go_ret
 exact⟨aD (dF x.1.name n),by go_grown⟩
def aBY (bd:Nat)(l:List (Pl.j6×Option Addr×Nat))(v:Value)(w:World)(r:Except Int (List Pl.j6))(e:Ending)(w':World):Prop:=
 aU bd (Dx bd v l) w w'∧match r with
  | .ok ds=>e=.returned (.int .i64 0)∧ ∃l' v',l'.map (·.1)=ds∧HY bd l' w' v'∧ ∀i,Dx bd v' l' i->Dx bd v l i∨w.heap.size<=i
  | .error E=>e=.returned (.int .i64 E)
structure DSt (w W:World):Prop where
 below:Below w.heap.size w W
 sz:w.heap.size+2<=W.heap.size
 ke:W.heap[w.heap.size+1]?=some (.cells #[.int .i64 0] 29 (0,0))
theorem DSt.grown {w W W':World}{b:Nat}(h:DSt w W)(hg:W.grownBy W' (some b))(hb:w.heap.size+2<=b):DSt w W':=
 ⟨h.below.grown hg h.below.size (fun k e=>by cases e;omega),Nat.le_trans h.sz hg.size,(hg.block _ (by have:=h.sz;omega) (by simp;omega)).trans h.ke⟩
theorem DSt.up {w W W':World}(h:DSt w W)(hb:Below W.heap.size W W'):DSt w W':=
 ⟨h.below.trans (hb.mono h.below.size),Nat.le_trans h.sz hb.size,(hb.block _ (by have:=h.sz;omega)).trans h.ke⟩
theorem DSt.alloc {w W:World}(h:DSt w W)(o:Obj):DSt w (W.alloc o):=h.up ((Below.refl _ W).alloc (Nat.le_refl _) o)
theorem DSt.aAy {w W:World}{bd:Nat}{X:Nat->Prop}(h:DSt w W)(hb:bd<=w.heap.size)(u:Value):aU bd X w (W.setCell ⟨w.heap.size+1,0,none⟩ u):=
 .of_below (h.below.setCell (p:=⟨w.heap.size+1,0,none⟩) (by simp) u) hb
theorem aAi (fc:Array Value)(ws:List ByteArray)(w:World)(A':Option Addr)(c':Nat)(hn:d9 w w.heap.size A' ws)(hl:ws.length<=c'):
  Rd (((w.alloc (.cells fc 28)).alloc (.cells #[.int .i64 0] 29)).alloc (.cells #[.slice A' ws.length c'] 188)) (w.heap.size+1+1) ws∧
   DSt w (((w.alloc (.cells fc 28)).alloc (.cells #[.int .i64 0] 29)).alloc (.cells #[.slice A' ws.length c'] 188)):=by
 have ke:=heap_alloc2_new w (.cells fc 28) (.cells #[.int .i64 0] 29)
 have hb0:Below w.heap.size w ((w.alloc (.cells fc 28)).alloc (.cells #[.int .i64 0] 29)):=((Below.refl _ w).alloc (Nat.le_refl _) _).alloc (by simp) _
 have hz:((w.alloc (.cells fc 28)).alloc (.cells #[.int .i64 0] 29)).heap.size=w.heap.size+1+1:=by simp
 have s0:DSt w ((w.alloc (.cells fc 28)).alloc (.cells #[.int .i64 0] 29)):=⟨hb0,by omega,ke⟩
 have s1:=s0.alloc (.cells #[.slice A' ws.length c'] 188)
 refine⟨⟨A',c',?_,(hn.below s1.below).more (by omega),hl⟩,s1⟩
 have:=heap_alloc_new ((w.alloc (.cells fc 28)).alloc (.cells #[.int .i64 0] 29)) (.cells #[.slice A' ws.length c'] 188)
 rwa[hz]at this
theorem aBy (bd:Nat)(l:List (Pl.j6×Option Addr×Nat))(v:Value)(A:Option Addr)(c:Nat)(w:World)(_hEv:Env w)(hD:HY bd l w v)(_h8:8<=bd)
  (hw:d9 w w.heap.size A ([Pl.CQ])) (_hc:1<=c):
  Calls prog 88 #[.agg (fq A1 A2 A3 A4 c1 c2 c3 c4 f),.pointer (some ⟨bd,0,none⟩),.slice A 1 c] w fun e w'=>aU bd (Dx bd v l) w w'∧e=.returned (.int .i64 4):=by
 have hbd:=hD.lt
 obtain⟨b,off,rfl,hb,q0⟩:=d9.gY hw (k:=0) (by simp)
 simp only[Nat.add_zero,List.getElem_cons_zero]at q0
 unfold Pl.CQ at q0
 have e1:(0:Int)<((0:Nat):Int)+1:=by omega
 have hR:=fun A' c' hn hl=>aAi (fq A1 A2 A3 A4 c1 c2 c3 c4 f) [] w A' c' hn hl
 have hn:=fun W hR=>(fM (w.heap.size+1+1) [] W hR ⟨by simp,by simp⟩:Calls prog 157 #[.pointer (some ⟨w.heap.size+1+1,0,none⟩)] W (iR (fun x=> .string x) (w.heap.size+1+1) W none))
 go_enter_defers func88,ntmps88
 go_wp2_with fail
 all_goals (
  first
   |(obtain⟨hR0,s0⟩:=hR (some ⟨b,off,none⟩) 0 (.inl rfl) (by simp);refine(hn _ hR0).mono ?_)
   |(obtain⟨hR0,s0⟩:=hR (some ⟨b,off+1,none⟩) (c-1) (.inl rfl) (by simp);refine(hn _ hR0).mono ?_)
  rintro e w1 ⟨hg1,rfl⟩
  have s1:=s0.grown hg1 (by omega)
  go_wp2_with fail
  refine leaves_cons (f:=96) (args:= #[.pointer (some ⟨w.heap.size+1,0,none⟩)]) (by simp) (by simp[go_sem]) ?_
  refine(iY _ _ _ _ s1.ke).mono ?_
  rintro e u' w'' ⟨rfl,rfl,rfl⟩
  have JF:=heap_setCell_same _ (w.heap.size+1) 0 _ _ (.int .i64 4) s1.ke
  obtain⟨hce,hfe⟩:=ah JF
  exact⟨.int .i64 4,by simp[results,results88,go_sem,hce],s1.aAy (Nat.le_of_lt hbd) _,rfl⟩)
theorem aBk (bd:Nat)(l:List (Pl.j6×Option Addr×Nat))(v:Value)(A:Option Addr)(c:Nat)(ws:List ByteArray)(w:World)(_hEv:Env w)(hD:HY bd l w v)(_h8:8<=bd)
  (hw:d9 w w.heap.size A (Pl.CQ::ws)) (hc:ws.length+1<=c) (hs:dK ws) (h1:aP ws=none) (hne:ws≠ []):
  Calls prog 88 #[.agg (fq A1 A2 A3 A4 c1 c2 c3 c4 f),.pointer (some ⟨bd,0,none⟩),.slice A (ws.length+1) c] w fun e w'=>aU bd (Dx bd v l) w w'∧e=.returned (.int .i64 4):=by
 have hbd:=hD.lt
 obtain⟨b,off,rfl,hb,q0⟩:=d9.gY hw (k:=0) (by simp)
 simp only[Nat.add_zero,List.getElem_cons_zero]at q0
 unfold Pl.CQ at q0
 have e1:(0:Int)<((ws.length:Nat):Int)+1:=by omega
 obtain⟨hr1,hr2⟩:=rest_of hw hc
 have hR:=fun A' c' hn hl=>aAi (fq A1 A2 A3 A4 c1 c2 c3 c4 f) ws w A' c' hn hl
 have hn:=fun W hR=>(h1▸fM (w.heap.size+1+1) ws W hR hs:Calls prog 157 #[.pointer (some ⟨w.heap.size+1+1,0,none⟩)] W (iR (fun x=> .string x) (w.heap.size+1+1) W none))
 have hc1: ¬c=1:=fun h=>hne (hr1 h)
 clear h1
 go_enter_defers func88,ntmps88
 go_wp2_with fail
 obtain⟨hR0,s0⟩:=hR (some ⟨b,off+1,none⟩) (c-1) (hr2 ‹_›).1 (hr2 ‹_›).2
 refine(hn _ hR0).mono ?_
 rintro e w1 ⟨hg1,rfl⟩
 have s1:=s0.grown hg1 (by omega)
 go_wp2_with fail
 refine leaves_cons (f:=96) (args:= #[.pointer (some ⟨w.heap.size+1,0,none⟩)]) (by simp) (by simp[go_sem]) ?_
 refine(iY _ _ _ _ s1.ke).mono ?_
 rintro e u' w'' ⟨rfl,rfl,rfl⟩
 have JF:=heap_setCell_same _ (w.heap.size+1) 0 _ _ (.int .i64 4) s1.ke
 obtain⟨hce,hfe⟩:=ah JF
 exact⟨.int .i64 4,by simp[results,results88,go_sem,hce],s1.aAy (Nat.le_of_lt hbd) _,rfl⟩
theorem aBl (bd:Nat)(l:List (Pl.j6×Option Addr×Nat))(v:Value)(A:Option Addr)(c:Nat)(ws:List ByteArray)(w:World)(CZ:Env w)(hD:HY bd l w v)(h8:8<=bd)
  (hw:d9 w w.heap.size A (Pl.CQ::ws)) (hc:ws.length+1<=c) (hs:dK ws) (a:ByteArray) (r:List ByteArray) (h1:aP ws=some (a,r)) (h2:bN r=none):
  Calls prog 88 #[.agg (fq A1 A2 A3 A4 c1 c2 c3 c4 f),.pointer (some ⟨bd,0,none⟩),.slice A (ws.length+1) c] w fun e w'=>aU bd (Dx bd v l) w w'∧e=.returned (.int .i64 4):=by
 have hbd:=hD.lt
 obtain⟨b,off,rfl,hb,q0⟩:=d9.gY hw (k:=0) (by simp)
 simp only[Nat.add_zero,List.getElem_cons_zero]at q0
 unfold Pl.CQ at q0
 have e1:(0:Int)<((ws.length:Nat):Int)+1:=by omega
 obtain⟨hr1,hr2⟩:=rest_of hw hc
 have hR:=fun A' c' hn hl=>aAi (fq A1 A2 A3 A4 c1 c2 c3 c4 f) ws w A' c' hn hl
 obtain⟨rfl,ha⟩:=jM h1
 obtain⟨_,_,hs1⟩:=hs.tail
 have hc1: ¬c=1:=by simp at hc;omega
 have hn:=fun W hR=>(h1▸fM (w.heap.size+1+1) (a::r) W hR hs:Calls prog 157 #[.pointer (some ⟨w.heap.size+1+1,0,none⟩)] W (iR (fun x=> .string x) (w.heap.size+1+1) W (some (a,r))))
 have hn2:=fun W hE hR=>(h2▸iL (w.heap.size+1+1) r W hE hR (by omega) hs1:Calls prog 158 #[.pointer (some ⟨w.heap.size+1+1,0,none⟩)] W (iR (fun v=> .int .i64 v) (w.heap.size+1+1) W none))
 clear h1 h2 ha
 go_enter_defers func88,ntmps88
 go_wp2_with fail
 ·obtain⟨hR0,s0⟩:=hR (some ⟨b,off+1,none⟩) (c-1) (hr2 ‹_›).1 (hr2 ‹_›).2
  have hwz:w.heap.size+1+1<(((w.alloc (.cells (fq A1 A2 A3 A4 c1 c2 c3 c4 f) 28)).alloc (.cells #[.int .i64 0] 29)).alloc (.cells #[.slice (some ⟨b,off+1,none⟩) (a::r).length (c-1)] 188)).heap.size:=by simp
  generalize ((w.alloc (.cells (fq A1 A2 A3 A4 c1 c2 c3 c4 f) 28)).alloc (.cells #[.int .i64 0] 29)).alloc (.cells #[.slice (some ⟨b,off+1,none⟩) (a::r).length (c-1)] 188)=Wr at*
  clear hR hr1 hr2
  go_wp2_with (first
   |(go_at_call 157;refine(hn _ hR0).mono ?_;rintro e w1 ⟨hg1,rfl,kP⟩;have s1:=(s0.grown hg1 (by omega)).alloc (.cells #[.string a,.int .i64 0,.int .i64 0,.slice none 0 0] 90);have hsz1:=hg1.size;have kx:=heap_alloc_new w1 (.cells #[.string a,.int .i64 0,.int .i64 0,.slice none 0 0] 90);have kP:=kP.below (w':=w1.alloc (.cells #[.string a,.int .i64 0,.int .i64 0,.slice none 0 0] 90)) (by go_grown);clear hn)
   |(go_at_call 158;refine(hn2 _ (CZ.up s1.below) kP).mono ?_;rintro e w2 ⟨hg2,rfl⟩))
  have s9:=s1.grown hg2 (by omega)
  refine leaves_cons (f:=96) (args:= #[.pointer (some ⟨w.heap.size+1,0,none⟩)]) (by simp) (by simp[go_sem]) ?_
  refine(iY _ _ _ _ s9.ke).mono ?_
  rintro e u' w'' ⟨rfl,rfl,rfl⟩
  have JF:=heap_setCell_same _ (w.heap.size+1) 0 _ _ (.int .i64 4) s9.ke
  obtain⟨hce,hfe⟩:=ah JF
  exact⟨.int .i64 4,by simp[results,results88,go_sem,hce],s9.aAy (Nat.le_of_lt hbd) _,rfl⟩
theorem aBm (bd:Nat)(l:List (Pl.j6×Option Addr×Nat))(v:Value)(A:Option Addr)(c:Nat)(ws:List ByteArray)(w:World)(CZ:Env w)(hD:HY bd l w v)(h8:8<=bd)
  (hw:d9 w w.heap.size A (Pl.CQ::ws)) (hc:ws.length+1<=c) (hs:dK ws) (a:ByteArray) (r r2:List ByteArray) (y:Int) (h1:aP ws=some (a,r)) (h2:bN r=some (y,r2)) (h3:bN r2=none):
  Calls prog 88 #[.agg (fq A1 A2 A3 A4 c1 c2 c3 c4 f),.pointer (some ⟨bd,0,none⟩),.slice A (ws.length+1) c] w fun e w'=>aU bd (Dx bd v l) w w'∧e=.returned (.int .i64 4):=by
 have hbd:=hD.lt
 obtain⟨b,off,rfl,hb,q0⟩:=d9.gY hw (k:=0) (by simp)
 simp only[Nat.add_zero,List.getElem_cons_zero]at q0
 unfold Pl.CQ at q0
 have e1:(0:Int)<((ws.length:Nat):Int)+1:=by omega
 obtain⟨hr1,hr2⟩:=rest_of hw hc
 have hR:=fun A' c' hn hl=>aAi (fq A1 A2 A3 A4 c1 c2 c3 c4 f) ws w A' c' hn hl
 obtain⟨rfl,ha⟩:=jM h1
 obtain⟨_,_,hs1⟩:=hs.tail
 have hc1: ¬c=1:=by simp at hc;omega
 have hn:=fun W hR=>(h1▸fM (w.heap.size+1+1) (a::r) W hR hs:Calls prog 157 #[.pointer (some ⟨w.heap.size+1+1,0,none⟩)] W (iR (fun x=> .string x) (w.heap.size+1+1) W (some (a,r))))
 obtain⟨y',rfl,hy⟩:=wZ h2
 obtain⟨_,_,hs2⟩:=hs1.tail
 have hn2:=fun W hE hR=>(h2▸iL (w.heap.size+1+1) (y'::r2) W hE hR (by omega) hs1:Calls prog 158 #[.pointer (some ⟨w.heap.size+1+1,0,none⟩)] W (iR (fun v=> .int .i64 v) (w.heap.size+1+1) W (some (y,r2))))
 have Tg:=fun W hE hR=>(h3▸iL (w.heap.size+1+1) r2 W hE hR (by omega) hs2:Calls prog 158 #[.pointer (some ⟨w.heap.size+1+1,0,none⟩)] W (iR (fun v=> .int .i64 v) (w.heap.size+1+1) W none))
 clear h1 h2 hy h3 ha
 go_enter_defers func88,ntmps88
 go_wp2_with fail
 ·obtain⟨hR0,s0⟩:=hR (some ⟨b,off+1,none⟩) (c-1) (hr2 ‹_›).1 (hr2 ‹_›).2
  have hwz:w.heap.size+1+1<(((w.alloc (.cells (fq A1 A2 A3 A4 c1 c2 c3 c4 f) 28)).alloc (.cells #[.int .i64 0] 29)).alloc (.cells #[.slice (some ⟨b,off+1,none⟩) (a::y'::r2).length (c-1)] 188)).heap.size:=by simp
  generalize ((w.alloc (.cells (fq A1 A2 A3 A4 c1 c2 c3 c4 f) 28)).alloc (.cells #[.int .i64 0] 29)).alloc (.cells #[.slice (some ⟨b,off+1,none⟩) (a::y'::r2).length (c-1)] 188)=Wr at*
  clear hR hr1 hr2
  go_wp2_with (first
   |(go_at_call 157;refine(hn _ hR0).mono ?_;rintro e w1 ⟨hg1,rfl,kP⟩;have s1:=(s0.grown hg1 (by omega)).alloc (.cells #[.string a,.int .i64 0,.int .i64 0,.slice none 0 0] 90);have hsz1:=hg1.size;have kx:=heap_alloc_new w1 (.cells #[.string a,.int .i64 0,.int .i64 0,.slice none 0 0] 90);have kP:=kP.below (w':=w1.alloc (.cells #[.string a,.int .i64 0,.int .i64 0,.slice none 0 0] 90)) (by go_grown);clear hn)
   |(go_at_call 158;refine(hn2 _ (CZ.up s1.below) kP).mono ?_;rintro e w2 ⟨hg2,rfl,hR2⟩;have kx:=(hg2.block w1.heap.size (by simp) (by simp;omega)).trans kx;obtain⟨hcx,hfx⟩:=ah kx;have s2:=(s1.grown hg2 (by omega)).grown (cB w2 w1.heap.size 1 (.int .i64 y)) (by omega);have FJ:=hR2.kept (cB w2 w1.heap.size 1 (.int .i64 y)) (by omega);have kx2:=heap_setCell_same w2 w1.heap.size 1 _ _ (.int .i64 y) kx;clear hn2)
   |(go_at_call 158;refine(Tg _ (CZ.up s2.below) FJ).mono ?_;rintro e w3 ⟨hg3,rfl⟩))
  have s9:=s2.grown hg3 (by omega)
  refine leaves_cons (f:=96) (args:= #[.pointer (some ⟨w.heap.size+1,0,none⟩)]) (by simp) (by simp[go_sem]) ?_
  refine(iY _ _ _ _ s9.ke).mono ?_
  rintro e u' w'' ⟨rfl,rfl,rfl⟩
  have JF:=heap_setCell_same _ (w.heap.size+1) 0 _ _ (.int .i64 4) s9.ke
  obtain⟨hce,hfe⟩:=ah JF
  exact⟨.int .i64 4,by simp[results,results88,go_sem,hce],s9.aAy (Nat.le_of_lt hbd) _,rfl⟩
theorem aBz (bd:Nat)(l:List (Pl.j6×Option Addr×Nat))(v:Value)(A:Option Addr)(c:Nat)(ws:List ByteArray)(w:World)(CZ:Env w)(hD:HY bd l w v)(h8:8<=bd)
  (hw:d9 w w.heap.size A (Pl.CQ::ws)) (hc:ws.length+1<=c) (hs:dK ws) (a x:ByteArray) (r r2 r3:List ByteArray) (y z:Int) (h1:aP ws=some (a,r)) (h2:bN r=some (y,r2)) (h3:bN r2=some (z,x::r3)):
  Calls prog 88 #[.agg (fq A1 A2 A3 A4 c1 c2 c3 c4 f),.pointer (some ⟨bd,0,none⟩),.slice A (ws.length+1) c] w fun e w'=>aU bd (Dx bd v l) w w'∧e=.returned (.int .i64 4):=by
 have hbd:=hD.lt
 obtain⟨b,off,rfl,hb,q0⟩:=d9.gY hw (k:=0) (by simp)
 simp only[Nat.add_zero,List.getElem_cons_zero]at q0
 unfold Pl.CQ at q0
 have e1:(0:Int)<((ws.length:Nat):Int)+1:=by omega
 obtain⟨hr1,hr2⟩:=rest_of hw hc
 have hR:=fun A' c' hn hl=>aAi (fq A1 A2 A3 A4 c1 c2 c3 c4 f) ws w A' c' hn hl
 obtain⟨rfl,ha⟩:=jM h1
 obtain⟨_,_,hs1⟩:=hs.tail
 have hc1: ¬c=1:=by simp at hc;omega
 have hn:=fun W hR=>(h1▸fM (w.heap.size+1+1) (a::r) W hR hs:Calls prog 157 #[.pointer (some ⟨w.heap.size+1+1,0,none⟩)] W (iR (fun x=> .string x) (w.heap.size+1+1) W (some (a,r))))
 obtain⟨y',rfl,hy⟩:=wZ h2
 obtain⟨_,_,hs2⟩:=hs1.tail
 have hn2:=fun W hE hR=>(h2▸iL (w.heap.size+1+1) (y'::r2) W hE hR (by omega) hs1:Calls prog 158 #[.pointer (some ⟨w.heap.size+1+1,0,none⟩)] W (iR (fun v=> .int .i64 v) (w.heap.size+1+1) W (some (y,r2))))
 have Tg:=fun W hE hR=>(h3▸iL (w.heap.size+1+1) r2 W hE hR (by omega) hs2:Calls prog 158 #[.pointer (some ⟨w.heap.size+1+1,0,none⟩)] W (iR (fun v=> .int .i64 v) (w.heap.size+1+1) W (some (z,x::r3))))
 clear h1 h2 hy h3 ha
 go_enter_defers func88,ntmps88
 go_wp2_with fail
 ·obtain⟨hR0,s0⟩:=hR (some ⟨b,off+1,none⟩) (c-1) (hr2 ‹_›).1 (hr2 ‹_›).2
  have hwz:w.heap.size+1+1<(((w.alloc (.cells (fq A1 A2 A3 A4 c1 c2 c3 c4 f) 28)).alloc (.cells #[.int .i64 0] 29)).alloc (.cells #[.slice (some ⟨b,off+1,none⟩) (a::y'::r2).length (c-1)] 188)).heap.size:=by simp
  generalize ((w.alloc (.cells (fq A1 A2 A3 A4 c1 c2 c3 c4 f) 28)).alloc (.cells #[.int .i64 0] 29)).alloc (.cells #[.slice (some ⟨b,off+1,none⟩) (a::y'::r2).length (c-1)] 188)=Wr at*
  clear hR hr1 hr2
  go_wp2_with (first
   |(go_at_call 157;refine(hn _ hR0).mono ?_;rintro e w1 ⟨hg1,rfl,kP⟩;have s1:=(s0.grown hg1 (by omega)).alloc (.cells #[.string a,.int .i64 0,.int .i64 0,.slice none 0 0] 90);have hsz1:=hg1.size;have kx:=heap_alloc_new w1 (.cells #[.string a,.int .i64 0,.int .i64 0,.slice none 0 0] 90);have kP:=kP.below (w':=w1.alloc (.cells #[.string a,.int .i64 0,.int .i64 0,.slice none 0 0] 90)) (by go_grown);clear hn)
   |(go_at_call 158;refine(hn2 _ (CZ.up s1.below) kP).mono ?_;rintro e w2 ⟨hg2,rfl,hR2⟩;have kx:=(hg2.block w1.heap.size (by simp) (by simp;omega)).trans kx;obtain⟨hcx,hfx⟩:=ah kx;have s2:=(s1.grown hg2 (by omega)).grown (cB w2 w1.heap.size 1 (.int .i64 y)) (by omega);have FJ:=hR2.kept (cB w2 w1.heap.size 1 (.int .i64 y)) (by omega);have kx2:=heap_setCell_same w2 w1.heap.size 1 _ _ (.int .i64 y) kx;clear hn2)
   |(go_at_call 158;refine(Tg _ (CZ.up s2.below) FJ).mono ?_;rintro e w3 ⟨hg3,rfl,Vk⟩;have hsz2:=hg2.size;have kx3:=(hg3.block w1.heap.size (by simp at hsz2 ⊢;omega) (by simp;omega)).trans kx2;obtain⟨aAW,aAX⟩:=ah kx3;have s3:=(s2.grown hg3 (by omega)).grown (cB w3 w1.heap.size 2 (.int .i64 z)) (by omega);have hR5:=Vk.kept (cB w3 w1.heap.size 2 (.int .i64 z)) (by omega);have kx4:=heap_setCell_same w3 w1.heap.size 2 _ _ (.int .i64 z) kx3;clear Tg)
   |(go_at_call 159;refine(t_ (w.heap.size+1+1) x r3 _ hR5).mono ?_;rintro e w4 ⟨rfl,hx4⟩))
  have s9:=s3.up hx4
  refine leaves_cons (f:=96) (args:= #[.pointer (some ⟨w.heap.size+1,0,none⟩)]) (by simp) (by simp[go_sem]) ?_
  refine(iY _ _ _ _ s9.ke).mono ?_
  rintro e u' w'' ⟨rfl,rfl,rfl⟩
  have JF:=heap_setCell_same _ (w.heap.size+1) 0 _ _ (.int .i64 4) s9.ke
  obtain⟨hce,hfe⟩:=ah JF
  exact⟨.int .i64 4,by simp[results,results88,go_sem,hce],s9.aAy (Nat.le_of_lt hbd) _,rfl⟩
theorem aBA (bd:Nat)(l:List (Pl.j6×Option Addr×Nat))(v:Value)(A:Option Addr)(c:Nat)(ws:List ByteArray)(w:World)(CZ:Env w)(hD:HY bd l w v)(h8:8<=bd)
  (hw:d9 w w.heap.size A (Pl.CQ::ws)) (hc:ws.length+1<=c) (hs:dK ws) (a:ByteArray) (r r2:List ByteArray) (y z:Int) (h1:aP ws=some (a,r)) (h2:bN r=some (y,r2)) (h3:bN r2=some (z,[])) (h4:decide ((l.length:Int)<60)=false):
  Calls prog 88 #[.agg (fq A1 A2 A3 A4 c1 c2 c3 c4 f),.pointer (some ⟨bd,0,none⟩),.slice A (ws.length+1) c] w fun e w'=>aU bd (Dx bd v l) w w'∧e=.returned (.int .i64 2):=by
 have hbd:=hD.lt
 obtain⟨b,off,rfl,hb,q0⟩:=d9.gY hw (k:=0) (by simp)
 simp only[Nat.add_zero,List.getElem_cons_zero]at q0
 unfold Pl.CQ at q0
 have e1:(0:Int)<((ws.length:Nat):Int)+1:=by omega
 obtain⟨hr1,hr2⟩:=rest_of hw hc
 have hR:=fun A' c' hn hl=>aAi (fq A1 A2 A3 A4 c1 c2 c3 c4 f) ws w A' c' hn hl
 obtain⟨Al,cl,hv,hsg,hcl,_⟩:=dQ Q5 hD.row
 subst hv
 obtain⟨rfl,ha⟩:=jM h1
 obtain⟨_,_,hs1⟩:=hs.tail
 have hc1: ¬c=1:=by simp at hc;omega
 have hn:=fun W hR=>(h1▸fM (w.heap.size+1+1) (a::r) W hR hs:Calls prog 157 #[.pointer (some ⟨w.heap.size+1+1,0,none⟩)] W (iR (fun x=> .string x) (w.heap.size+1+1) W (some (a,r))))
 obtain⟨y',rfl,hy⟩:=wZ h2
 obtain⟨_,_,hs2⟩:=hs1.tail
 have hn2:=fun W hE hR=>(h2▸iL (w.heap.size+1+1) (y'::r2) W hE hR (by omega) hs1:Calls prog 158 #[.pointer (some ⟨w.heap.size+1+1,0,none⟩)] W (iR (fun v=> .int .i64 v) (w.heap.size+1+1) W (some (y,r2))))
 have Tg:=fun W hE hR=>(h3▸iL (w.heap.size+1+1) r2 W hE hR (by omega) hs2:Calls prog 158 #[.pointer (some ⟨w.heap.size+1+1,0,none⟩)] W (iR (fun v=> .int .i64 v) (w.heap.size+1+1) W (some (z,[]))))
 clear h1 h2 hy h3 ha
 go_enter_defers func88,ntmps88
 go_wp2_with fail
 ·obtain⟨hR0,s0⟩:=hR (some ⟨b,off+1,none⟩) (c-1) (hr2 ‹_›).1 (hr2 ‹_›).2
  have hwz:w.heap.size+1+1<(((w.alloc (.cells (fq A1 A2 A3 A4 c1 c2 c3 c4 f) 28)).alloc (.cells #[.int .i64 0] 29)).alloc (.cells #[.slice (some ⟨b,off+1,none⟩) (a::y'::r2).length (c-1)] 188)).heap.size:=by simp
  generalize ((w.alloc (.cells (fq A1 A2 A3 A4 c1 c2 c3 c4 f) 28)).alloc (.cells #[.int .i64 0] 29)).alloc (.cells #[.slice (some ⟨b,off+1,none⟩) (a::y'::r2).length (c-1)] 188)=Wr at*
  clear hR hr1 hr2
  go_wp2_with (first
   |(go_at_call 157;refine(hn _ hR0).mono ?_;rintro e w1 ⟨hg1,rfl,kP⟩;have s1:=(s0.grown hg1 (by omega)).alloc (.cells #[.string a,.int .i64 0,.int .i64 0,.slice none 0 0] 90);have hsz1:=hg1.size;have kx:=heap_alloc_new w1 (.cells #[.string a,.int .i64 0,.int .i64 0,.slice none 0 0] 90);have kP:=kP.below (w':=w1.alloc (.cells #[.string a,.int .i64 0,.int .i64 0,.slice none 0 0] 90)) (by go_grown);clear hn)
   |(go_at_call 158;refine(hn2 _ (CZ.up s1.below) kP).mono ?_;rintro e w2 ⟨hg2,rfl,hR2⟩;have kx:=(hg2.block w1.heap.size (by simp) (by simp;omega)).trans kx;obtain⟨hcx,hfx⟩:=ah kx;have s2:=(s1.grown hg2 (by omega)).grown (cB w2 w1.heap.size 1 (.int .i64 y)) (by omega);have FJ:=hR2.kept (cB w2 w1.heap.size 1 (.int .i64 y)) (by omega);have kx2:=heap_setCell_same w2 w1.heap.size 1 _ _ (.int .i64 y) kx;clear hn2)
   |(go_at_call 158;refine(Tg _ (CZ.up s2.below) FJ).mono ?_;rintro e w3 ⟨hg3,rfl,Vk⟩;have hsz2:=hg2.size;have kx3:=(hg3.block w1.heap.size (by simp at hsz2 ⊢;omega) (by simp;omega)).trans kx2;obtain⟨aAW,aAX⟩:=ah kx3;have s3:=(s2.grown hg3 (by omega)).grown (cB w3 w1.heap.size 2 (.int .i64 z)) (by omega);have hR5:=Vk.kept (cB w3 w1.heap.size 2 (.int .i64 z)) (by omega);have kx4:=heap_setCell_same w3 w1.heap.size 2 _ _ (.int .i64 z) kx3;clear Tg)
   |(go_at_call 159;refine(ql (w.heap.size+1+1) _ hR5).mono ?_;rintro e w4 ⟨rfl,rfl⟩;have hD3:=hD.below s3.below;obtain⟨hcb,ru⟩:=ah hD3.box;obtain⟨aBL,aBM⟩:=ah kx4;clear hcx hfx aAW aAX)
   |(go_at_call 97;refine(bD _ _).mono ?_;rintro e w9 ⟨rfl,Lu⟩))
  have s9:=s3.up Lu
  refine leaves_cons (f:=96) (args:= #[.pointer (some ⟨w.heap.size+1,0,none⟩)]) (by simp) (by simp[go_sem]) ?_
  refine(iY _ _ _ _ s9.ke).mono ?_
  rintro e u' w'' ⟨rfl,rfl,rfl⟩
  have JF:=heap_setCell_same _ (w.heap.size+1) 0 _ _ (.int .i64 2) s9.ke
  obtain⟨hce,hfe⟩:=ah JF
  exact⟨.int .i64 2,by simp[results,results88,go_sem,hce],s9.aAy (Nat.le_of_lt hbd) _,rfl⟩
theorem aBB (bd:Nat)(l:List (Pl.j6×Option Addr×Nat))(v:Value)(A:Option Addr)(c:Nat)(ws:List ByteArray)(w:World)(CZ:Env w)(hD:HY bd l w v)(h8:8<=bd)
  (hw:d9 w w.heap.size A (Pl.CQ::ws)) (hc:ws.length+1<=c) (hs:dK ws) (a:ByteArray) (r r2:List ByteArray) (y z:Int) (h1:aP ws=some (a,r)) (h2:bN r=some (y,r2)) (h3:bN r2=some (z,[])) (h4:decide ((l.length:Int)<60)=true) (h5:(Pl.bQ y 1 3000&&Pl.bQ z 0 1000)=false):
  Calls prog 88 #[.agg (fq A1 A2 A3 A4 c1 c2 c3 c4 f),.pointer (some ⟨bd,0,none⟩),.slice A (ws.length+1) c] w fun e w'=>aU bd (Dx bd v l) w w'∧e=.returned (.int .i64 1):=by
 have hbd:=hD.lt
 obtain⟨b,off,rfl,hb,q0⟩:=d9.gY hw (k:=0) (by simp)
 simp only[Nat.add_zero,List.getElem_cons_zero]at q0
 unfold Pl.CQ at q0
 have e1:(0:Int)<((ws.length:Nat):Int)+1:=by omega
 obtain⟨hr1,hr2⟩:=rest_of hw hc
 have hR:=fun A' c' hn hl=>aAi (fq A1 A2 A3 A4 c1 c2 c3 c4 f) ws w A' c' hn hl
 obtain⟨Al,cl,hv,hsg,hcl,_⟩:=dQ Q5 hD.row
 subst hv
 obtain⟨rfl,ha⟩:=jM h1
 obtain⟨_,_,hs1⟩:=hs.tail
 have hc1: ¬c=1:=by simp at hc;omega
 have hn:=fun W hR=>(h1▸fM (w.heap.size+1+1) (a::r) W hR hs:Calls prog 157 #[.pointer (some ⟨w.heap.size+1+1,0,none⟩)] W (iR (fun x=> .string x) (w.heap.size+1+1) W (some (a,r))))
 obtain⟨y',rfl,hy⟩:=wZ h2
 obtain⟨_,_,hs2⟩:=hs1.tail
 have hn2:=fun W hE hR=>(h2▸iL (w.heap.size+1+1) (y'::r2) W hE hR (by omega) hs1:Calls prog 158 #[.pointer (some ⟨w.heap.size+1+1,0,none⟩)] W (iR (fun v=> .int .i64 v) (w.heap.size+1+1) W (some (y,r2))))
 have Tg:=fun W hE hR=>(h3▸iL (w.heap.size+1+1) r2 W hE hR (by omega) hs2:Calls prog 158 #[.pointer (some ⟨w.heap.size+1+1,0,none⟩)] W (iR (fun v=> .int .i64 v) (w.heap.size+1+1) W (some (z,[]))))
 clear h1 h2 hy h3 ha
 have H5:=Lib.hid h5
 clear h5
 have tk1:True:=trivial
 go_enter_defers func88,ntmps88
 go_wp2_with fail
 ·obtain⟨hR0,s0⟩:=hR (some ⟨b,off+1,none⟩) (c-1) (hr2 ‹_›).1 (hr2 ‹_›).2
  have hwz:w.heap.size+1+1<(((w.alloc (.cells (fq A1 A2 A3 A4 c1 c2 c3 c4 f) 28)).alloc (.cells #[.int .i64 0] 29)).alloc (.cells #[.slice (some ⟨b,off+1,none⟩) (a::y'::r2).length (c-1)] 188)).heap.size:=by simp
  generalize ((w.alloc (.cells (fq A1 A2 A3 A4 c1 c2 c3 c4 f) 28)).alloc (.cells #[.int .i64 0] 29)).alloc (.cells #[.slice (some ⟨b,off+1,none⟩) (a::y'::r2).length (c-1)] 188)=Wr at*
  clear hR hr1 hr2
  go_wp2_with (first
   |(go_at_call 157;refine(hn _ hR0).mono ?_;rintro e w1 ⟨hg1,rfl,kP⟩;have s1:=(s0.grown hg1 (by omega)).alloc (.cells #[.string a,.int .i64 0,.int .i64 0,.slice none 0 0] 90);have hsz1:=hg1.size;have kx:=heap_alloc_new w1 (.cells #[.string a,.int .i64 0,.int .i64 0,.slice none 0 0] 90);have kP:=kP.below (w':=w1.alloc (.cells #[.string a,.int .i64 0,.int .i64 0,.slice none 0 0] 90)) (by go_grown);clear hn)
   |(go_at_call 158;refine(hn2 _ (CZ.up s1.below) kP).mono ?_;rintro e w2 ⟨hg2,rfl,hR2⟩;have kx:=(hg2.block w1.heap.size (by simp) (by simp;omega)).trans kx;obtain⟨hcx,hfx⟩:=ah kx;have s2:=(s1.grown hg2 (by omega)).grown (cB w2 w1.heap.size 1 (.int .i64 y)) (by omega);have FJ:=hR2.kept (cB w2 w1.heap.size 1 (.int .i64 y)) (by omega);have kx2:=heap_setCell_same w2 w1.heap.size 1 _ _ (.int .i64 y) kx;clear hn2)
   |(go_at_call 158;refine(Tg _ (CZ.up s2.below) FJ).mono ?_;rintro e w3 ⟨hg3,rfl,Vk⟩;have hsz2:=hg2.size;have kx3:=(hg3.block w1.heap.size (by simp at hsz2 ⊢;omega) (by simp;omega)).trans kx2;obtain⟨aAW,aAX⟩:=ah kx3;have s3:=(s2.grown hg3 (by omega)).grown (cB w3 w1.heap.size 2 (.int .i64 z)) (by omega);have hR5:=Vk.kept (cB w3 w1.heap.size 2 (.int .i64 z)) (by omega);have kx4:=heap_setCell_same w3 w1.heap.size 2 _ _ (.int .i64 z) kx3;clear Tg)
   |(go_at_call 159;refine(ql (w.heap.size+1+1) _ hR5).mono ?_;rintro e w4 ⟨rfl,rfl⟩;have hD3:=hD.below s3.below;obtain⟨hcb,ru⟩:=ah hD3.box;obtain⟨aBL,aBM⟩:=ah kx4;clear hcx hfx aAW aAX)
   |(go_at_call 160;refine(aAo _ _ _).mono ?_;rintro e w' ⟨rfl,rfl⟩;rw[H5.out])
   |(go_at_call 97;clear tk1;refine(uYs _ _).mono ?_;rintro e w' ⟨rfl,rfl⟩)
   |(go_at_call 97;refine(bD _ _).mono ?_;rintro e w9 ⟨rfl,Lu⟩))
  have s9:=s3.up Lu
  refine leaves_cons (f:=96) (args:= #[.pointer (some ⟨w.heap.size+1,0,none⟩)]) (by simp) (by simp[go_sem]) ?_
  refine(iY _ _ _ _ s9.ke).mono ?_
  rintro e u' w'' ⟨rfl,rfl,rfl⟩
  have JF:=heap_setCell_same _ (w.heap.size+1) 0 _ _ (.int .i64 1) s9.ke
  obtain⟨hce,hfe⟩:=ah JF
  exact⟨.int .i64 1,by simp[results,results88,go_sem,hce],s9.aAy (Nat.le_of_lt hbd) _,rfl⟩
theorem aA7 (bd:Nat)(l:List (Pl.j6×Option Addr×Nat))(v:Value)(A:Option Addr)(c:Nat)(ws:List ByteArray)(w:World)(CZ:Env w)(hD:HY bd l w v)(h8:8<=bd)
  (hw:d9 w w.heap.size A (Pl.CQ::ws)) (hc:ws.length+1<=c) (hs:dK ws) (a:ByteArray) (r r2:List ByteArray) (y z:Int) (h1:aP ws=some (a,r)) (h2:bN r=some (y,r2)) (h3:bN r2=some (z,[])) (h4:decide ((l.length:Int)<60)=true) (h5:(Pl.bQ y 1 3000&&Pl.bQ z 0 1000)=true) (h6:(l.any fun x=>decide (x.1.name=a))=true):
  Calls prog 88 #[.agg (fq A1 A2 A3 A4 c1 c2 c3 c4 f),.pointer (some ⟨bd,0,none⟩),.slice A (ws.length+1) c] w fun e w'=>aU bd (Dx bd v l) w w'∧e=.returned (.int .i64 6):=by
 have hbd:=hD.lt
 obtain⟨b,off,rfl,hb,q0⟩:=d9.gY hw (k:=0) (by simp)
 simp only[Nat.add_zero,List.getElem_cons_zero]at q0
 unfold Pl.CQ at q0
 have e1:(0:Int)<((ws.length:Nat):Int)+1:=by omega
 obtain⟨hr1,hr2⟩:=rest_of hw hc
 have hR:=fun A' c' hn hl=>aAi (fq A1 A2 A3 A4 c1 c2 c3 c4 f) ws w A' c' hn hl
 obtain⟨Al,cl,hv,hsg,hcl,_⟩:=dQ Q5 hD.row
 subst hv
 obtain⟨rfl,ha⟩:=jM h1
 obtain⟨_,_,hs1⟩:=hs.tail
 have hc1: ¬c=1:=by simp at hc;omega
 have hn:=fun W hR=>(h1▸fM (w.heap.size+1+1) (a::r) W hR hs:Calls prog 157 #[.pointer (some ⟨w.heap.size+1+1,0,none⟩)] W (iR (fun x=> .string x) (w.heap.size+1+1) W (some (a,r))))
 obtain⟨y',rfl,hy⟩:=wZ h2
 obtain⟨_,_,hs2⟩:=hs1.tail
 have hn2:=fun W hE hR=>(h2▸iL (w.heap.size+1+1) (y'::r2) W hE hR (by omega) hs1:Calls prog 158 #[.pointer (some ⟨w.heap.size+1+1,0,none⟩)] W (iR (fun v=> .int .i64 v) (w.heap.size+1+1) W (some (y,r2))))
 have Tg:=fun W hE hR=>(h3▸iL (w.heap.size+1+1) r2 W hE hR (by omega) hs2:Calls prog 158 #[.pointer (some ⟨w.heap.size+1+1,0,none⟩)] W (iR (fun v=> .int .i64 v) (w.heap.size+1+1) W (some (z,[]))))
 clear h1 h2 hy h3 ha
 have H5:=Lib.hid h5
 clear h5
 have tk1:True:=trivial
 have tk2:True:=trivial
 have H6:=Lib.hid h6
 clear h6
 go_enter_defers func88,ntmps88
 go_wp2_with fail
 ·obtain⟨hR0,s0⟩:=hR (some ⟨b,off+1,none⟩) (c-1) (hr2 ‹_›).1 (hr2 ‹_›).2
  have hwz:w.heap.size+1+1<(((w.alloc (.cells (fq A1 A2 A3 A4 c1 c2 c3 c4 f) 28)).alloc (.cells #[.int .i64 0] 29)).alloc (.cells #[.slice (some ⟨b,off+1,none⟩) (a::y'::r2).length (c-1)] 188)).heap.size:=by simp
  generalize ((w.alloc (.cells (fq A1 A2 A3 A4 c1 c2 c3 c4 f) 28)).alloc (.cells #[.int .i64 0] 29)).alloc (.cells #[.slice (some ⟨b,off+1,none⟩) (a::y'::r2).length (c-1)] 188)=Wr at*
  clear hR hr1 hr2
  go_wp2_with (first
   |(go_at_call 157;refine(hn _ hR0).mono ?_;rintro e w1 ⟨hg1,rfl,kP⟩;have s1:=(s0.grown hg1 (by omega)).alloc (.cells #[.string a,.int .i64 0,.int .i64 0,.slice none 0 0] 90);have hsz1:=hg1.size;have kx:=heap_alloc_new w1 (.cells #[.string a,.int .i64 0,.int .i64 0,.slice none 0 0] 90);have kP:=kP.below (w':=w1.alloc (.cells #[.string a,.int .i64 0,.int .i64 0,.slice none 0 0] 90)) (by go_grown);clear hn)
   |(go_at_call 158;refine(hn2 _ (CZ.up s1.below) kP).mono ?_;rintro e w2 ⟨hg2,rfl,hR2⟩;have kx:=(hg2.block w1.heap.size (by simp) (by simp;omega)).trans kx;obtain⟨hcx,hfx⟩:=ah kx;have s2:=(s1.grown hg2 (by omega)).grown (cB w2 w1.heap.size 1 (.int .i64 y)) (by omega);have FJ:=hR2.kept (cB w2 w1.heap.size 1 (.int .i64 y)) (by omega);have kx2:=heap_setCell_same w2 w1.heap.size 1 _ _ (.int .i64 y) kx;clear hn2)
   |(go_at_call 158;refine(Tg _ (CZ.up s2.below) FJ).mono ?_;rintro e w3 ⟨hg3,rfl,Vk⟩;have hsz2:=hg2.size;have kx3:=(hg3.block w1.heap.size (by simp at hsz2 ⊢;omega) (by simp;omega)).trans kx2;obtain⟨aAW,aAX⟩:=ah kx3;have s3:=(s2.grown hg3 (by omega)).grown (cB w3 w1.heap.size 2 (.int .i64 z)) (by omega);have hR5:=Vk.kept (cB w3 w1.heap.size 2 (.int .i64 z)) (by omega);have kx4:=heap_setCell_same w3 w1.heap.size 2 _ _ (.int .i64 z) kx3;clear Tg)
   |(go_at_call 159;refine(ql (w.heap.size+1+1) _ hR5).mono ?_;rintro e w4 ⟨rfl,rfl⟩;have hD3:=hD.below s3.below;obtain⟨hcb,ru⟩:=ah hD3.box;obtain⟨aBL,aBM⟩:=ah kx4;clear hcx hfx aAW aAX)
   |(go_at_call 160;refine(aAo _ _ _).mono ?_;rintro e w' ⟨rfl,rfl⟩;rw[H5.out])
   |(go_at_call 124;refine(aA6 Al cl l 161 #[.pointer (some ⟨w1.heap.size,0,none⟩)] (fun x=>decide (x.1.name=a)) _ (hsg.up s3.below) (by simp at h4;omega) (enters_of (P:=prog) func161 (by kernel_rfl) rfl) (fun x _ W hW=>aBh w1.heap.size a y z x W (kE hW kx4))).mono ?_;rintro e w5 ⟨rfl,hx5⟩;rw[H6.out];have s5:=s3.up hx5;have hD5:=hD3.below hx5;obtain⟨aB8,aB9⟩:=ah hD5.box;have kx5:=kE hx5 kx4;obtain⟨aCa,aCb⟩:=ah kx5)
   |(go_at_call 97;(first|clear tk1|clear tk2);refine(uYs _ _).mono ?_;rintro e w' ⟨rfl,rfl⟩)
   |(go_at_call 97;refine(bD _ _).mono ?_;rintro e w9 ⟨rfl,Lu⟩))
  have s9:=s5.up Lu
  refine leaves_cons (f:=96) (args:= #[.pointer (some ⟨w.heap.size+1,0,none⟩)]) (by simp) (by simp[go_sem]) ?_
  refine(iY _ _ _ _ s9.ke).mono ?_
  rintro e u' w'' ⟨rfl,rfl,rfl⟩
  have JF:=heap_setCell_same _ (w.heap.size+1) 0 _ _ (.int .i64 6) s9.ke
  obtain⟨hce,hfe⟩:=ah JF
  exact⟨.int .i64 6,by simp[results,results88,go_sem,hce],s9.aAy (Nat.le_of_lt hbd) _,rfl⟩
theorem aBN (bd:Nat)(l:List (Pl.j6×Option Addr×Nat))(v:Value)(A:Option Addr)(c:Nat)(ws:List ByteArray)(w:World)(CZ:Env w)(hD:HY bd l w v)(h8:8<=bd)
  (hw:d9 w w.heap.size A (Pl.CQ::ws)) (hc:ws.length+1<=c) (hs:dK ws) (a:ByteArray) (r r2:List ByteArray) (y z:Int) (h1:aP ws=some (a,r)) (h2:bN r=some (y,r2)) (h3:bN r2=some (z,[])) (h4:decide ((l.length:Int)<60)=true) (h5:(Pl.bQ y 1 3000&&Pl.bQ z 0 1000)=true) (h6:(l.any fun x=>decide (x.1.name=a))=false):
  Calls prog 88 #[.agg (fq A1 A2 A3 A4 c1 c2 c3 c4 f),.pointer (some ⟨bd,0,none⟩),.slice A (ws.length+1) c] w fun e w'=>aBY bd l v w (.ok (l.map (·.1)++[⟨a,y,z,[]⟩])) e w':=by
 have hbd:=hD.lt
 obtain⟨b,off,rfl,hb,q0⟩:=d9.gY hw (k:=0) (by simp)
 simp only[Nat.add_zero,List.getElem_cons_zero]at q0
 unfold Pl.CQ at q0
 have e1:(0:Int)<((ws.length:Nat):Int)+1:=by omega
 obtain⟨hr1,hr2⟩:=rest_of hw hc
 have hR:=fun A' c' hn hl=>aAi (fq A1 A2 A3 A4 c1 c2 c3 c4 f) ws w A' c' hn hl
 obtain⟨Al,cl,hv,hsg,hcl,_⟩:=dQ Q5 hD.row
 subst hv
 obtain⟨rfl,ha⟩:=jM h1
 obtain⟨_,_,hs1⟩:=hs.tail
 have hc1: ¬c=1:=by simp at hc;omega
 have hn:=fun W hR=>(h1▸fM (w.heap.size+1+1) (a::r) W hR hs:Calls prog 157 #[.pointer (some ⟨w.heap.size+1+1,0,none⟩)] W (iR (fun x=> .string x) (w.heap.size+1+1) W (some (a,r))))
 obtain⟨y',rfl,hy⟩:=wZ h2
 obtain⟨_,_,hs2⟩:=hs1.tail
 have hn2:=fun W hE hR=>(h2▸iL (w.heap.size+1+1) (y'::r2) W hE hR (by omega) hs1:Calls prog 158 #[.pointer (some ⟨w.heap.size+1+1,0,none⟩)] W (iR (fun v=> .int .i64 v) (w.heap.size+1+1) W (some (y,r2))))
 have Tg:=fun W hE hR=>(h3▸iL (w.heap.size+1+1) r2 W hE hR (by omega) hs2:Calls prog 158 #[.pointer (some ⟨w.heap.size+1+1,0,none⟩)] W (iR (fun v=> .int .i64 v) (w.heap.size+1+1) W (some (z,[]))))
 clear h1 h2 hy h3 ha
 have H5:=Lib.hid h5
 clear h5
 have H6:=Lib.hid h6
 clear h6
 go_enter_defers func88,ntmps88
 go_wp2_with fail
 ·obtain⟨hR0,s0⟩:=hR (some ⟨b,off+1,none⟩) (c-1) (hr2 ‹_›).1 (hr2 ‹_›).2
  have hwz:w.heap.size+1+1<(((w.alloc (.cells (fq A1 A2 A3 A4 c1 c2 c3 c4 f) 28)).alloc (.cells #[.int .i64 0] 29)).alloc (.cells #[.slice (some ⟨b,off+1,none⟩) (a::y'::r2).length (c-1)] 188)).heap.size:=by simp
  generalize ((w.alloc (.cells (fq A1 A2 A3 A4 c1 c2 c3 c4 f) 28)).alloc (.cells #[.int .i64 0] 29)).alloc (.cells #[.slice (some ⟨b,off+1,none⟩) (a::y'::r2).length (c-1)] 188)=Wr at*
  clear hR hr1 hr2
  go_wp2_with (first
   |(go_at_call 157;refine(hn _ hR0).mono ?_;rintro e w1 ⟨hg1,rfl,kP⟩;have s1:=(s0.grown hg1 (by omega)).alloc (.cells #[.string a,.int .i64 0,.int .i64 0,.slice none 0 0] 90);have hsz1:=hg1.size;have kx:=heap_alloc_new w1 (.cells #[.string a,.int .i64 0,.int .i64 0,.slice none 0 0] 90);have kP:=kP.below (w':=w1.alloc (.cells #[.string a,.int .i64 0,.int .i64 0,.slice none 0 0] 90)) (by go_grown);clear hn)
   |(go_at_call 158;refine(hn2 _ (CZ.up s1.below) kP).mono ?_;rintro e w2 ⟨hg2,rfl,hR2⟩;have kx:=(hg2.block w1.heap.size (by simp) (by simp;omega)).trans kx;obtain⟨hcx,hfx⟩:=ah kx;have s2:=(s1.grown hg2 (by omega)).grown (cB w2 w1.heap.size 1 (.int .i64 y)) (by omega);have FJ:=hR2.kept (cB w2 w1.heap.size 1 (.int .i64 y)) (by omega);have kx2:=heap_setCell_same w2 w1.heap.size 1 _ _ (.int .i64 y) kx;clear hn2)
   |(go_at_call 158;refine(Tg _ (CZ.up s2.below) FJ).mono ?_;rintro e w3 ⟨hg3,rfl,Vk⟩;have hsz2:=hg2.size;have kx3:=(hg3.block w1.heap.size (by simp at hsz2 ⊢;omega) (by simp;omega)).trans kx2;obtain⟨aAW,aAX⟩:=ah kx3;have s3:=(s2.grown hg3 (by omega)).grown (cB w3 w1.heap.size 2 (.int .i64 z)) (by omega);have hR5:=Vk.kept (cB w3 w1.heap.size 2 (.int .i64 z)) (by omega);have kx4:=heap_setCell_same w3 w1.heap.size 2 _ _ (.int .i64 z) kx3;clear Tg)
   |(go_at_call 159;refine(ql (w.heap.size+1+1) _ hR5).mono ?_;rintro e w4 ⟨rfl,rfl⟩;have hD3:=hD.below s3.below;obtain⟨hcb,ru⟩:=ah hD3.box;obtain⟨aBL,aBM⟩:=ah kx4;clear hcx hfx aAW aAX)
   |(go_at_call 160;refine(aAo _ _ _).mono ?_;rintro e w' ⟨rfl,rfl⟩;rw[H5.out])
   |(go_at_call 124;refine(aA6 Al cl l 161 #[.pointer (some ⟨w1.heap.size,0,none⟩)] (fun x=>decide (x.1.name=a)) _ (hsg.up s3.below) (by simp at h4;omega) (enters_of (P:=prog) func161 (by kernel_rfl) rfl) (fun x _ W hW=>aBh w1.heap.size a y z x W (kE hW kx4))).mono ?_;rintro e w5 ⟨rfl,hx5⟩;rw[H6.out];have s5:=s3.up hx5;have hD5:=hD3.below hx5;obtain⟨aB8,aB9⟩:=ah hD5.box;have kx5:=kE hx5 kx4;obtain⟨aCa,aCb⟩:=ah kx5)
   |(go_at_call 97;refine(uYs _ _).mono ?_;rintro e w' ⟨rfl,rfl⟩))
  have kx5:w5.heap[w1.heap.size]?=some (.cells #[.string a,.int .i64 y,.int .i64 z,.slice none 0 0] 90 (0,0)):=kx5
  have hnx: ∀i,Dx bd (.slice Al l.length cl) l i->i<w.heap.size:=fun i hi=>(hD.dx hi).2
  have SX:aU bd (Dx bd (.slice Al l.length cl) l) w w5.drew:=(aU.of_below s5.below (Nat.le_of_lt hbd)).trans (.of_below ((Below.refl _ _).drew) (by have:=s5.below.size;omega))
  have hs5:=s5.below.size
  have aCK:=s5.sz
  have WZ:=s5.ke
  clear hcb ru aBL aBM aB8 aB9 aCa aCb hD3 s3 s2 s1 s0 kx kx2 kx3 kx4 kP hR2 FJ Vk hR5 hg1 hg2 hg3 hR0 hx5
  obtain⟨g',cap',w6,hrun,hbx,hD6,hb6,aBZ,aCc⟩:=aBw (hD5.below ((Below.refl _ w5).drew)) a y z (by simp at h4;omega)
  obtain⟨hcb,ru⟩:=ah hD5.box
  obtain⟨hcx,hfx⟩:=ah kx5
  obtain⟨hcz,hfz⟩:=ah hbx
  have hltW:=hD5.lt
  have D6:=Lib.hid hD6;have N6:=Lib.hid aCc
  have Yv:(w6.setCell ⟨bd,0,none⟩ (.slice (some ⟨g',0,none⟩) (l.length+1) cap')).heap[w.heap.size+1]?=some (.cells #[.int .i64 0] 29 (0,0)):=(hb6.k _ (by show w.heap.size+1<w5.heap.size;omega) (fun e=>by have:=hnx _ e;omega)).trans WZ
  obtain⟨hce,hfe⟩:=ah Yv
  have oK:=SX.trans hb6
  clear hD6 hD5 hD aCc WZ s5 SX hb6
  have hrun:(Builtin.append_ #[38,38] 38 #[.slice Al l.length cl,.slice (some ⟨w5.heap.size,0,none⟩) 1 1]).run prog (w5.alloc (.cells #[.string a,.int .i64 y,.int .i64 z,.slice none 0 0] 90)).drew=.ok (.slice (some ⟨g',0,none⟩) (l.length+1) cap') w6:=hrun
  have q0:=hcb 0
  have q1:=hcx 0
  have q2:=hcx 1
  have q3:=hcx 2
  have q4:=hcx 3
  have q5:(w5.alloc (.cells #[.string a,.int .i64 y,.int .i64 z,.slice none 0 0] 90)).cell? ⟨bd,0,none⟩=some (.slice Al l.length cl):=(World.cell?_of_block (Below.heap_alloc _ _ _ hltW)).trans q0
  refine wp_region_noPanic ?_
  go_region_with (fail)
  all_goals refine NoPanic.normal ?_
  all_goals go_wp2_with fail
  all_goals (
   refine leaves_cons (f:=96) (args:= #[.pointer (some ⟨w.heap.size+1,0,none⟩)]) (by simp) (by simp[go_sem]) ?_
   refine(oV _ _).mono ?_
   rintro e u' w'' ⟨rfl,rfl,rfl⟩
   have ke7:=heap_setCell_same _ (w.heap.size+1) 0 _ _ (.int .i64 0) Yv
   obtain⟨aCn,aCL⟩:=ah ke7
   simp[Leaves,settle,results,results88,go_sem,aCn]
   have aCo:w.heap.size<=w5.drew.heap.size:=hs5
   refine⟨⟨oK.b.setCell (p:=⟨w.heap.size+1,0,none⟩) (by simp;omega) _,fun i hi hx=>(Below.heap_setCell _ _ _ _ (by simp;omega)).trans (oK.k i hi hx)⟩,rfl,_,_,?_,D6.out.kept (cB _ _ _ _) (fun e=> ?_),fun i hi=> ?_⟩
   ·simp
   ·rcases N6.out _ e with h|h
    ·have:=hnx _ h;omega
    ·have:w5.heap.size<=w.heap.size+1:=h
     omega
   ·rcases N6.out i hi with h|h
    ·exact .inl h
    ·exact .inr (Nat.le_trans aCo h))
