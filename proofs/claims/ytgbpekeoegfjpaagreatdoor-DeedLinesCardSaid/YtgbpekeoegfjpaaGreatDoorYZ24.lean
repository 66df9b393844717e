/- Proved: parts of the walk. -/
import Derived.Test.YtgbpekeoegfjpaaGreatDoorYZ23
set_option maxRecDepth 100000
set_option maxHeartbeats 4000000
namespace Go.Proofs
open Tryz RowKit Shelf
variable (A1 A2 A3 A4 : Option Addr) (c1 c2 c3 c4 : Nat) (f : Pl.aL)
attribute [local go_sem] Oper.semAt_some
attribute [-go_sem] storeVar
theorem JJ :(prog.info? 38).map (·.size)=some 1:=by kernel_rfl
theorem Rw (w:World)(g:Nat)(t ty:TypeId)(old v:Value)(hg:w.heap[g]?=some (.cells #[old] t (0,0)))(hi:(prog.info? ty).map (·.size)=some 1)(h1:v.oneCell'=true):
  ∃w',(storeVar ty ⟨g,0,none⟩ v).run prog w=.ok () w'∧w'.heap[g]?=some (.cells #[v] t (0,0))∧w.grownBy w' (some g):=
 ⟨_,run_storeVar_one w g t ty old v hg hi h1,setRow_heap w g #[old] #[v] t (0,0) hg,zR w g #[v]⟩
structure DI (A1 A2 A3 A4:Option Addr)(c1 c2 c3 c4:Nat)(f:Pl.aL)(w:World)(N:Nat)(src:ByteArray)(W:World):Prop where
 below:Below w.heap.size w W
 lt:w.heap.size+3<=N
 sz:N+4<=W.heap.size
 kf:W.heap[w.heap.size]?=some (.cells (fq A1 A2 A3 A4 c1 c2 c3 c4 f) 28 (0,0))
 r1:W.heap[w.heap.size+1]?=some (.cells #[.slice none 0 0] 38 (0,0))
 r2:W.heap[w.heap.size+2]?=some (.cells (i2 0 0) 31 (0,0))
 kd:W.heap[N]?=some (.cells #[.slice none 0 0] 38 (0,0))
 ks:W.heap[N+1]?=some (.cells #[.string src] 9 (0,0))
theorem DI.grow {A1 A2 A3 A4:Option Addr}{c1 c2 c3 c4:Nat}{f:Pl.aL}{w:World}{N:Nat}{src:ByteArray}{W W':World}(h:DI A1 A2 A3 A4 c1 c2 c3 c4 f w N src W)(hb:Below W.heap.size W W'):DI A1 A2 A3 A4 c1 c2 c3 c4 f w N src W':=by
 obtain⟨h1,h2,h3,h4,h5,h6,h7,h8⟩:=h
 exact⟨h1.trans (hb.mono h1.size),h2,Nat.le_trans h3 hb.size,(hb.block _ (by omega)).trans h4,(hb.block _ (by omega)).trans h5,(hb.block _ (by omega)).trans h6,(hb.block _ (by omega)).trans h7,(hb.block _ (by omega)).trans h8⟩
theorem DI.put {A1 A2 A3 A4:Option Addr}{c1 c2 c3 c4:Nat}{f:Pl.aL}{w:World}{N:Nat}{src:ByteArray}{W:World}{o:Obj}(h:DI A1 A2 A3 A4 c1 c2 c3 c4 f w N src W):DI A1 A2 A3 A4 c1 c2 c3 c4 f w N src (W.putObj (N+3) o):=by
 obtain⟨h1,h2,h3,h4,h5,h6,h7,h8⟩:=h
 have hg:=grownBy_putObj' W (N+3) o
 exact⟨h1.grown hg h1.size (fun k e=>by cases e;omega),h2,by have:=hg.size;omega,(World.putObj_heap_other (by omega)).trans h4,(World.putObj_heap_other (by omega)).trans h5,(World.putObj_heap_other (by omega)).trans h6,(World.putObj_heap_other (by omega)).trans h7,(World.putObj_heap_other (by omega)).trans h8⟩
structure DS where
 on:Bool
 pend:Option LX
structure DJ (A1 A2 A3 A4:Option Addr)(c1 c2 c3 c4:Nat)(f:Pl.aL)(w:World)(N:Nat)(src:ByteArray)(s:DS)(W:World):Prop where
 di:DI A1 A2 A3 A4 c1 c2 c3 c4 f w N src W
 off:s.on=false->W.heap.size=N+4
 row:s.on=true->W.heap[N+4]?=some (.cells ((Pl.splitV 10 src).map Value.string).toArray 9 (0,0))
 pend: ∀x,s.pend=some x->d9 W W.heap.size (some ⟨x.2.1,0,none⟩) x.2.2.2∧x.2.2.2.length<=x.2.2.1∧dK x.2.2.2∧x.2.2.2≠ []∧x.2.2.2.head?≠some Pl.CQ
theorem DJ.put {A1 A2 A3 A4:Option Addr}{c1 c2 c3 c4:Nat}{f:Pl.aL}{w:World}{N:Nat}{src:ByteArray}{s:DS}{W:World}{r:Loop}(r':Loop)(h:DJ A1 A2 A3 A4 c1 c2 c3 c4 f w N src s W)(hl:W.heap[N+3]?=some (.loop r)):DJ A1 A2 A3 A4 c1 c2 c3 c4 f w N src s (W.putObj (N+3) (.loop r')):=by
 obtain⟨h1,h2,h3,h4⟩:=h
 have hs:(W.putObj (N+3) (.loop r')).heap.size=W.heap.size:=by simp[World.putObj]
 refine⟨h1.put,fun e=>hs.trans (h2 e),fun e=>(World.putObj_heap_other (by omega)).trans (h3 e),fun x hx=> ?_⟩
 obtain⟨q1,q2⟩:=h4 x hx
 rw[hs]
 have hlt:=(lO hl)
 refine⟨q1.keep fun p hp=> ?_,q2⟩
 by_cases e:p.block=N+3
 ·have e1:(W.putObj (N+3) (.loop r')).heap[p.block]?=some (.loop r'):=by rw[e];exact World.putObj_heap_same hlt
  have e2:W.heap[p.block]?=some (.loop r):=by rw[e];exact hl
  simp[World.cell?,e1,e2]
 ·exact World.cell?_of_block (World.putObj_heap_other (by omega))
structure XD (w:World)(N:Nat)(x:LX)(W:World):Prop where
 below:Below w.heap.size w W
 lt:w.heap.size+3<=N
 r1:W.heap[w.heap.size+1]?=some (.cells #[.slice none 0 0] 38 (0,0))
 r2:W.heap[w.heap.size+2]?=some (.cells (i2 4 (x.1:Int)) 31 (0,0))
theorem XD.put {w:World}{N:Nat}{x:LX}{W:World}{o':Obj}(h:XD w N x W):XD w N x (W.putObj (N+3) o'):=by
 have hl:=h.lt
 exact⟨h.below.grown (grownBy_putObj' W (N+3) o') h.below.size (fun k e=>by cases e;omega),hl,(World.putObj_heap_other (by omega)).trans h.r1,(World.putObj_heap_other (by omega)).trans h.r2⟩
def YA (A1 A2 A3 A4:Option Addr)(c1 c2 c3 c4:Nat)(f:Pl.aL)(w:World)(N:Nat)(src:ByteArray)(x:LX)(a':Act)(_W:World):Prop:=
 a'= {tmps:= #[.agg (fq A1 A2 A3 A4 c1 c2 c3 c4 f),.string src,.pointer (some ⟨w.heap.size,0,none⟩),undef,.pointer (some ⟨w.heap.size+1,0,none⟩),.pointer (some ⟨w.heap.size+2,0,none⟩),.int .i64 0,.pointer (some ⟨N,0,none⟩),.int .i64 (x.1:Int),.slice (some ⟨x.2.1,0,none⟩) x.2.2.2.length x.2.2.1,undef,.agg (fq A1 A2 A3 A4 c1 c2 c3 c4 f),.int .i64 0,.int .i64 0,.bool false,undef,undef,.string src,.int .i64 src.size,.bool (decide (20000<(src.size:Int))),undef,.string src,.func (.func 144) #[] #[.pointer (some ⟨N+1,0,none⟩)],.int .i64 (x.1:Int),.slice (some ⟨x.2.1,0,none⟩) x.2.2.2.length x.2.2.1,undef,undef,undef,undef,undef,undef,undef,undef,undef,undef],defers:=[]}
theorem uo (src:ByteArray)(w:World)(CZ:Env w)(hf:bB w w.heap.size A1 A2 A3 A4 f)(hm:Small f)(hc:dY c1 c2 c3 c4 f)(hs:src.size<=20000)(hE:Pl.aR f=0)(K:Nat)(ws:List ByteArray)
  (hr:Pl.nL (fun(_:Unit) _ _=>(none:Option Unit)) 0 () ((Pl.splitV 10 src).map Pl.aW)=.inr ((),K,ws)) (hk:ws.head?≠some Pl.CQ):
  Calls prog 24 #[.agg (fq A1 A2 A3 A4 c1 c2 c3 c4 f),.string src] w fun e w'=>e=.returned (.tuple #[.slice none 0 0,.agg (i2 4 (K:Int))])∧Below w.heap.size w w':=by
 have HE:=Lib.hid hE
 clear hE
 refine(callsIn_wide (n:=3)).1 ?_
 refine callsIn_of_wp_marks func24 rfl trivial ?_ rfl
 simp only[ntmps24,List.size_toArray,List.length_cons,List.length_nil,Nat.reduceAdd,Nat.reduceSub,Array.replicate_succ,Array.replicate_zero,List.push_toArray,List.append_toArray,List.nil_append,List.cons_append]
 have kf:=heap_alloc2_old w (.cells (fq A1 A2 A3 A4 c1 c2 c3 c4 f) 28) (.cells #[.slice none 0 0] 38)
 have um:=heap_alloc2_new w (.cells (fq A1 A2 A3 A4 c1 c2 c3 c4 f) 28) (.cells #[.slice none 0 0] 38)
 have nZ:=heap_alloc_new ((w.alloc (.cells (fq A1 A2 A3 A4 c1 c2 c3 c4 f) 28)).alloc (.cells #[.slice none 0 0] 38)) (.cells (i2 0 0) 31)
 simp only[World.size_alloc]at nZ
 have kf:=(Below.heap_alloc _ (.cells (i2 0 0) 31) _ (lO kf)).trans kf
 have um:=(Below.heap_alloc _ (.cells (i2 0 0) 31) _ (lO um)).trans um
 have hb0:Below w.heap.size w (((w.alloc (.cells (fq A1 A2 A3 A4 c1 c2 c3 c4 f) 28)).alloc (.cells #[.slice none 0 0] 38)).alloc (.cells (i2 0 0) 31)):=(((Below.refl _ w).alloc (Nat.le_refl _) _).alloc (by simp) _).alloc (by simp only[World.size_alloc];omega) _
 gi_wp2_with (first
  |(refine⟨trivial,?_⟩;gi_at_call 22;refine(callsIn_wide.2 (bX A1 A2 A3 A4 c1 c2 c3 c4 f 0 _ HE (hf.up hb0) hm hc)).mono ?_;rintro e w1 ⟨rfl,hx⟩;have kf:=(hx.block _ (lO kf)).trans kf;have um:=(hx.block _ (lO um)).trans um;have nZ:=(hx.block _ (lO nZ)).trans nZ;have hb1:Below w.heap.size w w1:=hb0.trans (hx.mono hb0.size)))
 refine⟨trivial,?_⟩
 refine(callsIn_wide.2 (Iy _ _)).mono ?_
 rintro e w' ⟨rfl,rfl⟩
 gi_wp2_with fail
 have hnz:w.heap.size+3<=w1.heap.size:=by have:=(lO nZ);omega
 obtain⟨W0,hW0⟩: ∃W0,(w1.alloc (.cells #[.slice none 0 0] 38)).alloc (.cells #[.string src] 9)=W0:=⟨_,rfl⟩
 obtain⟨N,hN⟩: ∃N,w1.heap.size=N:=⟨_,rfl⟩
 have hs0:W0.heap.size=N+2:=by rw[<-hW0,<-hN];simp
 have hx0:Below w1.heap.size w1 W0:=by rw[<-hW0];exact((Below.refl _ w1).alloc (Nat.le_refl _) _).alloc (by simp) _
 have kd:W0.heap[N]?=some (.cells #[.slice none 0 0] 38 (0,0)):=by
  rw[<-hW0,<-hN];exact(Below.heap_alloc _ _ _ (by simp)).trans (World.alloc_heap_new w1 _)
 have ks:W0.heap[N+1]?=some (.cells #[.string src] 9 (0,0)):=by
  rw[<-hW0,<-hN];have:=World.alloc_heap_new (w1.alloc (.cells #[.slice none 0 0] 38)) (.cells #[.string src] 9);rwa[World.size_alloc]at this
 have kf:=(hx0.block _ (lO kf)).trans kf
 have um:=(hx0.block _ (lO um)).trans um
 have nZ:=(hx0.block _ (lO nZ)).trans nZ
 have hb2:Below w.heap.size w W0:=hb1.trans (hx0.mono hb1.size)
 rw[hW0]
 simp only[hN]
 rw[hN]at hnz
 clear hx0 hW0 hb1 hb0
 refine l5 (F:=Fence.wide) (encs:=LM) rfl (by omega) (gf:=144) (lb:= #[.pointer (some ⟨N+1,0,none⟩)]) (by simp[go_sem]) trivial (enters_of func144 (by kernel_rfl) rfl) (fun _=>rfl)
  (fun _ _=>(none:Option DS)) ⟨false,none⟩ (fun _=>False) (fun _ x=>x.1=K) (fun s x=>s.on=true∧s.pend=some x∧x.1=K) (DJ A1 A2 A3 A4 c1 c2 c3 c4 f w N src) (fun _ x W=>XD w N x W) (YA A1 A2 A3 A4 c1 c2 c3 c4 f w N src) ?put ?Rv ?FX ?start ?seq ?assign ?body ?done ?stop
 case put=>
  intro s W r r' hl h
  rw[hs0]at hl ⊢
  exact h.put r' hl
 case Rv=>
  intro s x W r r' hl h
  rw[hs0]
  exact h.put
 case FX=>
  intro x a' W r r' hl h
  exact h
 case start=>
  intro r
  have hb:Below W0.heap.size W0 ((W0.alloc (.deferred (some []))).alloc (.loop r)):=((Below.refl _ W0).alloc (Nat.le_refl _) _).alloc (by simp) _
  exact⟨⟨hb2.trans (hb.mono hb2.size),hnz,by simp;omega,(hb.block _ (by omega)).trans kf,(hb.block _ (by omega)).trans um,(hb.block _ (by omega)).trans nZ,(hb.block _ (by omega)).trans kd,(hb.block _ (by omega)).trans ks⟩,fun _=>by simp;omega,fun e=>(by cases e),fun x hx=>(by cases hx)⟩
 case seq=>
  rintro rec rec' W1 hY hI hl hk'
  rw[hs0]at hY hl hk' ⊢
  have hsz:=hI.off rfl
  have hg:Below W1.heap.size W1 (W1.alloc (.cells ((Pl.splitV 10 src).map Value.string).toArray 9)):=(Below.refl _ W1).alloc (Nat.le_refl _) _
  have hrw:=World.alloc_heap_new W1 (.cells ((Pl.splitV 10 src).map Value.string).toArray 9)
  refine(L6 (3-1) (N+2+1) (N+1) src hs (fun(_:Unit) W=>DI A1 A2 A3 A4 c1 c2 c3 c4 f w N src W∧W.heap[N+4]?=some (.cells ((Pl.splitV 10 src).map Value.string).toArray 9 (0,0))∧W.heap[N+2+1]?=some (.loop rec)∧W.heap[N+2]?=some (.deferred (some [])))
   (fun _ _ _=>none) (fun _ k _ W=>k=K∧ ∃x:LX,x.1=K∧XD w N x W∧W.heap[N+2+1]?=some (.loop rec')∧W.heap[N+2]?=some (.deferred (some []))) () W1 (CZ.up hI.di.below) hI.di.ks
   ⟨hI.di.grow hg,by rw[hsz]at hrw;exact hrw,(hg.block _ (lO hl)).trans hl,(hg.block _ (lO hk')).trans hk'⟩
   (fun _ W h=>by rw[hsz];exact h.2.1) (fun _ W h=>CZ.up h.1.below)
   (fun _ W W' h hb=>⟨h.1.grow hb,(hb.block _ (Array.getElem?_eq_some_iff.1 h.2.1).1).trans h.2.1,(hb.block _ (Array.getElem?_eq_some_iff.1 h.2.2.1).1).trans h.2.2.1,(hb.block _ (Array.getElem?_eq_some_iff.1 h.2.2.2).1).trans h.2.2.2⟩) ?_).mono ?_
  ·rintro _ k b c ws' W ⟨hi,hrow,hl,hk2⟩ hk5 hn hc hsz' hne ⟨rest,hrest⟩
   rw[hr,Pl.Iu hne rfl]at hrest
   obtain⟨rfl,rfl⟩:k+1=K∧ws'=ws:=by simpa using hrest
   have:=hY ⟨true,some (k+1,b,c,ws')⟩ (k+1,b,c,ws') W ⟨rfl,rfl,rfl⟩ ⟨hi,fun e=>(by cases e),fun _=>hrow,fun x hx=>by cases hx;exact⟨hn,hc,hsz',hne,hk⟩⟩ hl hk2
   simp only[LM,Int.natCast_add,Int.natCast_one]at this
   refine this.mono ?_
   rintro e W' (⟨s',h,_⟩|⟨_,rfl,hx,hl',hk'⟩)
   ·cases h
   ·exact .inr ⟨rfl,rfl,rfl,_,rfl,hx,hl',hk'⟩
  ·rintro e W' ⟨hv,⟨_,h,_⟩|⟨_,k,ws',h,rfl,x,hx,hX,hl',hk'⟩⟩
   ·rw[hr]at h;cases h
   ·exact⟨hv,.inr ⟨⟨true,none⟩,x,hx,hX,hl',hk'⟩⟩
 case assign=>
  rintro s x W Kk r ⟨_,_,p3⟩ hi hl hk' hK
  clear p3
  rw[hs0]at hl hk' hK ⊢
  gi_wp2
  exact hK _ _ hi rfl hl hk'
 case body=>
  rintro s ⟨num,b,c,ws'⟩ a' W r ⟨hon,Tj,BH⟩ hi rfl hl hk'
  rw[hs0]at hl hk' ⊢
  obtain⟨Nr,hc2,hS2,hne2,hd2⟩:=hi.pend _ Tj
  simp only at Nr hc2 hS2 hne2 hd2 BH
  subst BH
  cases ws' with
  |nil=>exact absurd rfl hne2
  |cons kk ws'=>
  have hdl:=xQ A1 A2 A3 A4 c1 c2 c3 c4 f N (some ⟨b,0,none⟩) c kk ws' W (CZ.up hi.di.below) hi.di.kd Nr hc2 hS2 (fun e=>hd2 (by simp[e]))
  have kf:=hi.di.kf
  obtain⟨hcf,nY⟩:=ah kf
  gi_wp2_with fail
  refine⟨trivial,?_⟩
  refine(CallsIn.inRound _ (callsIn_wide.2 hdl)).mono ?_
  rintro e W2 ⟨rfl,hB⟩
  have hsz:=hi.di.sz
  have hlt:=hi.di.lt
  have um:=(hB.block (w.heap.size+1) (by omega)).trans hi.di.r1
  have nZ:=(hB.block (w.heap.size+2) (by omega)).trans hi.di.r2
  have hl2:=(hB.block _ (lO hl)).trans hl
  have hk2:=(hB.block _ (lO hk')).trans hk'
  obtain⟨W3,Qe,xI,hg3⟩:=Rw W2 (w.heap.size+1) _ 38 _ (.slice none 0 0) um JJ rfl
  have xR:=(hg3.block (w.heap.size+2) (lO nZ) (by simp)).trans nZ
  obtain⟨W4,Ro,zX,hg4⟩:=aG W3 (w.heap.size+2) _ 31 _ (i2 4 (num:Int)) xR j_ rfl (by simp[Value.oneCell'])
  have Gf:=(hg4.block (w.heap.size+1) (lO xI) (by simp)).trans xI
  clear um nZ xR hdl hcf nY
  gi_wp2_with fail
  have keep: ∀k,w.heap.size+3<=k->k<W2.heap.size->W4.heap[k]?=W2.heap[k]?:=fun k h2 h3=>
   (hg4.block k (by have:=hg3.size;omega) (by simp;omega)).trans (hg3.block k h3 (by simp;omega))
  have hsz2:=hB.size
  have hbel:Below w.heap.size w W4:=((hi.di.below.trans (hB.mono hi.di.below.size)).grown hg3 (by have:=hi.di.below.size;omega) (fun k e=>by cases e;omega)).grown hg4 (by have:=hg3.size;have:=hi.di.below.size;omega) (fun k e=>by cases e;omega)
  exact⟨(keep _ (by omega) (by omega)).trans hl2,(keep _ (by omega) (by omega)).trans hk2,hbel,hlt,Gf,zX⟩
 case done=>
  rintro s1 W hd
  exact hd.elim
 case stop=>
  rintro s x W hx hX hk'
  rw[hs0]at hk' ⊢
  have hr1:=hX.r1
  have hr2:=hX.r2
  have hlt:=hX.lt
  obtain⟨hc1,hf1⟩:=ah hr1
  obtain⟨hc2,hf2⟩:=ah hr2
  gi_wp2
  refine⟨by simp,.inl ⟨_,_,rfl,run_takeDeferred hk',?_⟩⟩
  have hb4:Below w.heap.size w (W.putObj (N+2) (.deferred none)):=hX.below.grown (grownBy_putObj' W (N+2) (.deferred none)) hX.below.size (fun k e=>by cases e;omega)
  have g1:=(World.putObj_heap_other (w:=W) (o:=.deferred none) (show w.heap.size+1≠N+2 by omega)).trans hr1
  have g2:=(World.putObj_heap_other (w:=W) (o:=.deferred none) (show w.heap.size+2≠N+2 by omega)).trans hr2
  obtain⟨hd1,he1⟩:=ah g1
  obtain⟨hd2,he2⟩:=ah g2
  refine⟨.tuple #[.slice none 0 0,.agg (i2 4 (x.1:Int))],?_,by rw[hx],hb4⟩
  simp[results,results24,go_sem,hd1,hd2]
end Go.Proofs
namespace Go.Proofs
open Tryz
variable (A1 A2 A3 A4 : Option Addr) (c1 c2 c3 c4 : Nat) (f : Pl.aL)
namespace Pl
variable (A1 A2 A3 A4 : Option Addr) (c1 c2 c3 c4 : Nat) (f : Pl.aL)
def atR (f:aL)(s o:Int)(y:List Int):Int×Int:=
 if aR f≠0 then (0,aR f)
 else if (bQ s 0 ((f.st.length:Int)-1)&&(bQ o 0 100000&&gW f.st.length f.li.length y))=false then (0,1)
 else match idx (hasB f.st.length y s o) f.pa with|some i=>((i:Int),0)|none=>(0,5)
theorem BJ {f:aL}{s o:Int}{y:List Int}(h:aR f=0)(hb:(bQ s 0 ((f.st.length:Int)-1)&&(bQ o 0 100000&&gW f.st.length f.li.length y))=false):atR f s o y=(0,1):=by
 unfold atR;rw[if_neg (fun h'=>h' h),if_pos hb]
theorem L_ {f:aL}{s o:Int}{y:List Int}{i:Nat}(h:aR f=0)(hb:(bQ s 0 ((f.st.length:Int)-1)&&(bQ o 0 100000&&gW f.st.length f.li.length y))=true)(hi:idx (hasB f.st.length y s o) f.pa=some i):atR f s o y=((i:Int),0):=by
 unfold atR;rw[if_neg (fun h'=>h' h),if_neg (by rw[hb];decide),hi]
theorem Ma {f:aL}{s o:Int}{y:List Int}(h:aR f=0)(hb:(bQ s 0 ((f.st.length:Int)-1)&&(bQ o 0 100000&&gW f.st.length f.li.length y))=true)(hi:idx (hasB f.st.length y s o) f.pa=none):atR f s o y=(0,5):=by
 unfold atR;rw[if_neg (fun h'=>h' h),if_neg (by rw[hb];decide),hi]
structure Tt (S L:Nat)(p:oz):Prop where
 s0:0<=p.dH
 s1:p.dH<=(L:Int)-2
 f0:0<=p.fr
 f1:p.fr<=(S:Int)-1
 t0:0<=p.till
 t1:p.till<=(S:Int)-1
theorem xY {S L:Nat}{p:oz}(h:gG S L p=true):Tt S L p:=by
 unfold gG at h
 simp at h
 exact⟨h.1.1.1,h.1.1.2,h.1.2.1,h.1.2.2,h.2.1,h.2.2⟩
theorem Gl {S L:Nat}{y:List Int}(h:gW S L y=true):y.length=1+L*S:=by
 unfold gW at h
 simp only[Bool.and_eq_true,decide_eq_true_eq]at h
 exact h.1
theorem Mc {S:Nat}{y:List Int}{s sn P0 P1:Nat}{o a b:Int}{p:oz}(hp:p.dH=(sn:Int))(h0:eP S sn s=P0)(h1:eP S (sn+1) s=P1)(ha:zG y P0=a)(hb:zG y P1=b):
  hasB S y s o p=(decide (p.fr<=(s:Int))&&(decide ((s:Int)<p.till)&&(decide (a<=o)&&decide (o<b)))):=by
 unfold hasB
 rw[hp,Int.toNat_natCast,Int.toNat_natCast,h0,h1,ha,hb]
end Pl
end Go.Proofs
namespace Go.Proofs
open Tryz
namespace Pl
def Pf :ByteArray:=⟨#[115,116,97,116,105,111,110,32,97,115,104,32,48,10,115,116,97,116,105,111,110,32,111,97,107,32,56,54,54,10,108,105,109,105,116,32,119,97,108,108,10,108,105,109,105,116,32,104,101,100,103,101,10,112,97,114,99,101,108,32,104,111,109,101,32,119,97,108,108,32,97,115,104,32,111,97,107,10,118,97,114,105,97,116,105,111,110,32,49,55,48,48,32,49,48,10]⟩
def Iz :ByteArray:=⟨#[99,111,117,114,115,101,32,119,97,108,108,32,97,115,104,32,111,97,107,32,49,48,32,99,104,97,105,110,115,32,98,121,32,110,111,114,116,104,32,53,48,32,101,97,115,116,32,103,105,118,101,32,50,32,119,101,97,114,32,48,32,115,108,97,99,107,32,49,48,48]⟩
def f0 :aL:=⟨[(⟨#[97,115,104]⟩,0),(⟨#[111,97,107]⟩,866)],[⟨#[119,97,108,108]⟩,⟨#[104,101,100,103,101]⟩],[⟨⟨#[104,111,109,101]⟩,0,0,1⟩],[(1700,10)]⟩
theorem Rx :gU Pf=(f0,0,0):=by kernel_rfl
def IB :ByteArray:=⟨#[115,116,111,110,101,32,119,97,108,108,32,111,97,107,32,50,53,48,32,50]⟩
def Ry :ByteArray:=⟨#[115,116,111,110,101,32,119,97,108,108,32,97,115,104,32,49,32,48]⟩
def c1 :aZ:=⟨3,0,0,0,1,0,0,⟨50,2,1000,1750,0,100⟩⟩
def c2 :aZ:=⟨1,0,0,1,0,250,2,bF.zero⟩
theorem oZ :aR f0=0:=by kernel_rfl
theorem Tv :(form (aW Iz)).bind (fun x=>looked f0 x 1750)=some c1:=by kernel_rfl
theorem Tw :(form (aW IB)).bind (fun x=>looked f0 x 1750)=some c2:=by kernel_rfl
theorem Qg :vars f0.va=0:=by kernel_rfl
theorem Rz :fP f0 c1=0:=by rw[<-tY Qg];kernel_rfl
theorem Tx :fP f0 c2=0:=by rw[<-tY Qg];kernel_rfl
theorem IC {s:ByteArray}{c:aZ}(h1:(form (aW s)).bind (fun x=>looked f0 x 1750)=some c)(h2:fP f0 c=0)(h3: ¬(10:UInt8)∈s.data.toList):bJ f0 s 1750=.ok c:=by
 unfold bJ
 rw[if_neg (fun h=>h oZ),if_neg (by omega),if_neg h3]
 cases hf:form (aW s)with
 |none=>rw[hf]at h1;cases h1
 |some x=>
  rw[hf]at h1
  show jF f0 x 1750=.ok c
  have h1:looked f0 x 1750=some c:=h1
  unfold jF
  rw[h1]
  show(if fP f0 c=0 then Except.ok c else .error (fP f0 c))=.ok c
  rw[if_pos h2]
theorem Tz :bJ f0 Iz 1750=.ok c1:=IC Tv Rz (by decide+kernel)
theorem TA :bJ f0 IB 1750=.ok c2:=IC Tw Tx (by decide+kernel)
theorem Pg :kL f0 c1 7=[⟨1,2,519,7⟩,⟨2,1,-480,7⟩]:=by kernel_rfl
theorem Ph :kL f0 c2 7=[⟨0,2,252,7⟩,⟨2,0,-248,7⟩]:=by kernel_rfl
theorem BK :(nature f0.st.length f0.li.length).length=10∧(nature f0.st.length f0.li.length)[9]?=some ⟨4,2,0,0⟩:=by constructor<;>kernel_rfl
theorem Vz :atR f0 0 120 [0,100,100,150,150]=(0,0):=by kernel_rfl
theorem TB :c1.back=⟨3,0,0,1,0,0,0,⟨230,2,1000,1750,0,100⟩⟩:=by kernel_rfl
end Pl
open RowKit
variable (A1 A2 A3 A4 : Option Addr) (c1 c2 c3 c4 : Nat) (f : Pl.aL)
theorem TD (s o:Int)(A:Option Addr)(c:Nat)(y:List Int)(w:World)(hf:bB w w.heap.size A1 A2 A3 A4 f)(hm:Small f)(hc:dY c1 c2 c3 c4 f)(hE:Pl.aR f=0)(hy:Ints w w.heap.size A y)(hym:y.length<=100000):
  Calls prog 54 #[.agg (fq A1 A2 A3 A4 c1 c2 c3 c4 f),.int .i64 s,.int .i64 o,.slice A y.length c] w fun e w'=>e=.returned (.tuple #[.int .i64 (Pl.atR f s o y).1,.int .i64 (Pl.atR f s o y).2])∧Below w.heap.size w w':=by
 have hok:=Pl.iV hE
 have hS:=hok.I9
 have hL1:=hok.Wx
 have hL:=hok.KD
 have hpk:=Lib.hid hok.par
 have HE:=Lib.hid hE
 clear hE hok
 have kb:=heap_alloc_new w (.cells (fq A1 A2 A3 A4 c1 c2 c3 c4 f) 28)
 cases b1:Pl.bQ s 0 ((f.st.length:Int)-1)with
 | false=>
  have HQ:Hid (Pl.atR f s o y=(0,1)):=Lib.hid (Pl.BJ HE.out (by rw[b1];rfl))
  go_enter func54,ntmps54
  go_wp2_with (first
   |(go_at_call 22;refine(bX A1 A2 A3 A4 c1 c2 c3 c4 f 0 _ HE (hf.up (by go_grown)) hm hc).mono ?_;rintro e w1 ⟨rfl,hx⟩;have kb:=(hx.block (w.heap.size) (by first|exact(lO kb)|omega|(simp;done)|(simp;omega))).trans (by first|exact kb|exact(Below.heap_alloc _ _ _ (lO kb)).trans kb);obtain⟨aQ,aS⟩:=ah kb;have aC:=(lO kb);have hall:Below w.heap.size w w1:=Below.trans (by go_grown) (hx.mono (by go_size));have hsz:w.heap.size<=w1.heap.size:=hall.size;clear hx)
   |(go_at_call 84;refine(dP _ _ _ _).mono ?_;rintro e w' ⟨rfl,rfl⟩))
  go_ret2
  exact⟨by rw[HQ.out];try rfl,by go_grown⟩
 |true=>
 cases b2:Pl.bQ o 0 100000 with
 | false=>
  have HQ:Hid (Pl.atR f s o y=(0,1)):=Lib.hid (Pl.BJ HE.out (by rw[b1,b2];rfl))
  go_enter func54,ntmps54
  go_wp2_with (first
   |(go_at_call 22;refine(bX A1 A2 A3 A4 c1 c2 c3 c4 f 0 _ HE (hf.up (by go_grown)) hm hc).mono ?_;rintro e w1 ⟨rfl,hx⟩;have kb:=(hx.block (w.heap.size) (by first|exact(lO kb)|omega|(simp;done)|(simp;omega))).trans (by first|exact kb|exact(Below.heap_alloc _ _ _ (lO kb)).trans kb);obtain⟨aQ,aS⟩:=ah kb;have aC:=(lO kb);have hall:Below w.heap.size w w1:=Below.trans (by go_grown) (hx.mono (by go_size));have hsz:w.heap.size<=w1.heap.size:=hall.size;clear hx)
   |(go_at_call 84;refine(dP _ _ _ _).mono ?_;rintro e w' ⟨rfl,rfl⟩))
  go_ret2
  exact⟨by rw[HQ.out];try rfl,by go_grown⟩
 |true=>
 have hdr:=fun W (hW:Below w.heap.size w W)=>NU A1 A2 A3 A4 c1 c2 c3 c4 f A c y W hS hL1 hL (hy.up hW) hym
 cases b3:Pl.gW f.st.length f.li.length y with
 | false=>
  have HQ:Hid (Pl.atR f s o y=(0,1)):=Lib.hid (Pl.BJ HE.out (by rw[b1,b2,b3];rfl))
  rw[b3]at hdr
  go_enter func54,ntmps54
  go_wp2_with (first
   |(go_at_call 22;refine(bX A1 A2 A3 A4 c1 c2 c3 c4 f 0 _ HE (hf.up (by go_grown)) hm hc).mono ?_;rintro e w1 ⟨rfl,hx⟩;have kb:=(hx.block (w.heap.size) (by first|exact(lO kb)|omega|(simp;done)|(simp;omega))).trans (by first|exact kb|exact(Below.heap_alloc _ _ _ (lO kb)).trans kb);obtain⟨aQ,aS⟩:=ah kb;have aC:=(lO kb);have hall:Below w.heap.size w w1:=Below.trans (by go_grown) (hx.mono (by go_size));have hsz:w.heap.size<=w1.heap.size:=hall.size;clear hx)
   |(go_at_call 84;refine(dP _ _ _ _).mono ?_;rintro e w' ⟨rfl,rfl⟩)
   |(go_at_call 105;refine(hdr _ (by go_grown)).mono ?_;rintro e w2 ⟨rfl,hx2⟩;have hb2:Below w.heap.size w w2:=Below.trans (by go_grown) (hx2.mono (by go_size));clear hx2;have hsz2:w.heap.size<=w2.heap.size:=hb2.size))
  go_ret2
  exact⟨by rw[HQ.out];try rfl,by go_grown⟩
 |true=>
 rw[b3]at hdr
 have hlen:=Lib.hid (Pl.Gl b3)
 have HQ:=Lib.hid (show(Pl.bQ s 0 ((f.st.length:Int)-1)&&(Pl.bQ o 0 100000&&Pl.gW f.st.length f.li.length y))=true by rw[b1,b2,b3];rfl)
 have hs:0<=s∧s<=(f.st.length:Int)-1:=by simpa [Pl.bQ]using b1
 obtain⟨hs0,hs1⟩:=hs
 obtain⟨s,rfl⟩:=Int.eq_ofNat_of_zero_le hs0
 clear b3
 go_enter func54,ntmps54
 go_wp2_with (first
  |(go_at_call 22;refine(bX A1 A2 A3 A4 c1 c2 c3 c4 f 0 _ HE (hf.up (by go_grown)) hm hc).mono ?_;rintro e w1 ⟨rfl,hx⟩;have kb:=(hx.block (w.heap.size) (by first|exact(lO kb)|omega|(simp;done)|(simp;omega))).trans (by first|exact kb|exact(Below.heap_alloc _ _ _ (lO kb)).trans kb);obtain⟨aQ,aS⟩:=ah kb;have aC:=(lO kb);have hall:Below w.heap.size w w1:=Below.trans (by go_grown) (hx.mono (by go_size));have hsz:w.heap.size<=w1.heap.size:=hall.size;clear hx)
  |(go_at_call 84;refine(dP _ _ _ _).mono ?_;rintro e w' ⟨rfl,rfl⟩)
  |(go_at_call 105;refine(hdr _ (by go_grown)).mono ?_;rintro e w2 ⟨rfl,hx⟩;have kb:=(hx.block (w.heap.size) (by first|exact(lO kb)|omega|(simp;done)|(simp;omega))).trans (by first|exact kb|exact(Below.heap_alloc _ _ _ (lO kb)).trans kb);obtain⟨aQ,aS⟩:=ah kb;have aC:=(lO kb);have hall:Below w.heap.size w w2:=Below.trans (by go_grown) (hx.mono (by go_size));have hsz:w.heap.size<=w2.heap.size:=hall.size;clear hx))
 clear b1 b2 hdr
 go_loopw [39] (fun i wr=> ∃(k:Nat),k<=f.pa.length∧i=.int .i64 k∧Hid (∀j (h:j<f.pa.length),j<k->Pl.hasB f.st.length y s o f.pa[j]=false)∧wr.heap[w.heap.size]?=some (.cells (fq A1 A2 A3 A4 c1 c2 c3 c4 f) 28 (0,0))∧Below w.heap.size w wr) (fun i _=>f.pa.length-(intOf i).toNat)
 case atStart=>exact⟨0,by omega,rfl,Lib.hid fun j _ h=>by omega,kb,hall⟩
 case round=>
  obtain⟨k,hk,rfl,hg,kb,hall⟩:=hrel
  obtain⟨aQ,aS⟩:=ah kb
  have aC:=(lO kb)
  have hsz:=hall.size
  by_cases hlt:k<f.pa.length
  ·have po:=Pl.xY (hpk.out _ (List.getElem_mem hlt))
   obtain⟨sn,hsn⟩:=Int.eq_ofNat_of_zero_le po.s0
   have YB:=po.s1
   have hpm:=hm.pa
   rw[hsn]at YB
   have VA:sn+1<f.li.length:=by omega
   have Xd:s<f.st.length:=by omega
   have hm0:=Pl.rF (l:=sn) (L:=f.li.length) (S:=f.st.length) (by omega) Xd
   have hm1:=Pl.rF (l:=sn+1) (L:=f.li.length) (S:=f.st.length) VA Xd
   rw[<-hlen.out]at hm0 hm1
   obtain⟨P0,UE⟩: ∃P,Pl.eP f.st.length sn s=P:=⟨_,rfl⟩
   obtain⟨P1,hP1⟩: ∃P,Pl.eP f.st.length (sn+1) s=P:=⟨_,rfl⟩
   have e0:1+(sn:Int)*(f.st.length:Int)+(s:Int)=(P0:Int):=by rw[<-UE];unfold Pl.eP;simp
   have e1:1+((sn:Int)+1)*(f.st.length:Int)+(s:Int)=(P1:Int):=by rw[<-hP1];unfold Pl.eP;simp
   rw[UE]at hm0
   rw[hP1]at hm1
   have hv:=Pl.Mc (y:=y) (o:=o) hsn UE hP1 (Pl.qh hm0) (Pl.qh hm1)
   obtain⟨b,off,hA,mQ,q0,q1,q2,q3⟩:=om.at4 (hf.pa.below hall) hlt
   obtain⟨g,off2,hA2,hg2,r0⟩:=Ints.gY (hy.below hall) hm0
   obtain⟨g',TF,xZ,_,r1⟩:=Ints.gY (hy.below hall) hm1
   rw[hA2]at xZ
   obtain⟨rfl,rfl⟩:g=g'∧off2=TF:=by simpa using xZ
   clear xZ UE hP1
   rw[hsn]at q1
   have HS:=Lib.hid hsn
   clear hsn
   have HV:=Lib.hid hv
   clear hv
   obtain⟨x0,hx0⟩: ∃x,y[P0]=x:=⟨_,rfl⟩
   obtain⟨x1,hx1⟩: ∃x,y[P1]=x:=⟨_,rfl⟩
   rw[hx0]at r0 HV
   rw[hx1]at r1 HV
   clear hx0 hx1
   subst hA hA2
   have hgr:g<wr.heap.size:=by omega
   have u0:=r0
   have u1:=r1
   have kp:=heap_alloc_new wr (.cells #[.string f.pa[k].name,.int .i64 (sn:Int),.int .i64 f.pa[k].fr,.int .i64 f.pa[k].till] 112)
   have e2:IntKind.i64.wrap ((sn:Int)+1)=(sn:Int)+1:=IntWalk.i64_in _ (by omega)
   have e3:(0:Int)<=(P0:Int):=by omega
   have e4:(P0:Int)<(y.length:Int):=by omega
   have e5:(0:Int)<=(P1:Int):=by omega
   have e6:(P1:Int)<(y.length:Int):=by omega
   have hno:Hid (Pl.hasB f.st.length y s o f.pa[k]=false-> ∀j (h:j<f.pa.length),j<k+1->Pl.hasB f.st.length y s o f.pa[j]=false):=Lib.hid fun h0 j h hj=>by
    by_cases e:j=k
    ·subst e;exact h0
    ·exact hg.out j h (by omega)
   by_cases g1:f.pa[k].fr<=(s:Int)
   ·by_cases g2:(s:Int)<f.pa[k].till
    ·by_cases g3:x0<=o
     ·by_cases g4:o<x1
      ·have hidx:=Lib.hid (Pl.iN (p:=Pl.hasB f.st.length y s o) hlt (fun j hj=>hg.out j (by omega) hj) (by rw[HV.out];simp[g1,g2,g3,g4]))
       go_wp2_with (go_at_call 110;refine(rT A1 A2 (some ⟨b,off,none⟩) A4 c1 c2 c3 c4 f _ _ _ (by omega) (by omega) (by omega) (by omega) (by omega)).mono ?_;rintro e w3 ⟨rfl,hx⟩;have kb:=(hx.block (w.heap.size) (by first|exact(lO kb)|omega|(simp;done)|(simp;omega))).trans (by first|exact kb|exact(Below.heap_alloc _ _ _ (lO kb)).trans kb);obtain⟨aQ,aS⟩:=ah kb;have aC:=(lO kb);have kp:=(hx.block (wr.heap.size) (by first|exact(lO kp)|omega|(simp;done)|(simp;omega))).trans (by first|exact kp|exact(Below.heap_alloc _ _ _ (lO kp)).trans kp);obtain⟨TG,TH⟩:=ah kp;have Qh:=(lO kp);have hall:Below w.heap.size w w3:=Below.trans (by go_grown) (hx.mono (by go_size));have hsz:w.heap.size<=w3.heap.size:=hall.size;have Md:Below wr.heap.size wr w3:=Below.trans (by go_grown) (hx.mono (by go_size));have TI:=Md.size;have r0:=(Md.cell (p:=⟨g,off2+P0,none⟩) hgr).trans u0;have r1:=(Md.cell (p:=⟨g,off2+P1,none⟩) hgr).trans u1;clear hx)
       go_ret2
       exact⟨by rw[Pl.L_ HE.out HQ.out hidx.out];try rfl,by go_grown⟩
      ·have hno:=Lib.hid (hno.out (by rw[HV.out];simp[g4]))
       go_wp2_with (go_at_call 110;refine(rT A1 A2 (some ⟨b,off,none⟩) A4 c1 c2 c3 c4 f _ _ _ (by omega) (by omega) (by omega) (by omega) (by omega)).mono ?_;rintro e w3 ⟨rfl,hx⟩;have kb:=(hx.block (w.heap.size) (by first|exact(lO kb)|omega|(simp;done)|(simp;omega))).trans (by first|exact kb|exact(Below.heap_alloc _ _ _ (lO kb)).trans kb);obtain⟨aQ,aS⟩:=ah kb;have aC:=(lO kb);have kp:=(hx.block (wr.heap.size) (by first|exact(lO kp)|omega|(simp;done)|(simp;omega))).trans (by first|exact kp|exact(Below.heap_alloc _ _ _ (lO kp)).trans kp);obtain⟨TG,TH⟩:=ah kp;have Qh:=(lO kp);have hall:Below w.heap.size w w3:=Below.trans (by go_grown) (hx.mono (by go_size));have hsz:w.heap.size<=w3.heap.size:=hall.size;have Md:Below wr.heap.size wr w3:=Below.trans (by go_grown) (hx.mono (by go_size));have TI:=Md.size;have r0:=(Md.cell (p:=⟨g,off2+P0,none⟩) hgr).trans u0;have r1:=(Md.cell (p:=⟨g,off2+P1,none⟩) hgr).trans u1;clear hx)
       go_roundw
       case rel=>exact⟨k+1,by omega,by go_num,hno,by first|exact kb|exact(Below.heap_alloc _ _ _ aC).trans kb,by go_grown⟩
       case measure=>first|(simp[intOf];done)|(simp[intOf];omega)
     ·have hno:=Lib.hid (hno.out (by rw[HV.out];simp[g3]))
      go_wp2_with (go_at_call 110;refine(rT A1 A2 (some ⟨b,off,none⟩) A4 c1 c2 c3 c4 f _ _ _ (by omega) (by omega) (by omega) (by omega) (by omega)).mono ?_;rintro e w3 ⟨rfl,hx⟩;have kb:=(hx.block (w.heap.size) (by first|exact(lO kb)|omega|(simp;done)|(simp;omega))).trans (by first|exact kb|exact(Below.heap_alloc _ _ _ (lO kb)).trans kb);obtain⟨aQ,aS⟩:=ah kb;have aC:=(lO kb);have kp:=(hx.block (wr.heap.size) (by first|exact(lO kp)|omega|(simp;done)|(simp;omega))).trans (by first|exact kp|exact(Below.heap_alloc _ _ _ (lO kp)).trans kp);obtain⟨TG,TH⟩:=ah kp;have Qh:=(lO kp);have hall:Below w.heap.size w w3:=Below.trans (by go_grown) (hx.mono (by go_size));have hsz:w.heap.size<=w3.heap.size:=hall.size;have Md:Below wr.heap.size wr w3:=Below.trans (by go_grown) (hx.mono (by go_size));have TI:=Md.size;have r0:=(Md.cell (p:=⟨g,off2+P0,none⟩) hgr).trans u0;have r1:=(Md.cell (p:=⟨g,off2+P1,none⟩) hgr).trans u1;clear hx)
      go_roundw
      case rel=>exact⟨k+1,by omega,by go_num,hno,by first|exact kb|exact(Below.heap_alloc _ _ _ aC).trans kb,by go_grown⟩
      case measure=>first|(simp[intOf];done)|(simp[intOf];omega)
    ·have hno:=Lib.hid (hno.out (by rw[HV.out];simp[g2]))
     go_wp2
     go_roundw
     case rel=>exact⟨k+1,by omega,by go_num,hno,by first|exact kb|exact(Below.heap_alloc _ _ _ aC).trans kb,by go_grown⟩
     case measure=>first|(simp[intOf];done)|(simp[intOf];omega)
   ·have hno:=Lib.hid (hno.out (by rw[HV.out];simp[g1]))
    go_wp2
    go_roundw
    case rel=>exact⟨k+1,by omega,by go_num,hno,by first|exact kb|exact(Below.heap_alloc _ _ _ aC).trans kb,by go_grown⟩
    case measure=>first|(simp[intOf];done)|(simp[intOf];omega)
  ·have hidx:Hid (Pl.idx (Pl.hasB f.st.length y s o) f.pa=none):=Lib.hid (Pl.jX fun j hj=>hg.out j hj (by omega))
   go_wp2
   go_ret2
   exact⟨by rw[Pl.Ma HE.out HQ.out hidx.out];try rfl,by go_grown⟩
open Go.Shelf
attribute [-go_sem] run_equalIn_agg storeVar loadVar
attribute [local go_sem] bZ bH dU aT eB
theorem JK (w:World)(hf:bB w w.heap.size A1 A2 A3 A4 f)(hm:Small f)(hc:dY c1 c2 c3 c4 f)(hE:Pl.aR f=0):
  Calls prog 35 #[.agg (fq A1 A2 A3 A4 c1 c2 c3 c4 f)] w fun e w'=>e=.returned (.int .i64 (1+(f.li.length:Int)*f.st.length))∧Below w.heap.size w w':=by
 have HE:=Lib.hid hE
 have hok:=Pl.iV hE
 have h1:=hok.KD
 have h2:=hok.I9
 clear hE hok
 have kf:=(heap_alloc_new w (.cells (fq A1 A2 A3 A4 c1 c2 c3 c4 f) 28))
 have l0:=ak kf underlying28 rfl av
 have hall:Below w.heap.size w (w.alloc (.cells (fq A1 A2 A3 A4 c1 c2 c3 c4 f) 28)):=((Below.refl _ w).alloc (Nat.le_refl _) _)
 go_enter func35,ntmps35
 go_wp2_with (first
  |(go_at_call 22;refine(bX A1 A2 A3 A4 c1 c2 c3 c4 f 0 _ HE (hf.up hall) hm hc).mono ?_;rintro e w1 ⟨rfl,hx⟩;have kf:=(hx.block _ (lO kf)).trans kf;have hall:Below w.heap.size w w1:=hall.trans (hx.mono hall.size);clear l0;have l1:=ak kf underlying28 rfl av;clear hx)
  |(go_at_call 106;refine(CR A1 A2 A3 A4 c1 c2 c3 c4 f _ (by omega) (by omega)).mono ?_;rintro e w2 ⟨rfl,hx⟩;have hall:Below w.heap.size w w2:=hall.trans (hx.mono hall.size);clear hx))
 go_ret
 exact⟨rfl,hall⟩
theorem YC (w:World)(hE:Env w):Calls prog 19 #[.string Pl.Pf] w (Ru (Pl.f0,0,0) w):=by
 rw[<-Pl.Rx]
 exact BG Pl.Pf w hE (by decide)
theorem nN :Small Pl.f0:=by
 refine⟨by decide,by decide,by decide,by decide,?_,?_,?_⟩<;>decide
theorem YD (A1 A2 A3 A4:Option Addr)(d1 d2 d3 d4:Nat)(w:World)(hE:Env w)(hf:bB w w.heap.size A1 A2 A3 A4 Pl.f0)(hc:dY d1 d2 d3 d4 Pl.f0):Calls prog 31 #[.agg #[.slice A1 2 d1,.slice A2 2 d2,.slice A3 1 d3,.slice A4 1 d4],.string Pl.Iz,.int .i64 1750] w fun e w'=>e=.returned (.tuple #[.agg (bR 3 0 0 0 1 0 0 50 2 1000 1750 0 100),.int .i64 0])∧Below w.heap.size w w':=by
 have:=qQ A1 A2 A3 A4 d1 d2 d3 d4 Pl.f0 Pl.Iz 1750 w hE hf nN hc (by decide)
 rw[Pl.Tz]at this
 exact this.mono fun _ _ ⟨hb,he⟩=>⟨he,hb⟩
theorem YE (A1 A2 A3 A4:Option Addr)(d1 d2 d3 d4:Nat)(w:World)(hE:Env w)(hf:bB w w.heap.size A1 A2 A3 A4 Pl.f0)(hc:dY d1 d2 d3 d4 Pl.f0):Calls prog 31 #[.agg #[.slice A1 2 d1,.slice A2 2 d2,.slice A3 1 d3,.slice A4 1 d4],.string Pl.IB,.int .i64 1750] w fun e w'=>e=.returned (.tuple #[.agg (ka 1 0 0 1 0 250 2),.int .i64 0])∧Below w.heap.size w w':=by
 have:=qQ A1 A2 A3 A4 d1 d2 d3 d4 Pl.f0 Pl.IB 1750 w hE hf nN hc (by decide)
 rw[Pl.TA]at this
 exact this.mono fun _ _ ⟨hb,he⟩=>⟨he,hb⟩
theorem YF :Pl.iO Pl.f0 Pl.c1 7=0:=by unfold Pl.iO Pl.aM;rw[if_pos Pl.oZ,if_pos Pl.Rz,if_pos (by decide)]
theorem YG :Pl.iO Pl.f0 Pl.c2 7=0:=by unfold Pl.iO Pl.aM;rw[if_pos Pl.oZ,if_pos Pl.Tx,if_pos (by decide)]
theorem YH (A1 A2 A3 A4:Option Addr)(d1 d2 d3 d4:Nat)(w:World)(_hE:Env w)(hf:bB w w.heap.size A1 A2 A3 A4 Pl.f0)(hc:dY d1 d2 d3 d4 Pl.f0):Calls prog 27 #[.agg #[.slice A1 2 d1,.slice A2 2 d2,.slice A3 1 d3,.slice A4 1 d4],.agg (bR 3 0 0 0 1 0 0 50 2 1000 1750 0 100),.int .i64 7] w (LY [⟨1,2,519,7⟩,⟨2,1,-480,7⟩] 0 w):=by
 have:=D9 A1 A2 A3 A4 d1 d2 d3 d4 Pl.f0 Pl.c1 7 w hf nN hc (by decide)
 rw[Pl.qo,YF,if_pos rfl,Pl.Pg]at this
 exact this
theorem YI (A1 A2 A3 A4:Option Addr)(d1 d2 d3 d4:Nat)(w:World)(_hE:Env w)(hf:bB w w.heap.size A1 A2 A3 A4 Pl.f0)(hc:dY d1 d2 d3 d4 Pl.f0):Calls prog 27 #[.agg #[.slice A1 2 d1,.slice A2 2 d2,.slice A3 1 d3,.slice A4 1 d4],.agg (ka 1 0 0 1 0 250 2),.int .i64 7] w (LY [⟨0,2,252,7⟩,⟨2,0,-248,7⟩] 0 w):=by
 have:=D9 A1 A2 A3 A4 d1 d2 d3 d4 Pl.f0 Pl.c2 7 w hf nN hc (by decide)
 rw[Pl.qo,YG,if_pos rfl,Pl.Ph]at this
 exact this
theorem VB (A1 A2 A3 A4:Option Addr)(d1 d2 d3 d4:Nat)(w:World)(_hE:Env w)(hf:bB w w.heap.size A1 A2 A3 A4 Pl.f0)(hc:dY d1 d2 d3 d4 Pl.f0):Calls prog 26 #[.agg #[.slice A1 2 d1,.slice A2 2 d2,.slice A3 1 d3,.slice A4 1 d4]] w fun e w'=> ∃A c,e=.returned (.tuple #[.slice A 10 c,.int .i64 0])∧R_ w' w'.heap.size A (Pl.nature 2 2)∧From w.heap.size A∧Below w.heap.size w w':=by
 have h:=Jg A1 A2 A3 A4 d1 d2 d3 d4 Pl.f0 w hf nN hc Pl.oZ
 have hl:(Pl.nature Pl.f0.st.length Pl.f0.li.length).length=10:=Pl.BK.1
 rw[hl]at h
 exact h
theorem zG (A1 A2 A3 A4:Option Addr)(d1 d2 d3 d4:Nat)(w:World)(_hE:Env w)(hf:bB w w.heap.size A1 A2 A3 A4 Pl.f0)(hc:dY d1 d2 d3 d4 Pl.f0)(A:Option Addr)(c:Nat)(hy:Ints w w.heap.size A [0,100,100,150,150]):Calls prog 54 #[.agg #[.slice A1 2 d1,.slice A2 2 d2,.slice A3 1 d3,.slice A4 1 d4],.int .i64 0,.int .i64 120,.slice A 5 c] w fun e w'=>e=.returned (.tuple (i2 0 0))∧Below w.heap.size w w':=by
 have h:=TD A1 A2 A3 A4 d1 d2 d3 d4 Pl.f0 0 120 A c [0,100,100,150,150] w hf nN hc Pl.oZ hy (by decide)
 rw[Pl.Vz]at h
 exact h
theorem Xe :Pl.aM Pl.f0 Pl.c1=0:=by unfold Pl.aM;rw[if_pos Pl.oZ,Pl.Rz]
theorem bk1 (A1 A2 A3 A4:Option Addr)(d1 d2 d3 d4:Nat)(w:World)(_hE:Env w)(hf:bB w w.heap.size A1 A2 A3 A4 Pl.f0)(hc:dY d1 d2 d3 d4 Pl.f0):Calls prog 66 #[.agg #[.slice A1 2 d1,.slice A2 2 d2,.slice A3 1 d3,.slice A4 1 d4],.agg (bR 3 0 0 0 1 0 0 50 2 1000 1750 0 100)] w fun e w'=>e=.returned (.tuple #[.agg (bR 3 0 0 1 0 0 0 230 2 1000 1750 0 100),.int .i64 0])∧Below w.heap.size w w':=by
 have h:=Rt A1 A2 A3 A4 d1 d2 d3 d4 Pl.f0 Pl.c1 w hf nN hc (by decide)
 rw[Pl.mg,if_pos Xe,Xe,Pl.TB]at h
 exact h
theorem VD :Pl.nL (fun(_:Unit) _ _=>(none:Option Unit)) 0 () ((Pl.splitV 10 Pl.Ry).map Pl.aW)=.inr ((),1,[⟨#[115,116,111,110,101]⟩,⟨#[119,97,108,108]⟩,⟨#[97,115,104]⟩,⟨#[49]⟩,⟨#[48]⟩]):=by kernel_rfl
theorem YJ (A1 A2 A3 A4:Option Addr)(d1 d2 d3 d4:Nat)(w:World)(hE:Env w)(hf:bB w w.heap.size A1 A2 A3 A4 Pl.f0)(hc:dY d1 d2 d3 d4 Pl.f0):Calls prog 24 #[.agg #[.slice A1 2 d1,.slice A2 2 d2,.slice A3 1 d3,.slice A4 1 d4],.string Pl.Ry] w fun e w'=>e=.returned (.tuple #[.slice none 0 0,.agg (i2 4 1)])∧Below w.heap.size w w':=
 uo A1 A2 A3 A4 d1 d2 d3 d4 Pl.f0 Pl.Ry w hE hf nN hc (by decide) Pl.oZ 1 _ VD (by decide)
theorem VE (A1 A2 A3 A4:Option Addr)(d1 d2 d3 d4:Nat)(w:World)(_hE:Env w)(hf:bB w w.heap.size A1 A2 A3 A4 Pl.f0)(hc:dY d1 d2 d3 d4 Pl.f0):Calls prog 35 #[.agg #[.slice A1 2 d1,.slice A2 2 d2,.slice A3 1 d3,.slice A4 1 d4]] w fun e w'=>e=.returned (.int .i64 5)∧Below w.heap.size w w':=
 JK A1 A2 A3 A4 d1 d2 d3 d4 Pl.f0 w hf nN hc Pl.oZ
theorem VF (A1 A2 A3 A4:Option Addr)(c1 c2 c3 c4:Nat)(w:World):
  ∃W2 W3,(storeVar 28 ⟨w.heap.size,0,none⟩ (.agg #[.slice A1 2 c1,.slice A2 2 c2,.slice A3 1 c3,.slice A4 1 c4])).run prog ((w.alloc (.cells #[.slice none 0 0,.slice none 0 0,.slice none 0 0,.slice none 0 0] 28)).alloc (.cells (i2 0 0) 31))=.ok () W2∧
   (storeVar 31 ⟨w.heap.size+1,0,none⟩ (.agg (i2 0 0))).run prog W2=.ok () W3∧
   W3.heap[w.heap.size]?=some (.cells #[.slice A1 2 c1,.slice A2 2 c2,.slice A3 1 c3,.slice A4 1 c4] 28 (0,0))∧W3.heap[w.heap.size+1]?=some (.cells (i2 0 0) 31 (0,0))∧Below w.heap.size w W3:=by
 have ko:=heap_alloc2_old w (.cells #[.slice none 0 0,.slice none 0 0,.slice none 0 0,.slice none 0 0] 28) (.cells (i2 0 0) 31)
 have kn:=heap_alloc2_new w (.cells #[.slice none 0 0,.slice none 0 0,.slice none 0 0,.slice none 0 0] 28) (.cells (i2 0 0) 31)
 have hb:Below w.heap.size w ((w.alloc (.cells #[.slice none 0 0,.slice none 0 0,.slice none 0 0,.slice none 0 0] 28)).alloc (.cells (i2 0 0) 31)):=((Below.refl _ w).alloc (Nat.le_refl _) _).alloc (by simp) _
 obtain⟨W2,st2,k2,hg2⟩:=aG _ w.heap.size _ 28 _ #[.slice A1 2 c1,.slice A2 2 c2,.slice A3 1 c3,.slice A4 1 c4] ko av rfl (by simp[Value.oneCell'])
 have YK:=(hg2.block _ (lO kn) (by simp)).trans kn
 obtain⟨W3,Qe,k3,hg3⟩:=aG W2 (w.heap.size+1) _ 31 _ (i2 0 0) YK j_ rfl (by simp[Value.oneCell'])
 exact⟨W2,W3,st2,Qe,(hg3.block _ (lO k2) (by simp)).trans k2,k3,(hb.grown hg2 hb.size (fun k e=>by cases e;omega)).grown hg3 (by have:=hb.size;have:=hg2.size;omega) (fun k e=>by cases e;omega)⟩
theorem RA (cs:Array Value)(hs:cs.size=13)(h1:cs.all (·.oneCell')=true)(w:World):
  ∃W,(storeVar 48 ⟨w.heap.size,0,none⟩ (.agg cs)).run prog (w.alloc (.cells bP 48))=.ok () W∧W.heap[w.heap.size]?=some (.cells cs 48 (0,0))∧Below w.heap.size w W:=by
 have kn:=heap_alloc_new w (.cells bP 48)
 have hb:Below w.heap.size w (w.alloc (.cells bP 48)):=(Below.refl _ w).alloc (Nat.le_refl _) _
 obtain⟨W2,st2,k2,hg2⟩:=aG _ w.heap.size _ 48 _ cs kn (by rw[hs];exact aj) (by rw[hs];rfl) h1
 exact⟨W2,st2,k2,hb.grown hg2 hb.size (fun k e=>by cases e;omega)⟩
theorem TJ (u:World):Ints (u.alloc (.cells (i5 0 100 100 150 150) 3)) (u.alloc (.cells (i5 0 100 100 150 150) 3)).heap.size (some ⟨u.heap.size,0,none⟩) [0,100,100,150,150]:=by
 refine .inr ⟨_,0,rfl,by simp,fun k x hk j v hv=> ?_⟩
 rw[(ah (heap_alloc_new u (.cells (i5 0 100 100 150 150) 3))).1]
 match k,j,hk,hv with
 |0,0,hk,hv=>simp at hk;subst hk;simpa [jK]using hv
 |1,0,hk,hv=>simp at hk;subst hk;simpa [jK]using hv
 |2,0,hk,hv=>simp at hk;subst hk;simpa [jK]using hv
 |3,0,hk,hv=>simp at hk;subst hk;simpa [jK]using hv
 |4,0,hk,hv=>simp at hk;subst hk;simpa [jK]using hv
 |k+5,_,hk,_=>simp at hk
 |_,j+1,_,hv=>simp[jK]at hv
theorem VG (a b:Int)(w:World):
  ∃W,(storeVar 31 ⟨w.heap.size,0,none⟩ (.agg (i2 a b))).run prog (w.alloc (.cells (i2 0 0) 31))=.ok () W∧W.heap[w.heap.size]?=some (.cells (i2 a b) 31 (0,0))∧Below w.heap.size w W:=by
 have kn:=heap_alloc_new w (.cells (i2 0 0) 31)
 have hb:Below w.heap.size w (w.alloc (.cells (i2 0 0) 31)):=(Below.refl _ w).alloc (Nat.le_refl _) _
 obtain⟨W2,st2,k2,hg2⟩:=aG _ w.heap.size _ 31 _ (i2 a b) kn j_ rfl (by simp[Value.oneCell'])
 exact⟨W2,st2,k2,hb.grown hg2 hb.size (fun k e=>by cases e;omega)⟩
theorem TK (W:World):(Op.equalIn 10000 31 (.agg (i2 0 0)) (.agg (i2 0 0))).run prog W=.ok true W:=by kernel_rfl
theorem TM (W:World):(Op.equalIn 10000 31 (.agg (i2 4 1)) (.agg (i2 4 1))).run prog W=.ok true W:=by kernel_rfl
theorem TN (W:World):(Op.equalIn 10000 99 (.agg (i4 1 2 519 7)) (.agg (i4 1 2 519 7))).run prog W=.ok true W:=by kernel_rfl
theorem TP (W:World):(Op.equalIn 10000 99 (.agg (i4 2 1 (-480) 7)) (.agg (i4 2 1 (-480) 7))).run prog W=.ok true W:=by kernel_rfl
theorem TQ (W:World):(Op.equalIn 10000 99 (.agg (i4 2 0 (-248) 7)) (.agg (i4 2 0 (-248) 7))).run prog W=.ok true W:=by kernel_rfl
theorem TR (W:World):(Op.equalIn 10000 99 (.agg (i4 4 2 0 0)) (.agg (i4 4 2 0 0))).run prog W=.ok true W:=by kernel_rfl
theorem Me {W:World}{B:Nat}{X:Option Addr}{l:List Pl.Bd}(h:Seg gP 4 W B X l)(hne:l≠ []): ∃b off,X=some ⟨b,off,none⟩∧ ∀k x,l[k]?=some x->
  (loadVar 99 ⟨b,off+k*4,none⟩).run prog W=.ok (.agg (i4 (x.fr:Int) (x.till:Int) x.most x.record)) W:=by
 rcases h with h|⟨b,off,rfl,hlt,hc⟩
 ·exact absurd h hne
 ·refine⟨b,off,rfl,fun k x hk=> ?_⟩
  refine run_loadVar_mid W b (off+k*4) _ [.int .i64 (x.fr:Int),.int .i64 (x.till:Int),.int .i64 x.most,.int .i64 x.record] _ (fun j v hv=> ?_) underlying99 rfl (by kernel_rfl)
  exact hc k x hk j v (by simpa [gP]using hv)
theorem yc (w:World)(hE:Env w):Calls prog 18 #[] w fun e w'=>e=.returned (.bool true)∧Below w.heap.size w w':=by
 have hp:=YC w hE
 unfold Pl.Pf Ru Pl.f0 at hp
 go_enter func18,ntmps18
 go_wp2_with fail
 refine hp.mono ?_;rintro e w1 ⟨A1,c1,A2,c2,A3,c3,A4,c4,rfl,hf,hc,hx⟩;obtain⟨W2,W3,st2,Qe,kF,kT,hb3⟩:=VF A1 A2 A3 A4 c1 c2 c3 c4 w1;have l3:=ak kF underlying28 rfl av;have o7:=hf.up hb3;have ow:=(hE.up hx).up hb3;have hA:Below w.heap.size w W3:=hx.trans (hb3.mono hx.size)
 go_wp2_with fail
 refine(YD A1 A2 A3 A4 c1 c2 c3 c4 _ ow o7 hc).mono ?_;rintro e u ⟨rfl,hx⟩;(try have kF:=(hx.block _ (lO kF)).trans kF);(try have kT:=(hx.block _ (lO kT)).trans kT);(try have kC:=(hx.block _ (lO kC)).trans kC);(try have kD:=(hx.block _ (lO kD)).trans kD);(try have kB:=(hx.block _ (lO kB)).trans kB);have hA:=hA.trans (hx.mono hA.size);have o7:=o7.up hx;have ow:=ow.up hx;(try have hS1:=hS1.up hx);(try have hS2:=hS2.up hx);(try have vG:=vG.up hx);obtain⟨ZV,YL,kC,hx⟩:=RA (bR 3 0 0 0 1 0 0 50 2 1000 1750 0 100) (by rfl) (by simp[Value.oneCell']) u;(try have kF:=(hx.block _ (lO kF)).trans kF);(try have kT:=(hx.block _ (lO kT)).trans kT);(try have kC:=(hx.block _ (lO kC)).trans kC);(try have kD:=(hx.block _ (lO kD)).trans kD);(try have kB:=(hx.block _ (lO kB)).trans kB);have hA:=hA.trans (hx.mono hA.size);have o7:=o7.up hx;have ow:=ow.up hx;(try have hS1:=hS1.up hx);(try have hS2:=hS2.up hx);(try have vG:=vG.up hx);have lF:=ak kF underlying28 rfl av;(try have RB:=ak kC underlying48 rfl aj);(try have UF:=ak kD underlying48 rfl aj)
 go_wp2_with fail
 refine(YH A1 A2 A3 A4 c1 c2 c3 c4 _ ow o7 hc).mono ?_;rintro e u ⟨X1,x1,rfl,hS1,_,_,hx⟩;(try have kF:=(hx.block _ (lO kF)).trans kF);(try have kT:=(hx.block _ (lO kT)).trans kT);(try have kC:=(hx.block _ (lO kC)).trans kC);(try have kD:=(hx.block _ (lO kD)).trans kD);(try have kB:=(hx.block _ (lO kB)).trans kB);have hA:=hA.trans (hx.mono hA.size);have o7:=o7.up hx;have ow:=ow.up hx;(try have hS2:=hS2.up hx);(try have vG:=vG.up hx);have lF:=ak kF underlying28 rfl av;(try have RB:=ak kC underlying48 rfl aj);(try have UF:=ak kD underlying48 rfl aj)
 go_wp2_with fail
 refine(YE A1 A2 A3 A4 c1 c2 c3 c4 _ ow o7 hc).mono ?_;rintro e u ⟨rfl,hx⟩;(try have kF:=(hx.block _ (lO kF)).trans kF);(try have kT:=(hx.block _ (lO kT)).trans kT);(try have kC:=(hx.block _ (lO kC)).trans kC);(try have kD:=(hx.block _ (lO kD)).trans kD);(try have kB:=(hx.block _ (lO kB)).trans kB);have hA:=hA.trans (hx.mono hA.size);have o7:=o7.up hx;have ow:=ow.up hx;(try have hS1:=hS1.up hx);(try have hS2:=hS2.up hx);(try have vG:=vG.up hx);obtain⟨ZW,YM,kD,hx⟩:=RA (ka 1 0 0 1 0 250 2) (by rfl) (by simp[Value.oneCell']) u;(try have kF:=(hx.block _ (lO kF)).trans kF);(try have kT:=(hx.block _ (lO kT)).trans kT);(try have kC:=(hx.block _ (lO kC)).trans kC);(try have kD:=(hx.block _ (lO kD)).trans kD);(try have kB:=(hx.block _ (lO kB)).trans kB);have hA:=hA.trans (hx.mono hA.size);have o7:=o7.up hx;have ow:=ow.up hx;(try have hS1:=hS1.up hx);(try have hS2:=hS2.up hx);(try have vG:=vG.up hx);have lF:=ak kF underlying28 rfl av;(try have RB:=ak kC underlying48 rfl aj);(try have UF:=ak kD underlying48 rfl aj)
 go_wp2_with fail
 refine(YI A1 A2 A3 A4 c1 c2 c3 c4 _ ow o7 hc).mono ?_;rintro e u ⟨X2,x2,rfl,hS2,_,_,hx⟩;(try have kF:=(hx.block _ (lO kF)).trans kF);(try have kT:=(hx.block _ (lO kT)).trans kT);(try have kC:=(hx.block _ (lO kC)).trans kC);(try have kD:=(hx.block _ (lO kD)).trans kD);(try have kB:=(hx.block _ (lO kB)).trans kB);have hA:=hA.trans (hx.mono hA.size);have o7:=o7.up hx;have ow:=ow.up hx;(try have hS1:=hS1.up hx);(try have vG:=vG.up hx);have lF:=ak kF underlying28 rfl av;(try have RB:=ak kC underlying48 rfl aj);(try have UF:=ak kD underlying48 rfl aj)
 go_wp2_with fail
 refine(VB A1 A2 A3 A4 c1 c2 c3 c4 _ ow o7 hc).mono ?_;rintro e u ⟨X3,x3,rfl,vG,_,hx⟩;(try have kF:=(hx.block _ (lO kF)).trans kF);(try have kT:=(hx.block _ (lO kT)).trans kT);(try have kC:=(hx.block _ (lO kC)).trans kC);(try have kD:=(hx.block _ (lO kD)).trans kD);(try have kB:=(hx.block _ (lO kB)).trans kB);have hA:=hA.trans (hx.mono hA.size);have o7:=o7.up hx;have ow:=ow.up hx;(try have hS1:=hS1.up hx);(try have hS2:=hS2.up hx);have lF:=ak kF underlying28 rfl av;(try have RB:=ak kC underlying48 rfl aj);(try have UF:=ak kD underlying48 rfl aj)
 go_wp2_with fail
 have hx:Below u.heap.size u (u.alloc (.cells (i5 0 100 100 150 150) 3)):=(Below.refl _ u).alloc (Nat.le_refl _) _
 have Sc:=TJ u
 (try have kF:=(hx.block _ (lO kF)).trans kF);(try have kT:=(hx.block _ (lO kT)).trans kT);(try have kC:=(hx.block _ (lO kC)).trans kC);(try have kD:=(hx.block _ (lO kD)).trans kD);(try have kB:=(hx.block _ (lO kB)).trans kB);have hA:=hA.trans (hx.mono hA.size);have o7:=o7.up hx;have ow:=ow.up hx;(try have hS1:=hS1.up hx);(try have hS2:=hS2.up hx);(try have vG:=vG.up hx)
 refine(zG A1 A2 A3 A4 c1 c2 c3 c4 _ ow o7 hc _ 5 Sc).mono ?_
 clear Sc
 rintro e u ⟨rfl,hx⟩
 (try have kF:=(hx.block _ (lO kF)).trans kF);(try have kT:=(hx.block _ (lO kT)).trans kT);(try have kC:=(hx.block _ (lO kC)).trans kC);(try have kD:=(hx.block _ (lO kD)).trans kD);(try have kB:=(hx.block _ (lO kB)).trans kB);have hA:=hA.trans (hx.mono hA.size);have o7:=o7.up hx;have ow:=ow.up hx;(try have hS1:=hS1.up hx);(try have hS2:=hS2.up hx);(try have vG:=vG.up hx);have lF:=ak kF underlying28 rfl av;(try have RB:=ak kC underlying48 rfl aj);(try have Xf:=ak kB underlying48 rfl aj)
 go_wp2_with fail
 refine(bk1 A1 A2 A3 A4 c1 c2 c3 c4 _ ow o7 hc).mono ?_
 rintro e u ⟨rfl,hx⟩
 (try have kF:=(hx.block _ (lO kF)).trans kF);(try have kT:=(hx.block _ (lO kT)).trans kT);(try have kC:=(hx.block _ (lO kC)).trans kC);(try have kD:=(hx.block _ (lO kD)).trans kD);(try have kB:=(hx.block _ (lO kB)).trans kB);have hA:=hA.trans (hx.mono hA.size);have o7:=o7.up hx;have ow:=ow.up hx;(try have hS1:=hS1.up hx);(try have hS2:=hS2.up hx);(try have vG:=vG.up hx);obtain⟨ZX,YN,kB,hx⟩:=RA (bR 3 0 0 1 0 0 0 230 2 1000 1750 0 100) (by rfl) (by simp[Value.oneCell']) u;(try have kF:=(hx.block _ (lO kF)).trans kF);(try have kT:=(hx.block _ (lO kT)).trans kT);(try have kC:=(hx.block _ (lO kC)).trans kC);(try have kD:=(hx.block _ (lO kD)).trans kD);(try have kB:=(hx.block _ (lO kB)).trans kB);have hA:=hA.trans (hx.mono hA.size);have o7:=o7.up hx;have ow:=ow.up hx;(try have hS1:=hS1.up hx);(try have hS2:=hS2.up hx);(try have vG:=vG.up hx);have lF:=ak kF underlying28 rfl av;(try have RB:=ak kC underlying48 rfl aj);(try have Xf:=ak kB underlying48 rfl aj)
 go_wp2_with fail
 refine(YJ A1 A2 A3 A4 c1 c2 c3 c4 _ ow o7 hc).mono ?_
 rintro e u ⟨rfl,hx⟩
 (try have kF:=(hx.block _ (lO kF)).trans kF);(try have kT:=(hx.block _ (lO kT)).trans kT);(try have kC:=(hx.block _ (lO kC)).trans kC);(try have kD:=(hx.block _ (lO kD)).trans kD);(try have kB:=(hx.block _ (lO kB)).trans kB);have hA:=hA.trans (hx.mono hA.size);have o7:=o7.up hx;have ow:=ow.up hx;(try have hS1:=hS1.up hx);(try have hS2:=hS2.up hx);(try have vG:=vG.up hx);have lF:=ak kF underlying28 rfl av;(try have RB:=ak kC underlying48 rfl aj);(try have Xf:=ak kB underlying48 rfl aj)
 obtain⟨ZY,YO,kE,hx⟩:=VG 4 1 u
 (try have kF:=(hx.block _ (lO kF)).trans kF);(try have kT:=(hx.block _ (lO kT)).trans kT);(try have kC:=(hx.block _ (lO kC)).trans kC);(try have kD:=(hx.block _ (lO kD)).trans kD);(try have kB:=(hx.block _ (lO kB)).trans kB);have hA:=hA.trans (hx.mono hA.size);have o7:=o7.up hx;have ow:=ow.up hx;(try have hS1:=hS1.up hx);(try have hS2:=hS2.up hx);(try have vG:=vG.up hx)
 have q1:=TK;have q2:=TM;have q3:=TN;have q4:=TP;have q5:=TQ;have q6:=TR
 have lE:=ak kE underlying31 rfl j_
 have lT:=ak kT underlying31 rfl j_
 have lF:=ak kF underlying28 rfl av
 obtain⟨b1,o1,rfl,g1⟩:=Me hS1 (by simp)
 obtain⟨b2,o2,rfl,g2⟩:=Me hS2 (by simp)
 obtain⟨b3,o3,rfl,g3⟩:=Me vG (by intro h;have:=Pl.BK.1;rw[show Pl.nature Pl.f0.st.length Pl.f0.li.length=Pl.nature 2 2 from rfl,h]at this;cases this)
 have g10:=g1 0 _ rfl
 have g11:=g1 1 _ rfl
 have g21:=g2 1 _ rfl
 have YP:=g3 9 _ Pl.BK.2
 simp only[Nat.zero_mul,Nat.add_zero,Nat.one_mul,Nat.reduceMul,Int.cast_ofNat_Int]at g10 g11 g21 YP
 clear g1 g2 g3
 obtain⟨hcB,hfB⟩:=ah kB
 go_wp2_with fail
 refine(VE A1 A2 A3 A4 c1 c2 c3 c4 _ ow o7 hc).mono ?_
 rintro e u ⟨rfl,hx⟩
 go_wp2_with fail
 go_ret
 exact⟨rfl,hA.trans (hx.mono hA.size)⟩
