/- Proved: parts of the walk. -/
import Derived.Test.YtgbpekeoegfjpaaGreatDoorVRE
set_option maxRecDepth 100000
set_option maxHeartbeats 8000000
namespace Go.Proofs
open Tryz RowKit Shelf
attribute [local go_sem] Oper.semAt_some
attribute [-go_sem] storeVar
namespace Pl
noncomputable def aAr (f:aL)(ds:List j6)(_k:Nat)(ws:List ByteArray):Option (List j6):=match dn f ds ws with
 | .ok a=>some a
 | .error _=>Option.none
theorem aAY {f:aL}{ds a:List j6}{k:Nat}{ws:List ByteArray}(h:dn f ds ws=.ok a):aAr f ds k ws=some a:=by unfold aAr;rw[h]
theorem aAZ {f:aL}{ds:List j6}{k:Nat}{ws:List ByteArray}{E:Int}(h:dn f ds ws=.error E):aAr f ds k ws=Option.none:=by unfold aAr;rw[h]
theorem aAK {f:aL}{x:kZ}{y E:Int}(h:jF f x y=.error E):E≠0:=by
 unfold jF at h
 split at h
 ·split at h
  ·cases h
  ·rename_i hne
   cases h
   exact hne
 ·cases h
  decide
theorem aAQ {f:aL}{ds:List j6}{ws:List ByteArray}{E:Int}(h:dn f ds ws=.error E):E≠0:=by
 unfold dn at h
 split at h
 ·split at h
  ·split at h
   ·split at h
    ·cases h;decide
    ·split at h
     ·cases h;decide
     ·split at h
      ·cases h;decide
      ·cases h
   ·cases h;decide
  ·cases h;decide
 ·split at h
  ·cases h;decide
  ·split at h
   ·cases h;decide
   ·split at h
    ·cases h;decide
    ·split at h
     ·rename_i hm
      cases h
      exact aAK hm
     ·cases h
theorem aAm (f:aL): ∀(L:List (List ByteArray)) (ds:List j6) (n:Nat),DJ f ds n L=(match nL (aAr f) n ds L with
  | .inl a=>(a,0,0)
  | .inr (s,k,ws)=>match dn f s ws with
   | .ok _=>([],0,(k:Int))
   | .error E=>([],E,(k:Int)))
 | [],ds,n=>rfl
 | ws::L,ds,n=>by
  unfold DJ
  by_cases h:ws=[]
  ·subst h
   rw[if_pos rfl,Gd]
   exact aAm f L ds (n+1)
  ·rw[if_neg h]
   cases hl:dn f ds ws with
   |ok a=>
    rw[O_ h (aAY hl)]
    exact aAm f L a (n+1)
   |error E=>
    rw[Iu h (aAZ hl)]
    simp[hl]
end Pl
abbrev aAB := @Seg Pl.aZ aAk 13
structure aAc (w:World)(B:Nat)(A:Option Addr)(l:List (Pl.j6×Option Addr×Nat)):Prop where
 row:Dds w B A l
 own: ∀x∈l,aAB w B x.2.1 x.1.calls
theorem HY.aCw {bd:Nat}{l:List (Pl.j6×Option Addr×Nat)}{W:World}{v:Value}(h:HY bd l W v): ∃A c,v=.slice A l.length c∧aAc W W.heap.size A l∧l.length<=c:=by
 obtain⟨A,c,hv,hs,hc,_⟩:=dQ Q5 h.row
 refine⟨A,c,hv,⟨hs,fun x hx=> ?_⟩,hc⟩
 obtain⟨A',c',hv',hs',_⟩:=dQ aAu (h.own x hx)
 have:x.2.1=A':=by unfold slv at hv';cases hv';rfl
 rw[this]
 exact hs'
def aA0 (r:List Pl.j6×Int×Int)(w:World)(e:Ending)(w':World):Prop:=
 ∃l A c,l.map (·.1)=r.1∧e=.returned (.tuple #[.slice A l.length c,.agg (i2 r.2.1 r.2.2)])∧aAc w' w'.heap.size A l∧l.length<=c∧Below w.heap.size w w'
structure DG (A1 A2 A3 A4:Option Addr)(c1 c2 c3 c4:Nat)(f:Pl.aL)(w:World)(N:Nat)(src:ByteArray)(ds:List Pl.j6)(W:World):Prop where
 below:Below w.heap.size w W
 lt:w.heap.size+3<=N
 sz:N+4<=W.heap.size
 kf:W.heap[w.heap.size]?=some (.cells (fq A1 A2 A3 A4 c1 c2 c3 c4 f) 28 (0,0))
 r1:W.heap[w.heap.size+1]?=some (.cells #[.slice none 0 0] 38 (0,0))
 r2:W.heap[w.heap.size+2]?=some (.cells (i2 0 0) 31 (0,0))
 dd: ∃l v,l.map (·.1)=ds∧HY N l W v∧ ∀i,Dx N v l i->i=N∨N+5<=i
 ks:W.heap[N+1]?=some (.cells #[.string src] 9 (0,0))
section
variable {A1 A2 A3 A4 : Option Addr} {c1 c2 c3 c4 : Nat} {f : Pl.aL} {w : World} {N : Nat} {src : ByteArray} {ds : List Pl.j6} {W W' : World}
theorem DG.grow (h:DG A1 A2 A3 A4 c1 c2 c3 c4 f w N src ds W)(hb:Below W.heap.size W W'):DG A1 A2 A3 A4 c1 c2 c3 c4 f w N src ds W':=by
 obtain⟨h1,h2,h3,h4,h5,h6,⟨l,v,hl,hD,hx⟩,h8⟩:=h
 exact⟨h1.trans (hb.mono h1.size),h2,Nat.le_trans h3 hb.size,(hb.block _ (by omega)).trans h4,(hb.block _ (by omega)).trans h5,(hb.block _ (by omega)).trans h6,⟨l,v,hl,hD.below hb,hx⟩,(hb.block _ (by omega)).trans h8⟩
theorem DG.put {o:Obj}(h:DG A1 A2 A3 A4 c1 c2 c3 c4 f w N src ds W):DG A1 A2 A3 A4 c1 c2 c3 c4 f w N src ds (W.putObj (N+3) o):=by
 obtain⟨h1,h2,h3,h4,h5,h6,⟨l,v,hl,hD,hx⟩,h8⟩:=h
 have hg:=grownBy_putObj' W (N+3) o
 exact⟨h1.grown hg h1.size (fun k e=>by cases e;omega),h2,by have:=hg.size;omega,(World.putObj_heap_other (by omega)).trans h4,(World.putObj_heap_other (by omega)).trans h5,(World.putObj_heap_other (by omega)).trans h6,
  ⟨l,v,hl,hD.kept hg (fun e=>by have:=hx _ e;omega),hx⟩,(World.putObj_heap_other (by omega)).trans h8⟩
theorem DG.next {l:List (Pl.j6×Option Addr×Nat)}{v:Value}(h:DG A1 A2 A3 A4 c1 c2 c3 c4 f w N src ds W)(h5:N+5<=W.heap.size)(hx: ∀i,Dx N v l i->i=N∨N+5<=i)(hB:aU N (Dx N v l) W W'){ds':List Pl.j6}{l':List (Pl.j6×Option Addr×Nat)}{v':Value}(hl:l'.map (·.1)=ds')(hD:HY N l' W' v')
  (hN: ∀i,Dx N v' l' i->Dx N v l i∨W.heap.size<=i):DG A1 A2 A3 A4 c1 c2 c3 c4 f w N src ds' W':=by
 obtain⟨g1,g2,g3,g4,g5,g6,_,g8⟩:=h
 refine⟨g1.trans (hB.b.mono (by omega)),g2,by have:=hB.b.size;omega,(hB.b.block _ (by omega)).trans g4,(hB.b.block _ (by omega)).trans g5,(hB.b.block _ (by omega)).trans g6,⟨l',v',hl,hD,fun i hi=> ?_⟩,(hB.k _ (by omega) (fun e=>by have:=hx _ e;omega)).trans g8⟩
 rcases hN i hi with h|h
 ·exact hx i h
 ·exact .inr (by omega)
end
structure SD where
 ds:List Pl.j6
 on:Bool
 pend:Option LX
structure JD (A1 A2 A3 A4:Option Addr)(c1 c2 c3 c4:Nat)(f:Pl.aL)(w:World)(N:Nat)(src:ByteArray)(s:SD)(W:World):Prop where
 di:DG A1 A2 A3 A4 c1 c2 c3 c4 f w N src s.ds W
 off:s.on=false->W.heap.size=N+4
 row:s.on=true->W.heap[N+4]?=some (.cells ((Pl.splitV 10 src).map Value.string).toArray 9 (0,0))
 pend: ∀x,s.pend=some x->d9 W W.heap.size (some ⟨x.2.1,0,none⟩) x.2.2.2∧x.2.2.2.length<=x.2.2.1∧dK x.2.2.2∧x.2.2.2≠ []
theorem JD.put {A1 A2 A3 A4:Option Addr}{c1 c2 c3 c4:Nat}{f:Pl.aL}{w:World}{N:Nat}{src:ByteArray}{s:SD}{W:World}{r:Loop}(r':Loop)(h:JD A1 A2 A3 A4 c1 c2 c3 c4 f w N src s W)(hl:W.heap[N+3]?=some (.loop r)):JD A1 A2 A3 A4 c1 c2 c3 c4 f w N src s (W.putObj (N+3) (.loop r')):=by
 obtain⟨h1,h2,h3,h4⟩:=h
 have hs:(W.putObj (N+3) (.loop r')).heap.size=W.heap.size:=by simp[World.putObj]
 refine⟨h1.put,fun e=>hs.trans (h2 e),fun e=>(World.putObj_heap_other (by omega)).trans (h3 e),fun x hx=> ?_⟩
 obtain⟨q1,q2⟩:=h4 x hx
 rw[hs]
 have hlt:=(lO hl)
 refine⟨q1.keep fun p hp=> ?_,q2⟩
 by_cases e:p.block=N+3
 ·have e1:(W.putObj (N+3) (.loop r')).heap[p.block]?=some (.loop r'):=by rw[e];exact World.putObj_heap_same hlt
  have e2:W.heap[p.block]?=some (.loop r):=by rw[e];exact hl
  simp[World.cell?,e1,e2]
 ·exact World.cell?_of_block (World.putObj_heap_other (by omega))
noncomputable def aBi (f:Pl.aL)(s:SD)(x:LX):Option SD:=match Pl.dn f s.ds x.2.2.2 with
 | .ok a=>some ⟨a,true,none⟩
 | .error _=>none
structure XE (w:World)(N:Nat)(E:Int)(x:LX)(W:World):Prop where
 below:Below w.heap.size w W
 lt:w.heap.size+3<=N
 r1:W.heap[w.heap.size+1]?=some (.cells #[.slice none 0 0] 38 (0,0))
 r2:W.heap[w.heap.size+2]?=some (.cells (i2 E (x.1:Int)) 31 (0,0))
def IxD (f:Pl.aL)(w:World)(N:Nat)(s:SD)(x:LX)(W:World):Prop:= ∃E,Pl.dn f s.ds x.2.2.2=.error E∧XE w N E x W
theorem IxD.put {f:Pl.aL}{w:World}{N:Nat}{s:SD}{x:LX}{W:World}{o':Obj}(h:IxD f w N s x W):IxD f w N s x (W.putObj (N+3) o'):=by
 obtain⟨E,h0,h1,hl,h3,h4⟩:=h
 exact⟨E,h0,h1.grown (grownBy_putObj' W (N+3) o') h1.size (fun k e=>by cases e;omega),hl,(World.putObj_heap_other (by omega)).trans h3,(World.putObj_heap_other (by omega)).trans h4⟩
theorem aAR (A1 A2 A3 A4:Option Addr)(c1 c2 c3 c4:Nat)(f:Pl.aL)(src:ByteArray)(w:World)(CZ:Env w)(hf:bB w w.heap.size A1 A2 A3 A4 f)(hm:Small f)(hc:dY c1 c2 c3 c4 f)(hs:src.size<=20000)(hE:Pl.aR f=0):Calls prog 24 #[.agg (fq A1 A2 A3 A4 c1 c2 c3 c4 f),.string src] w (aA0 (Pl.dz f src) w):=by
 have hP:Hid (Pl.dz f src=(match Pl.nL (Pl.aAr f) 0 [] ((Pl.splitV 10 src).map Pl.aW)with
  | .inl a=>(a,0,0)
  | .inr (s,k,ws)=>match Pl.dn f s ws with
   | .ok _=>([],0,(k:Int))
   | .error E=>([],E,(k:Int)))):=Lib.hid (by
  unfold Pl.dz
  rw[if_neg (fun h=>h hE),if_neg (by omega),Pl.sI]
  exact Pl.aAm f _ [] 0)
 have hE0:=hE
 have HE:=Lib.hid hE
 clear hE
 refine(callsIn_wide (n:=3)).1 ?_
 refine callsIn_of_wp_marks func24 rfl trivial ?_ rfl
 simp only[ntmps24,List.size_toArray,List.length_cons,List.length_nil,Nat.reduceAdd,Nat.reduceSub,Array.replicate_succ,Array.replicate_zero,List.push_toArray,List.append_toArray,List.nil_append,List.cons_append]
 have kf:=heap_alloc2_old w (.cells (fq A1 A2 A3 A4 c1 c2 c3 c4 f) 28) (.cells #[.slice none 0 0] 38)
 have um:=heap_alloc2_new w (.cells (fq A1 A2 A3 A4 c1 c2 c3 c4 f) 28) (.cells #[.slice none 0 0] 38)
 have nZ:=heap_alloc_new ((w.alloc (.cells (fq A1 A2 A3 A4 c1 c2 c3 c4 f) 28)).alloc (.cells #[.slice none 0 0] 38)) (.cells (i2 0 0) 31)
 simp only[World.size_alloc]at nZ
 have kf:=(Below.heap_alloc _ (.cells (i2 0 0) 31) _ (lO kf)).trans kf
 have um:=(Below.heap_alloc _ (.cells (i2 0 0) 31) _ (lO um)).trans um
 have hb0:Below w.heap.size w (((w.alloc (.cells (fq A1 A2 A3 A4 c1 c2 c3 c4 f) 28)).alloc (.cells #[.slice none 0 0] 38)).alloc (.cells (i2 0 0) 31)):=(((Below.refl _ w).alloc (Nat.le_refl _) _).alloc (by simp) _).alloc (by simp only[World.size_alloc];omega) _
 gi_wp2_with (first
  |(refine⟨trivial,?_⟩;gi_at_call 22;refine(callsIn_wide.2 (bX A1 A2 A3 A4 c1 c2 c3 c4 f 0 _ HE (hf.up hb0) hm hc)).mono ?_;rintro e w1 ⟨rfl,hx⟩;have kf:=kE hx kf;have um:=kE hx um;have nZ:=kE hx nZ;have hb1:Below w.heap.size w w1:=hb0.trans (hx.mono hb0.size)))
 refine⟨trivial,?_⟩
 refine(callsIn_wide.2 (Iy _ _)).mono ?_
 rintro e w' ⟨rfl,rfl⟩
 gi_wp2_with fail
 have hnz:w.heap.size+3<=w1.heap.size:=by have:=(lO nZ);omega
 obtain⟨W0,hW0⟩: ∃W0,(w1.alloc (.cells #[.slice none 0 0] 38)).alloc (.cells #[.string src] 9)=W0:=⟨_,rfl⟩
 obtain⟨N,hN⟩: ∃N,w1.heap.size=N:=⟨_,rfl⟩
 have hs0:W0.heap.size=N+2:=by rw[<-hW0,<-hN];simp
 have hx0:Below w1.heap.size w1 W0:=by rw[<-hW0];exact((Below.refl _ w1).alloc (Nat.le_refl _) _).alloc (by simp) _
 have kd:W0.heap[N]?=some (.cells #[.slice none 0 0] 38 (0,0)):=by
  rw[<-hW0,<-hN];exact(Below.heap_alloc _ _ _ (by simp)).trans (World.alloc_heap_new w1 _)
 have ks:W0.heap[N+1]?=some (.cells #[.string src] 9 (0,0)):=by
  rw[<-hW0,<-hN];have:=World.alloc_heap_new (w1.alloc (.cells #[.slice none 0 0] 38)) (.cells #[.string src] 9);rwa[World.size_alloc]at this
 have kf:=kE hx0 kf
 have um:=kE hx0 um
 have nZ:=kE hx0 nZ
 have hb2:Below w.heap.size w W0:=hb1.trans (hx0.mono hb1.size)
 rw[hW0]
 simp only[hN]
 rw[hN]at hnz
 clear hx0 hW0 hb1 hb0
 have h8:=CZ.size
 refine l5 (F:=Fence.wide) (encs:=LM) rfl (by omega) (gf:=144) (lb:= #[.pointer (some ⟨N+1,0,none⟩)]) (by simp[go_sem]) trivial (enters_of func144 (by kernel_rfl) rfl) (fun _=>rfl)
  (aBi f) ⟨[],false,none⟩ (fun s=>Pl.nL (Pl.aAr f) 0 [] ((Pl.splitV 10 src).map Pl.aW)=.inl s.ds∧s.on=true) (fun s x=>Pl.nL (Pl.aAr f) 0 [] ((Pl.splitV 10 src).map Pl.aW)=.inr (s.ds,x.1,x.2.2.2)) (fun s x=>s.on=true∧s.pend=some x)
  (JD A1 A2 A3 A4 c1 c2 c3 c4 f w N src) (IxD f w N) (YA A1 A2 A3 A4 c1 c2 c3 c4 f w N src) ?put ?Rv ?FX ?start ?seq ?assign ?body ?done ?stop
 case put=>
  intro s W r r' hl h
  rw[hs0]at hl ⊢
  exact h.put r' hl
 case Rv=>
  intro s x W r r' hl h
  rw[hs0]
  exact h.put
 case FX=>
  intro x a' W r r' hl h
  exact h
 case start=>
  intro r
  have hb:Below W0.heap.size W0 ((W0.alloc (.deferred (some []))).alloc (.loop r)):=((Below.refl _ W0).alloc (Nat.le_refl _) _).alloc (by simp) _
  exact⟨⟨hb2.trans (hb.mono hb2.size),hnz,by simp;omega,(hb.block _ (by omega)).trans kf,(hb.block _ (by omega)).trans um,(hb.block _ (by omega)).trans nZ,⟨[],_,rfl,.empty ((hb.block _ (by omega)).trans kd),fun i hi=>by
   rcases hi with h|h|⟨x,hx,_⟩
   ·exact .inl h
   ·cases h
   ·cases hx⟩,(hb.block _ (by omega)).trans ks⟩,fun _=>by simp;omega,fun e=>(by cases e),fun x hx=>(by cases hx)⟩
 case seq=>
  rintro rec rec' W1 hY hI hl hk'
  rw[hs0]at hY hl hk' ⊢
  have hsz:=hI.off rfl
  have hg:Below W1.heap.size W1 (W1.alloc (.cells ((Pl.splitV 10 src).map Value.string).toArray 9)):=(Below.refl _ W1).alloc (Nat.le_refl _) _
  have hrw:=World.alloc_heap_new W1 (.cells ((Pl.splitV 10 src).map Value.string).toArray 9)
  refine(L6 (3-1) (N+2+1) (N+1) src hs (fun(ds:List Pl.j6) W=>DG A1 A2 A3 A4 c1 c2 c3 c4 f w N src ds W∧W.heap[N+4]?=some (.cells ((Pl.splitV 10 src).map Value.string).toArray 9 (0,0))∧W.heap[N+2+1]?=some (.loop rec)∧W.heap[N+2]?=some (.deferred (some [])))
   (Pl.aAr f) (fun ds k ws W=> ∃s x,s.ds=ds∧x.1=k∧x.2.2.2=ws∧IxD f w N s x W∧W.heap[N+2+1]?=some (.loop rec')∧W.heap[N+2]?=some (.deferred (some []))) [] W1 (CZ.up hI.di.below) hI.di.ks
   ⟨hI.di.grow hg,by rw[hsz]at hrw;exact hrw,kE hg hl,(hg.block _ (lO hk')).trans hk'⟩
   (fun _ W h=>by rw[hsz];exact h.2.1) (fun _ W h=>CZ.up h.1.below)
   (fun _ W W' h hb=>⟨h.1.grow hb,(hb.block _ (Array.getElem?_eq_some_iff.1 h.2.1).1).trans h.2.1,(hb.block _ (Array.getElem?_eq_some_iff.1 h.2.2.1).1).trans h.2.2.1,(hb.block _ (Array.getElem?_eq_some_iff.1 h.2.2.2).1).trans h.2.2.2⟩) ?_).mono ?_
  ·rintro ds k b c ws' W ⟨hi,hrow,hl,hk2⟩ hk5 hn hc hsz' hne _
   have:=hY ⟨ds,true,some (k+1,b,c,ws')⟩ (k+1,b,c,ws') W ⟨rfl,rfl⟩ ⟨hi,fun e=>(by cases e),fun _=>hrow,fun x hx=>by cases hx;exact⟨hn,hc,hsz',hne⟩⟩ hl hk2
   simp only[LM,Int.natCast_add,Int.natCast_one]at this
   refine this.mono ?_
   rintro e W' (⟨s',h,rfl,hj,hl',hk'⟩|⟨h,rfl,hx,hl',hk'⟩)
   ·unfold aBi at h
    simp only at h
    cases hd:Pl.dn f ds ws' with
    |ok a=>
     rw[hd]at h
     simp only[Option.some.injEq]at h
     subst h
     exact .inl ⟨a,Pl.aAY hd,rfl,hj.di,hj.row rfl,hl',hk'⟩
    |error E=>rw[hd]at h;cases h
   ·obtain⟨E,hd,hX⟩:=id hx
    exact .inr ⟨Pl.aAZ hd,rfl,_,_,rfl,rfl,rfl,hx,hl',hk'⟩
  ·rintro e W' ⟨hv,⟨ds,h,hi,hrow,hl',hk'⟩|⟨ds,k,ws',h,s,x,rfl,rfl,rfl,hx,hl',hk'⟩⟩
   ·exact⟨hv,.inl ⟨⟨ds,true,none⟩,⟨h,rfl⟩,⟨hi,fun e=>(by cases e),fun _=>hrow,fun x hx=>(by cases hx)⟩,hl',hk'⟩⟩
   ·exact⟨hv,.inr ⟨s,x,h,hx,hl',hk'⟩⟩
 case assign=>
  rintro s x W Kk r ⟨_,p3⟩ hi hl hk' hK
  clear p3
  rw[hs0]at hl hk' hK ⊢
  gi_wp2
  exact hK _ _ hi rfl hl hk'
 case body=>
  rintro s ⟨num,b,c,ws'⟩ a' W r ⟨hon,Tj⟩ hi rfl hl hk'
  rw[hs0]at hl hk' ⊢
  obtain⟨Nr,hc2,hS2,hne2⟩:=hi.pend _ Tj
  simp only at Nr hc2 hS2 hne2
  obtain⟨l,v,hls,hD,hDx⟩:=hi.di.dd
  have hlt:=hi.di.lt
  have l4:=(Array.getElem?_eq_some_iff.1 (hi.row hon)).1
  have hfN:bB W N A1 A2 A3 A4 f:=by
   have h:=hf.below hi.di.below
   exact⟨h.st.more (by omega),h.li.more (by omega),h.pa.more (by omega),h.va.more (by omega)⟩
  have hdl:=aA9 A1 A2 A3 A4 c1 c2 c3 c4 f N l v (some ⟨b,0,none⟩) c ws' W (CZ.up hi.di.below) hD (by omega) Nr hc2 hS2 hne2 hfN hm hc hE0
  have kf:=hi.di.kf
  obtain⟨hcf,nY⟩:=ah kf
  rw[hls]at hdl
  cases hr:Pl.dn f s.ds ws' with
  |ok ds'=>
   rw[hr]at hdl
   have HR:=Lib.hid hr
   clear hr
   gi_wp2_with fail
   refine⟨trivial,?_⟩
   refine(CallsIn.inRound _ (callsIn_wide.2 hdl)).mono ?_
   rintro e W2 ⟨hB,rfl,l',v',hl',hD',hN'⟩
   gi_wp2
   exact⟨(hB.k _ (by omega) (fun e=>by have:=hDx _ e;omega)).trans hl,(hB.k _ (by omega) (fun e=>by have:=hDx _ e;omega)).trans hk',⟨ds',true,none⟩,by simp[aBi,HR.out],hi.di.next (by omega) hDx hB hl' hD' hN',fun e=>(by cases e),fun _=>(hB.k _ (by omega) (fun e=>by have:=hDx _ e;omega)).trans (hi.row hon),fun x hx=>(by cases hx)⟩
  | error E=>
   rw[hr]at hdl
   have HR:=Lib.hid hr
   have hE1:=Pl.aAQ hr
   clear hr
   gi_wp2_with fail
   refine⟨trivial,?_⟩
   refine(CallsIn.inRound _ (callsIn_wide.2 hdl)).mono ?_
   rintro e W2 ⟨hB,rfl⟩
   have hne:(E !=0)=true:=by simpa using hE1
   have hsz2:=hB.b.size
   have um:=(hB.b.block (w.heap.size+1) (by omega)).trans hi.di.r1
   have nZ:=(hB.b.block (w.heap.size+2) (by omega)).trans hi.di.r2
   have hl2:=(hB.k _ (by omega) (fun e=>by have:=hDx _ e;omega)).trans hl
   have hk2:=(hB.k _ (by omega) (fun e=>by have:=hDx _ e;omega)).trans hk'
   obtain⟨W3,Qe,xI,hg3⟩:=Rw W2 (w.heap.size+1) _ 38 _ (.slice none 0 0) um JJ rfl
   have xR:=(hg3.block (w.heap.size+2) (lO nZ) (by simp)).trans nZ
   obtain⟨W4,Ro,zX,hg4⟩:=aG W3 (w.heap.size+2) _ 31 _ (i2 E (num:Int)) xR j_ rfl (by simp[Value.oneCell'])
   have Gf:=(hg4.block (w.heap.size+1) (lO xI) (by simp)).trans xI
   clear um nZ xR hdl hcf nY
   gi_wp2_with fail
   have keep: ∀k,w.heap.size+3<=k->k<W2.heap.size->W4.heap[k]?=W2.heap[k]?:=fun k h2 h3=>
    (hg4.block k (by have:=hg3.size;omega) (by simp;omega)).trans (hg3.block k h3 (by simp;omega))
   have hbel:Below w.heap.size w W4:=((hi.di.below.trans (hB.b.mono (by omega))).grown hg3 (by have:=hi.di.below.size;omega) (fun k e=>by cases e;omega)).grown hg4 (by have:=hg3.size;have:=hi.di.below.size;omega) (fun k e=>by cases e;omega)
   exact⟨(keep _ (by omega) (by omega)).trans hl2,(keep _ (by omega) (by omega)).trans hk2,by simp[aBi,HR.out],E,HR.out,hbel,hlt,Gf,zX⟩
 case done=>
  rintro s1 W ⟨hrun,hon⟩ hi hk'
  rw[hs0]at hk' ⊢
  have hP2:Hid (Pl.dz f src=(s1.ds,0,0)):=Lib.hid (by rw[hP.out,hrun])
  obtain⟨l,v,hls,hD,hDx⟩:=hi.di.dd
  obtain⟨A,c,rfl,hdS,hcap⟩:=hD.aCw
  have hlt:=hi.di.lt
  have l4:=(Array.getElem?_eq_some_iff.1 (hi.row hon)).1
  have um:=hi.di.r1
  have nZ:=hi.di.r2
  have hbw:=hi.di.below
  have FA:From (N+5) A:=fun a ha=>by
   have h1:(Value.slice A l.length c).ownBlock=some a.block:=by rw[ha];rfl
   have h2:=hDx _ (.inr (.inl h1))
   have h3:=hD.row.lt _ h1
   omega
  have FC: ∀x∈l,From (N+5) x.2.1:=fun x hx a ha=>by
   have h1:blk x.2=some a.block:=by unfold blk;rw[ha];rfl
   have h2:=hDx _ (.inr (.inr ⟨x,hx,h1⟩))
   have h3:=(hD.own x hx).lt _ (by rw[Q9];exact h1)
   omega
  obtain⟨hcb,ru⟩:=ah hD.box
  obtain⟨W3,Qe,xI,hg3⟩:=Rw W (w.heap.size+1) _ 38 _ (.slice A l.length c) um JJ rfl
  have xR:=(hg3.block (w.heap.size+2) (lO nZ) (by simp)).trans nZ
  obtain⟨W4,Ro,zX,hg4⟩:=aG W3 (w.heap.size+2) _ 31 _ (i2 0 0) xR j_ rfl (by simp[Value.oneCell'])
  have Gf:=(hg4.block (w.heap.size+1) (lO xI) (by simp)).trans xI
  clear um nZ xR hrun
  gi_wp2_with fail
  have keep: ∀k,w.heap.size+3<=k->k<W.heap.size->W4.heap[k]?=W.heap[k]?:=fun k h2 h3=>
   (hg4.block k (by have:=hg3.size;omega) (by simp;omega)).trans (hg3.block k h3 (by simp;omega))
  have hk4:=(keep (N+2) (by omega) (by omega)).trans hk'
  have hbel:Below w.heap.size w W4:=(hbw.grown hg3 (by have:=hbw.size;omega) (fun k e=>by cases e;omega)).grown hg4 (by have:=hg3.size;have:=hbw.size;omega) (fun k e=>by cases e;omega)
  have hb4:Below w.heap.size w (W4.putObj (N+2) (.deferred none)):=hbel.grown (grownBy_putObj' W4 (N+2) (.deferred none)) hbel.size (fun k e=>by cases e;omega)
  have g1:=(World.putObj_heap_other (w:=W4) (o:=.deferred none) (show w.heap.size+1≠N+2 by omega)).trans Gf
  have g2:=(World.putObj_heap_other (w:=W4) (o:=.deferred none) (show w.heap.size+2≠N+2 by omega)).trans zX
  obtain⟨hd1,he1⟩:=ah g1
  obtain⟨hd2,he2⟩:=ah g2
  refine⟨by simp,.inl ⟨_,_,rfl,run_takeDeferred hk4,?_⟩⟩
  have hz:W.heap.size<=(W4.putObj (N+2) (.deferred none)).heap.size:=by
   have:(W4.putObj (N+2) (.deferred none)).heap.size=W4.heap.size:=by simp[World.putObj]
   have:=hg3.size;have:=hg4.size;omega
  have hkk: ∀b,N+5<=b->b<W.heap.size->(W4.putObj (N+2) (.deferred none)).heap[b]?=W.heap[b]?:=fun b h1 h2=>(World.putObj_heap_other (by omega)).trans (keep b (by omega) h2)
  have hfin:aAc (W4.putObj (N+2) (.deferred none)) (W4.putObj (N+2) (.deferred none)).heap.size A l:=
   ⟨(hdS.row.z_ FA hkk).more hz,fun x hx=>((hdS.own x hx).z_ (FC x hx) hkk).more hz⟩
  refine⟨.tuple #[.slice A l.length c,.agg (i2 0 0)],?_,l,A,c,by rw[hP2.out];exact hls,by rw[hP2.out],hfin,hcap,hb4⟩
  simp[results,results24,go_sem,hd1,hd2]
 case stop=>
  rintro s x W hst ⟨E,hd,hX⟩ hk'
  rw[hs0]at hk' ⊢
  have hP2:Hid (Pl.dz f src=([],E,(x.1:Int))):=Lib.hid (by rw[hP.out,hst];simp[hd])
  have hr1:=hX.r1
  have hr2:=hX.r2
  have hlt:=hX.lt
  obtain⟨hc1,hf1⟩:=ah hr1
  obtain⟨hc2,hf2⟩:=ah hr2
  clear hst
  gi_wp2
  refine⟨by simp,.inl ⟨_,_,rfl,run_takeDeferred hk',?_⟩⟩
  have hb4:Below w.heap.size w (W.putObj (N+2) (.deferred none)):=hX.below.grown (grownBy_putObj' W (N+2) (.deferred none)) hX.below.size (fun k e=>by cases e;omega)
  have g1:=(World.putObj_heap_other (w:=W) (o:=.deferred none) (show w.heap.size+1≠N+2 by omega)).trans hr1
  have g2:=(World.putObj_heap_other (w:=W) (o:=.deferred none) (show w.heap.size+2≠N+2 by omega)).trans hr2
  obtain⟨hd1,he1⟩:=ah g1
  obtain⟨hd2,he2⟩:=ah g2
  refine⟨.tuple #[.slice none 0 0,.agg (i2 E (x.1:Int))],?_,[],none,0,by rw[hP2.out];rfl,by rw[hP2.out];rfl,⟨.inl rfl,fun x hx=>by cases hx⟩,Nat.le_refl _,hb4⟩
  simp[results,results24,go_sem,hd1,hd2]
end Go.Proofs
namespace Go.Proofs
open Tryz RowKit
theorem Dds.ld {w:World}{B:Nat}{A:Option Addr}{l:List (Pl.j6×Option Addr×Nat)}(h:Dds w B A l){k:Nat}(hk:k<l.length):
  ∃b off,A=some ⟨b,off,none⟩∧b<B∧ ∀W,Below B w W->(loadVar 90 ⟨b,off+k*4,none⟩).run prog W=.ok (.agg #[.string l[k].1.name,.int .i64 l[k].1.year,.int .i64 l[k].1.rank,.slice l[k].2.1 l[k].1.calls.length l[k].2.2]) W:=by
 obtain⟨b,off,hA,hb,hc⟩:=Seg.at_ h hk
 exact⟨b,off,hA,hb,fun W hW=>run_loadVar_mid W b (off+k*4) _ (x9 l[k]) _ (fun j v hv=>(hW.cell (p:=⟨b,off+k*4+j,none⟩) hb).trans (hc j v hv)) underlying90 rfl (by kernel_rfl)⟩
theorem aAB.ld {w:World}{B:Nat}{A:Option Addr}{l:List Pl.aZ}(h:aAB w B A l){k:Nat}(hk:k<l.length):
  ∃b off,A=some ⟨b,off,none⟩∧b<B∧ ∀W,Below B w W->(loadVar 48 ⟨b,off+k*13,none⟩).run prog W=.ok (.agg #[.int .u8 (l[k].kind:Int),.int .i64 l[k].lim,.int .i64 l[k].bL,.int .i64 l[k].fr,.int .i64 l[k].till,.int .i64 l[k].size,.int .i64 l[k].er,.int .i64 l[k].aB.b,.int .i64 l[k].aB.n,.int .i64 l[k].aB.l,.int .i64 l[k].aB.y,.int .i64 l[k].aB.x,.int .i64 l[k].aB.s]) W:=by
 obtain⟨b,off,hA,hb,hc⟩:=Seg.at_ h hk
 exact⟨b,off,hA,hb,fun W hW=>run_loadVar_mid W b (off+k*13) _ (aAk l[k]) _ (fun j v hv=>(hW.cell (p:=⟨b,off+k*13+j,none⟩) hb).trans (hc j v hv)) underlying48 rfl (by kernel_rfl)⟩
theorem aBQ (c:Pl.aZ)(W:World):(Op.equalIn 10000 48 (.agg (kq c)) (.agg (kq c))).run prog W=.ok true W:=by
 simp[go_sem]
attribute [-go_sem] loadVar run_equalIn_agg
attribute [local go_sem] bZ bH dU aT Iw yQ
theorem aA1 (A A':Option Addr)(c c':Nat)(l l':List (Pl.j6×Option Addr×Nat))(w:World)(he:l.map (·.1)=l'.map (·.1))(hD:aAc w w.heap.size A l)(hD':aAc w w.heap.size A' l')(hm:l.length<=100000)(hcs: ∀x∈l,x.1.calls.length<=100000):
  Calls prog 25 #[.slice A l.length c,.slice A' l'.length c'] w fun e w'=>e=.returned (.bool true)∧Below w.heap.size w w':=by
 have hln:l'.length=l.length:=by simpa using (congrArg List.length he).symm
 have heq: ∀k (h:k<l.length) (h':k<l'.length),l'[k].1=l[k].1:=fun k h h'=>by
  have h1:(l.map (·.1))[k]?=(l'.map (·.1))[k]?:=by rw[he]
  simpa [h,h']using h1.symm
 rw[hln]
 go_enter func25,ntmps25
 go_wp2
 go_loopw [5] (fun i wr=> ∃(k:Nat),k<=l.length∧i=.int .i64 k∧Below w.heap.size w wr) (fun i _=>l.length-(intOf i).toNat)
 case atStart=>exact⟨0,by omega,rfl,by go_grown⟩
 case round=>
  obtain⟨k,hk,rfl,hall⟩:=hrel
  have hsz:=hall.size
  by_cases hlt:k<l.length
  ·obtain⟨b,off,hA,mQ,q0⟩:=Dds.ld hD.row hlt
   obtain⟨b',off',hA',aCS,r0⟩:=Dds.ld hD'.row (show k<l'.length by omega)
   have hx:=heq k hlt (by omega)
   have ho:=hD.own l[k] (List.getElem_mem hlt)
   have ho':=hD'.own l'[k] (List.getElem_mem (by omega))
   have hc1:=hcs l[k] (List.getElem_mem hlt)
   rw[hx]at r0 ho'
   obtain⟨⟨⟨n,y,r,cs⟩,P,p2⟩,hbd⟩: ∃x,l[k]=x:=⟨_,rfl⟩
   obtain⟨⟨Q,p3⟩,aCe⟩: ∃x,l'[k].2=x:=⟨_,rfl⟩
   rw[hbd]at q0 r0 ho ho' hc1
   rw[aCe]at r0 ho'
   simp only at q0 r0 ho ho' hc1
   clear hbd aCe hx
   subst hA hA'
   have e1:(0:Int)<=(k:Int):=by omega
   have e2:(k:Int)<(l.length:Int):=by omega
   have k1:=heap_alloc2_old wr (.cells #[.string n,.int .i64 y,.int .i64 r,.slice P cs.length p2] 90) (.cells #[.string n,.int .i64 y,.int .i64 r,.slice Q cs.length p3] 90)
   have k2:=heap_alloc2_new wr (.cells #[.string n,.int .i64 y,.int .i64 r,.slice P cs.length p2] 90) (.cells #[.string n,.int .i64 y,.int .i64 r,.slice Q cs.length p3] 90)
   obtain⟨hc1',hf1⟩:=ah k1
   obtain⟨hc2',hf2⟩:=ah k2
   have q1:=q0 wr hall
   have r1:=r0 (wr.alloc (.cells #[.string n,.int .i64 y,.int .i64 r,.slice P cs.length p2] 90)) (hall.alloc hsz _)
   have bY:Below w.heap.size w ((wr.alloc (.cells #[.string n,.int .i64 y,.int .i64 r,.slice P cs.length p2] 90)).alloc (.cells #[.string n,.int .i64 y,.int .i64 r,.slice Q cs.length p3] 90)):=(hall.alloc hsz _).alloc (by simp;omega) _
   clear q0 r0
   go_wp2
   clear q1 r1 hc1' hf1 hc2' hf2
   generalize (wr.alloc (.cells #[.string n,.int .i64 y,.int .i64 r,.slice P cs.length p2] 90)).alloc (.cells #[.string n,.int .i64 y,.int .i64 r,.slice Q cs.length p3] 90)=W2 at*
   obtain⟨bx,hbx⟩: ∃n,wr.heap.size=n:=⟨_,rfl⟩
   simp only[hbx]at k1 k2 ⊢
   have hl2:=(lO k2)
   go_loopw [8] (fun i wr'=> ∃(j:Nat),j<=cs.length∧i=.int .i64 j∧Below W2.heap.size W2 wr') (fun i _=>cs.length-(intOf i).toNat)
   case atStart=>exact⟨0,by omega,rfl,Below.refl _ _⟩
   case round=>
    obtain⟨j,hj,rfl,lq⟩:=hrel
    have k1:=(lq.block _ (by omega)).trans k1
    have k2:=(lq.block _ hl2).trans k2
    obtain⟨hc1',hf1⟩:=ah k1
    obtain⟨hc2',hf2⟩:=ah k2
    have hz2:=bY.size
    have hbw:=bY.trans (lq.mono hz2)
    by_cases hlj:j<cs.length
    ·obtain⟨g,o,hP,hg,u0⟩:=aAB.ld ho hlj
     obtain⟨g',o',hQ,hg',v0⟩:=aAB.ld ho' hlj
     obtain⟨x,hbd⟩: ∃x,cs[j]=x:=⟨_,rfl⟩
     rw[hbd]at u0 v0
     clear hbd
     subst hP hQ
     have e3:(0:Int)<=(j:Int):=by omega
     have e4:(j:Int)<(cs.length:Int):=by omega
     have u1:=u0 _ hbw.drew
     have v1:=v0 _ hbw.drew
     have aCT:=fun W=>aBQ x W
     have aCU:=hbw.drew
     clear u0 v0
     go_wp2
     go_region_held3 (fun W=>W.cell? ⟨bx,3,none⟩=some (.slice (some ⟨g,o,none⟩) cs.length p2)∧W.cell? ⟨bx+1,3,none⟩=some (.slice (some ⟨g',o',none⟩) cs.length p3)∧(loadVar 48 ⟨g,o+j*13,none⟩).run prog W=.ok (.agg (kq x)) W∧(loadVar 48 ⟨g',o'+j*13,none⟩).run prog W=.ok (.agg (kq x)) W) (exact⟨hc1' 3,hc2' 3,u1,v1⟩) (fail)
     all_goals go_wp2
     all_goals (
      go_roundw
      case rel=>exact⟨j+1,by omega,by go_num,by first|(go_grown;done)|exact below_drewN lq _⟩
      case measure=>first|(simp[intOf];done)|(simp[intOf];omega))
    ·go_wp2
     go_roundw
     case rel=>exact⟨k+1,by omega,by go_num,hbw⟩
     case measure=>first|(simp[intOf];done)|(simp[intOf];omega)
  ·go_wp2
   go_ret
   exact⟨rfl,hall⟩
end Go.Proofs
namespace Go.Proofs
open Tryz RowKit Shelf
variable (A1 A2 A3 A4 : Option Addr) (c1 c2 c3 c4 : Nat) (f : Pl.aL)
attribute [-go_sem] storeVar
theorem aAn (src:ByteArray)(w:World)(hf:bB w w.heap.size A1 A2 A3 A4 f)(hm:Small f)(hc:dY c1 c2 c3 c4 f)(hE:Pl.aR f≠0):Calls prog 24 #[.agg (fq A1 A2 A3 A4 c1 c2 c3 c4 f),.string src] w (aA0 (Pl.dz f src) w):=by
 have HR:Hid (Pl.dz f src=([],Pl.aR f,0)):=Lib.hid (by unfold Pl.dz;rw[if_pos hE])
 obtain⟨E,he⟩: ∃E,Pl.aR f=E:=⟨_,rfl⟩
 rw[he]at hE HR
 have HE:=Lib.hid he
 have hne:(E !=0)=true:=by simpa using hE
 clear he hE
 have kf:=heap_alloc2_old w (.cells (fq A1 A2 A3 A4 c1 c2 c3 c4 f) 28) (.cells #[.slice none 0 0] 38)
 have um:=heap_alloc2_new w (.cells (fq A1 A2 A3 A4 c1 c2 c3 c4 f) 28) (.cells #[.slice none 0 0] 38)
 have nZ:=heap_alloc_new ((w.alloc (.cells (fq A1 A2 A3 A4 c1 c2 c3 c4 f) 28)).alloc (.cells #[.slice none 0 0] 38)) (.cells (i2 0 0) 31)
 simp only[World.size_alloc]at nZ
 have kf:=(Below.heap_alloc _ (.cells (i2 0 0) 31) _ (lO kf)).trans kf
 have um:=(Below.heap_alloc _ (.cells (i2 0 0) 31) _ (lO um)).trans um
 have hb0:Below w.heap.size w (((w.alloc (.cells (fq A1 A2 A3 A4 c1 c2 c3 c4 f) 28)).alloc (.cells #[.slice none 0 0] 38)).alloc (.cells (i2 0 0) 31)):=(((Below.refl _ w).alloc (Nat.le_refl _) _).alloc (by simp) _).alloc (by simp only[World.size_alloc];omega) _
 go_enter func24,ntmps24
 go_wp2_with (go_at_call 22;refine(bX A1 A2 A3 A4 c1 c2 c3 c4 f E _ HE (hf.up hb0) hm hc).mono ?_;rintro e w1 ⟨rfl,hx⟩;have um:=kE hx um;have nZ:=kE hx nZ;have hb1:Below w.heap.size w w1:=hb0.trans (hx.mono hb0.size);clear hx;obtain⟨W3,Qe,xI,hg3⟩:=Rw w1 (w.heap.size+1) _ 38 _ (.slice none 0 0) um JJ rfl;have xR:=(hg3.block (w.heap.size+1+1) (lO nZ) (by simp)).trans nZ;obtain⟨W4,Ro,zX,hg4⟩:=aG W3 (w.heap.size+1+1) _ 31 _ (i2 E 0) xR j_ rfl (by simp[Value.oneCell']);have Gf:=(hg4.block (w.heap.size+1) (lO xI) (by simp)).trans xI;clear um nZ xR)
 have hb4:Below w.heap.size w W4:=(hb1.grown hg3 hb1.size (fun k e=>by cases e;omega)).grown hg4 (by have:=hg3.size;have:=hb1.size;omega) (fun k e=>by cases e;omega)
 obtain⟨hd1,he1⟩:=ah Gf
 obtain⟨hd2,he2⟩:=ah zX
 refine bodyPost_ret (v:=.tuple #[.slice none 0 0,.agg (i2 E 0)]) (by simp[results,results24,go_sem,hd1,hd2]) rfl ⟨[],none,0,by rw[HR.out];rfl,by rw[HR.out];rfl,⟨.inl rfl,fun x hx=>(by cases hx)⟩,Nat.le_refl _,hb4⟩
theorem aAs (src:ByteArray)(w:World)(CZ:Env w)(hf:bB w w.heap.size A1 A2 A3 A4 f)(hm:Small f)(hc:dY c1 c2 c3 c4 f)(hs:src.size<=20000):Calls prog 24 #[.agg (fq A1 A2 A3 A4 c1 c2 c3 c4 f),.string src] w (aA0 (Pl.dz f src) w):=by
 by_cases hE:Pl.aR f=0
 ·exact aAR A1 A2 A3 A4 c1 c2 c3 c4 f src w CZ hf hm hc hs hE
 ·exact aAn A1 A2 A3 A4 c1 c2 c3 c4 f src w hf hm hc hE
namespace Pl
variable (A1 A2 A3 A4 : Option Addr) (c1 c2 c3 c4 : Nat) (f : Pl.aL)
def aBa (l:List j6):Prop:=l.length<=60∧ ∀d∈l,d.calls.length<=20
theorem aAS {f:aL} {ds a:List j6} {ws:List ByteArray} (h:aBa ds) (hl:dn f ds ws=.ok a):aBa a:=by
 unfold dn at hl
 split at hl
 ·split at hl
  ·split at hl
   ·split at hl
    ·cases hl
    ·split at hl
     ·cases hl
     ·split at hl
      ·cases hl
      ·rename_i h60 _ _
       cases hl
       refine⟨by rw[List.length_append,List.length_singleton];omega,fun d hd=> ?_⟩
       rcases List.mem_append.1 hd with hd|hd
       ·exact h.2 d hd
       ·have:=List.mem_singleton.1 hd
        subst this
        simp
   ·cases hl
  ·cases hl
 ·split at hl
  ·cases hl
  ·split at hl
   ·cases hl
   ·split at hl
    ·cases hl
    ·split at hl
     ·cases hl
     ·rename_i d hg h20 _ _ _
      cases hl
      have hne:ds≠ []:=fun e=>by rw[e]at hg;cases hg
      refine⟨by have:=List.length_pos_iff.2 hne;have:=h.1;simp;omega,fun x hx=> ?_⟩
      rcases List.mem_append.1 hx with hx|hx
      ·exact h.2 x (List.dropLast_subset _ hx)
      ·have:=List.mem_singleton.1 hx
       subst this
       rw[List.length_append,List.length_singleton]
       omega
end Pl
end Go.Proofs
namespace Go.Proofs
open Tryz RowKit
variable (A1 A2 A3 A4 : Option Addr) (c1 c2 c3 c4 : Nat) (f : Pl.aL)
attribute [-go_sem] run_equalIn_agg loadVar storeVar
attribute [local go_sem] bZ bH dU aT yQ
theorem dV (P Q:List UInt8)(h:P.length<=1000000000000)(h2:Q.length<=1000000)(W:World):(Op.stringOp .add ⟨P.toArray⟩ ⟨Q.toArray⟩).run prog W=.ok (.string ⟨(P++Q).toArray⟩) W:=by
 rw[run_string_add_sum W ⟨P.toArray⟩ ⟨Q.toArray⟩ (by rw[nR,nR];omega),dh]
 simp
theorem iM (s:ByteArray): ∃l:List UInt8,s=⟨l.toArray⟩∧l.length=s.size:=⟨s.data.toList,by simp,by simp⟩
