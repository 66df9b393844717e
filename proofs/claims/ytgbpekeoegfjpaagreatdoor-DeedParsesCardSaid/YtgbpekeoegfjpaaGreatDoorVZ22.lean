/- Proved: parts of the walk. -/
import Derived.Test.YtgbpekeoegfjpaaGreatDoorVZ18
import Derived.Test.YtgbpekeoegfjpaaGreatDoorVZ21
set_option maxRecDepth 100000
set_option maxHeartbeats 4000000
namespace Go.Proofs
open Tryz RowKit Shelf
attribute [local go_sem] Oper.semAt_some
attribute [-go_sem] run_equalIn_agg storeVar loadVar
attribute [local go_sem] bZ bH dU aT eB mU
theorem BA (A1 A2 A3 A4:Option Addr)(c1 c2 c3 c4:Nat)(f:Pl.aL)(c:Pl.aZ)(bc L n:Nat)(w W1:World)(J:Nat->World->Prop)(hJ:Rp A1 A2 A3 A4 c1 c2 c3 c4 f c bc L n w J)(h0:J 0 W1)(hk:c.kind=3)(ht:c.tab f.st.length f.li.length)(hL:f.li.length<=1000)(hS:f.st.length<=100000)(hf:bB w w.heap.size A1 A2 A3 A4 f)(hva:f.va.length<=100000)(hx: ∀s∈f.st,0<=s.2∧s.2<=100000):
  CallsIn Fence.wide n prog 189 #[.func (.yield L) #[] #[],.pointer (some ⟨bc,0,none⟩)] W1 fun e W'=>(∃v,e=.returned v)∧J (Pl.spans f c).length W':=by
 obtain⟨⟨l0,l1⟩,⟨f0,f1⟩,ht⟩:=ht
 have h5:0<=c.till∧c.till<f.st.length:=by unfold Pl.mO at ht;rcases ht with h|h|h|h|h<;>omega
 obtain⟨t0,t1⟩:=h5
 clear ht
 have hrun:=fun W (hW:Below w.heap.size w W)=>Qa A1 A2 A3 A4 c1 c2 c3 c4 f 3 c W (hf.st.up hW) hS ⟨f0,f1⟩ ⟨t0,t1⟩ hx
 have hint:=fun W (hW:Below w.heap.size w W)=>qN A4 c4 f.va c.aB (Pl.kH f.st c) W (hf.va.up hW) (by unfold maxLen;omega)
 obtain⟨X,hX⟩: ∃X,Pl.kH f.st c=X:=⟨_,rfl⟩
 rw[hX]at hrun hint
 obtain⟨lo,hlo⟩: ∃lo,(Pl.com f.va [c.aB] X).1=lo:=⟨_,rfl⟩
 obtain⟨hi,hhi⟩: ∃hi,(Pl.com f.va [c.aB] X).2.1=hi:=⟨_,rfl⟩
 generalize (Pl.com f.va [c.aB] X).2.2=ok at hint
 generalize Pl.jA f.va [c.aB] X=E at hint
 rw[hlo,hhi]at hint
 have hsp:Hid (Pl.spans f c=[⟨Pl.q8 f c.lim c.fr,Pl.q8 f c.lim c.till,lo,hi⟩]):=Lib.hid (by unfold Pl.spans;rw[hk,hX,hlo,hhi];rfl)
 clear hX hlo hhi hx
 have kb:=hJ.box _ _ h0
 rw[hk]at kb
 have kb:W1.heap[bc]?=some (.cells (bG A1 A2 A3 A4 c1 c2 c3 c4 f 3 c) 128 (0,0)):=kb
 obtain⟨hcb,ru⟩:=ah kb
 have Cv: ∀(fn:Fn) (first cap:Array Value) (w:World),(Instr.makeFunc fn first cap).run prog w=.ok (.func fn first cap) w:=fun _ _ _ _=>rfl
 refine callsIn_of_wp func189 rfl trivial ?_ rfl
 simp only[ntmps189,List.size_toArray,List.length_cons,List.length_nil,Nat.reduceAdd,Nat.reduceSub,Array.replicate_succ,Array.replicate_zero,List.push_toArray,List.append_toArray,List.nil_append,List.cons_append]
 gi_wp2_with fail
 clear hcb ru
 have hj:J 0 W1.drew:=hJ.up _ _ _ h0 ((Below.refl _ _).drew)
 refine kR (S:=fun W=>((loadVar 26 ⟨bc,3,none⟩).run prog W=.ok (.slice A4 f.va.length c4) W∧(loadVar 46 ⟨bc,11,none⟩).run prog W=.ok (.agg (cq c.aB)) W∧(loadVar 128 ⟨bc,0,none⟩).run prog W=.ok (.agg (bG A1 A2 A3 A4 c1 c2 c3 c4 f 3 c)) W)∧ ∀j,W.cell? ⟨bc,j,none⟩=((bG A1 A2 A3 A4 c1 c2 c3 c4 f 3 c):Array Value)[j]?) (by kernel_rfl) ⟨qG A1 A2 A3 A4 c1 c2 c3 c4 f kb,(ah kb).1⟩ (fun hHeld=> ?_)
 have kb:W1.drew.heap[bc]?=_:=kb
 clear h0
 generalize W1.drew=W0 at*
 refine tK 0 113 rfl rfl ?_
 try simp only[au]
 refine tK 1 114 rfl rfl ?_
 try simp only[au]
 refine tK 2 115 rfl rfl ?_
 try simp only[au]
 refine tK 3 116 rfl rfl ?_
 try simp only[au]
 refine tK 4 117 rfl rfl ?_
 try simp only[au]
 refine tK 5 118 rfl rfl ?_
 try simp only[au]
 refine tK 6 119 rfl rfl ?_
 try simp only[au]
 refine fZ (rs:=[7]) (by kernel_rfl) (by simp) ?_
 refine dO.cons (some 120) rfl rfl (fun K hK=> ?_) dO.nil
 go_simp
 refine⟨trivial,fun h=>(by cases h),?_⟩
 refine(callsIn_wide.2 (hrun _ (hJ.base _ _ hj))).mono ?_
 rintro e w1 ⟨rfl,hx⟩
 have hj:=hJ.up _ _ _ hj hx
 have kb:=(hx.block bc (lO kb)).trans kb
 clear hx
 refine hK.out _ _ ⟨qG A1 A2 A3 A4 c1 c2 c3 c4 f kb,(ah kb).1⟩ (fun hHeld=> ?_)
 clear hK K
 try simp only[au]
 refine fZ (rs:=[8]) (by kernel_rfl) (by simp) ?_
 refine dO.cons (some 121) rfl rfl (fun K hK=> ?_) dO.nil
 go_simp
 refine⟨trivial,fun h=>(by cases h),?_⟩
 refine(callsIn_wide.2 (hint _ (hJ.base _ _ hj))).mono ?_
 rintro e w2 ⟨rfl,hx⟩
 have hj:=hJ.up _ _ _ hj hx
 have kb:=(hx.block bc (lO kb)).trans kb
 clear hx
 refine hK.out _ _ ⟨qG A1 A2 A3 A4 c1 c2 c3 c4 f kb,(ah kb).1⟩ (fun hHeld=> ?_)
 clear hK K
 try simp only[au]
 refine tK 9 112 rfl rfl ?_
 try simp only[au]
 refine tK 10 122 rfl rfl ?_
 try simp only[au]
 refine tK 11 123 rfl rfl ?_
 try simp only[au]
 refine tK 12 124 rfl rfl ?_
 try simp only[au]
 refine tK 13 125 rfl rfl ?_
 try simp only[au]
 refine tK 14 4 rfl rfl ?_
 try simp only[au]
 refine tK 15 5 rfl rfl ?_
 try simp only[au]
 refine tK 16 6 rfl rfl ?_
 try simp only[au]
 refine tK 17 7 rfl rfl ?_
 try simp only[au]
 refine tO (by kernel_rfl) ?_ _
 gi_wp2_with fail
 clear hrun hint
 have hj:J 0 w2.drew:=hJ.up _ _ _ hj ((Below.refl _ _).drew)
 refine kR (S:=fun W=>((loadVar 26 ⟨bc,3,none⟩).run prog W=.ok (.slice A4 f.va.length c4) W∧(loadVar 46 ⟨bc,11,none⟩).run prog W=.ok (.agg (cq c.aB)) W∧(loadVar 128 ⟨bc,0,none⟩).run prog W=.ok (.agg (bG A1 A2 A3 A4 c1 c2 c3 c4 f 3 c)) W)∧ ∀j,W.cell? ⟨bc,j,none⟩=((bG A1 A2 A3 A4 c1 c2 c3 c4 f 3 c):Array Value)[j]?) (by kernel_rfl) ⟨qG A1 A2 A3 A4 c1 c2 c3 c4 f kb,(ah kb).1⟩ (fun hHeld=> ?_)
 have kb:w2.drew.heap[bc]?=_:=kb
 generalize w2.drew=W0 at*
 refine tK 0 126 rfl rfl ?_
 try simp only[au]
 refine tK 1 127 rfl rfl ?_
 try simp only[au]
 refine tK 2 128 rfl rfl ?_
 try simp only[au]
 refine tK 3 129 rfl rfl ?_
 try simp only[au]
 refine tK 4 130 rfl rfl ?_
 try simp only[au]
 refine tK 5 131 rfl rfl ?_
 try simp only[au]
 refine tK 6 132 rfl rfl ?_
 try simp only[au]
 refine tK 7 133 rfl rfl ?_
 try simp only[au]
 refine tK 9 135 rfl rfl ?_
 try simp only[au]
 refine tK 10 136 rfl rfl ?_
 try simp only[au]
 refine tK 11 137 rfl rfl ?_
 try simp only[au]
 refine tK 12 138 rfl rfl ?_
 try simp only[au]
 refine tK 13 139 rfl rfl ?_
 try simp only[au]
 refine tK 14 140 rfl rfl ?_
 try simp only[au]
 refine tK 15 141 rfl rfl ?_
 try simp only[au]
 refine tK 17 143 rfl rfl ?_
 try simp only[au]
 refine tK 18 144 rfl rfl ?_
 try simp only[au]
 refine fZ (rs:=[8]) (by kernel_rfl) (by simp) ?_
 refine dO.cons (some 134) rfl rfl (fun K hK=> ?_) dO.nil
 go_simp
 refine⟨trivial,fun h=>(by cases h),?_⟩
 refine(callsIn_wide.2 (O3 A1 A2 A3 A4 c1 c2 c3 c4 f 3 c bc c.lim c.fr _ kb (by omega) (by omega) hS (by omega) (by omega))).mono ?_
 rintro e W1 ⟨rfl,hx⟩
 have hj:=hJ.up _ _ _ hj hx
 have kb:=(hx.block bc (lO kb)).trans kb
 clear hx
 refine hK.out _ _ ⟨qG A1 A2 A3 A4 c1 c2 c3 c4 f kb,(ah kb).1⟩ (fun hHeld=> ?_)
 clear hK K
 try simp only[au]
 refine fZ (rs:=[16]) (by kernel_rfl) (by simp) ?_
 refine dO.cons (some 142) rfl rfl (fun K hK=> ?_) dO.nil
 go_simp
 refine⟨trivial,fun h=>(by cases h),?_⟩
 refine(callsIn_wide.2 (O3 A1 A2 A3 A4 c1 c2 c3 c4 f 3 c bc c.lim c.till _ kb (by omega) (by omega) hS (by omega) (by omega))).mono ?_
 rintro e W2 ⟨rfl,hx⟩
 have hj:=hJ.up _ _ _ hj hx
 have kb:=(hx.block bc (lO kb)).trans kb
 clear hx
 refine hK.out _ _ ⟨qG A1 A2 A3 A4 c1 c2 c3 c4 f kb,(ah kb).1⟩ (fun hHeld=> ?_)
 clear hK K
 try simp only[au]
 refine tK 19 145 rfl rfl ?_
 try simp only[au]
 obtain⟨fn,tmps,assign,body,hy,O4⟩:=hJ.y 0 ⟨Pl.q8 f c.lim c.fr,Pl.q8 f c.lim c.till,lo,hi⟩ _ (by rw[hsp.out];rfl) hj
 unfold uP at hy
 simp only[]at hy
 refine fZ (rs:=[20]) (by kernel_rfl) (by simp) ?_
 refine dO.cons (some 146) rfl rfl (fun K hK=> ?_) dO.nil
 go_simp
 refine⟨fun h=>(by cases h),O4.mono ?_⟩
 rintro e W9 ⟨rfl,Iq⟩
 have vF:=hJ.box _ _ Iq
 rw[hk]at vF
 have vF:W9.heap[bc]?=some (.cells (bG A1 A2 A3 A4 c1 c2 c3 c4 f 3 c) 128 (0,0)):=vF
 refine hK.out _ _ ⟨qG A1 A2 A3 A4 c1 c2 c3 c4 f vF,(ah vF).1⟩ (fun hHeld=> ?_)
 clear hK K
 try simp only[au]
 refine tO (by kernel_rfl) ?_ _
 gi_wp2
 go_end0
 exact⟨⟨_,rfl⟩,by rw[hsp.out];exact Iq⟩
end Go.Proofs
namespace Go.Proofs
open Tryz RowKit Shelf
attribute [local go_sem] Oper.semAt_some
attribute [-go_sem] Builtin.append_
theorem O5 (A1 A2 A3 A4:Option Addr)(c1 c2 c3 c4:Nat)(f:Pl.aL)(c:Pl.aZ)(bc L n:Nat)(w W1:World)(J:Nat->World->Prop)(hJ:Rp A1 A2 A3 A4 c1 c2 c3 c4 f c bc L n w J)(h0:J 0 W1)(ht:c.tab f.st.length f.li.length)(hL:f.li.length<=1000)(hS:f.st.length<=100000)(hf:bB w w.heap.size A1 A2 A3 A4 f)(hva:f.va.length<=100000)(hx: ∀s∈f.st,0<=s.2∧s.2<=100000)(WV:c.kind=1∨c.kind=3):
  CallsIn Fence.wide n prog 189 #[.func (.yield L) #[] #[],.pointer (some ⟨bc,0,none⟩)] W1 fun e W'=>(∃v,e=.returned v)∧J (Pl.spans f c).length W':=by
 rcases ht.2.2 with h|h|h|h|h
 ·exact D5 A1 A2 A3 A4 c1 c2 c3 c4 f c bc L n w W1 J hJ h0 h.1 ht hL hS
 ·exact absurd h.1 (by omega)
 ·exact BA A1 A2 A3 A4 c1 c2 c3 c4 f c bc L n w W1 J hJ h0 h.1 ht hL hS hf hva hx
 ·exact absurd h.1 (by omega)
 ·exact absurd h.1 (by omega)
theorem LQ (A1 A2 A3 A4:Option Addr)(c1 c2 c3 c4:Nat)(f:Pl.aL)(c:Pl.aZ)(w:World):
  Calls prog 131 #[.agg (jB A1 A2 A3 A4 c1 c2 c3 c4 f c)] w fun e w'=>
   e=.returned (.func (.func 189) #[] #[.pointer (some ⟨w.heap.size,0,none⟩)])∧
   w'=w.alloc (.cells (jB A1 A2 A3 A4 c1 c2 c3 c4 f c) 128):=by
 go_enter func131,ntmps131
 go_wp2
 go_ret
 exact⟨by simp,rfl⟩
structure BI (A1 A2 A3 A4:Option Addr)(c1 c2 c3 c4:Nat)(f:Pl.aL)(c:Pl.aZ)(r:Int)(w:World)(k:Nat)(W:World):Prop where
 below:Below w.heap.size w W
 sz:w.heap.size+6<=W.heap.size
 own: ∃v,Boxed W (w.heap.size+2) 51 v∧W.ownsRow (w.heap.size+6) 99 4 v (2*k) ((((Pl.spans f c).take k).flatMap (Pl.R9 r)).flatMap gP)
 Xa:Boxed W (w.heap.size+1) 3 (.int .i64 r)
 box:W.heap[w.heap.size+3]?=some (.cells (jB A1 A2 A3 A4 c1 c2 c3 c4 f c) 128 (0,0))
section
variable {A1 A2 A3 A4 : Option Addr} {c1 c2 c3 c4 : Nat} {f : Pl.aL} {c : Pl.aZ} {r : Int} {w : World} {k : Nat} {W W' : World}
theorem BI.kept (h:BI A1 A2 A3 A4 c1 c2 c3 c4 f c r w k W)(hb:Below W.heap.size W W'):BI A1 A2 A3 A4 c1 c2 c3 c4 f c r w k W':=by
 obtain⟨h1,h2,⟨v,hv,hr⟩,h3,h4⟩:=h
 have hg:=jm hb
 exact⟨h1.trans (hb.mono h1.size),Nat.le_trans h2 hb.size,⟨v,hv.kept hg (by simp),hr.kept hg (by cases v.ownBlock<;>simp)⟩,h3.kept hg (by simp),(hb.block _ (by omega)).trans h4⟩
theorem BI.putObj {l:Nat}{o:Obj}(o':Obj)(h:BI A1 A2 A3 A4 c1 c2 c3 c4 f c r w k W)(hl:W.heap[l]?=some o)(ho:o.isCells=false)(hle:w.heap.size+3<l):BI A1 A2 A3 A4 c1 c2 c3 c4 f c r w k (W.putObj l o'):=by
 obtain⟨h1,h2,⟨v,hv,hr⟩,h3,h4⟩:=h
 have hg:=grownBy_putObj' W l o'
 exact⟨h1.grown hg h1.size (fun k e=>by cases e;omega),by have:=hg.size;omega,⟨v,hv.kept hg (by simp;omega),ownsRow_putObj hr _ hl ho⟩,h3.kept hg (by simp;omega),(World.putObj_heap_other (by omega)).trans h4⟩
end
theorem Gb {α:Type}{l:List α}{k:Nat}{x:α}(h:l[k]?=some x):l.take (k+1)=l.take k++[x]:=by
 rw[List.take_add_one,h];rfl
theorem Rq {n₀ k:Nat}{B:Nat}{w1:World}{v:Value}{l:List Pl.Bd}(x:Pl.Sp)(r:Int)(hv:Boxed w1 B 51 v)(hr:w1.ownsRow n₀ 99 4 v k (l.flatMap gP))(hk:k<=1000000)(hn:n₀<=w1.heap.size):
  ∃g' cap' w2,(Builtin.append_ #[51,51] 51 #[v,.slice (some ⟨w1.heap.size,0,none⟩) 2 2]).run prog (w1.alloc (.cells (i8 (x.fr:Int) (x.till:Int) x.hi r (x.till:Int) (x.fr:Int) (-x.lo) r) 99))=.ok (.slice (some ⟨g',0,none⟩) (k+2) cap') w2∧
   w2.ownsRow n₀ 99 4 (.slice (some ⟨g',0,none⟩) (k+2) cap') (k+2) ((l++Pl.R9 r x).flatMap gP)∧Boxed w2 B 51 v∧Below n₀ w1 w2:=by
 obtain⟨g',cap',w2,hrun,hown,hg,hat⟩:=oP tX hr (Pl.R9 r x) 1 rfl (i8 (x.fr:Int) (x.till:Int) x.hi r (x.till:Int) (x.fr:Int) (-x.lo) r) (by simp[gP,Pl.R9]) (by unfold maxLen;omega) (by omega) hn
 exact⟨g',cap',w2,hrun,hown,hv.kept hg (hv.not_row (by decide) hr),(Below.refl n₀ w1).grown hg hn (fun j ej=>(hr.lt j ej).1)⟩
def Yx (A1 A2 A3 A4:Option Addr)(c1 c2 c3 c4:Nat)(f:Pl.aL)(c:Pl.aZ)(r:Int)(w:World)(x:Pl.Sp)(a':Act)(W:World):Prop:=
 ∃Bx,w.heap.size+6<=Bx∧W.heap[Bx]?=some (.cells (i4 (x.fr:Int) (x.till:Int) x.lo x.hi) 170 (0,0))∧a'= {tmps:= #[.agg (jB A1 A2 A3 A4 c1 c2 c3 c4 f c),.int .i64 r,.pointer (some ⟨w.heap.size,0,none⟩),.pointer (some ⟨w.heap.size+1,0,none⟩),.slice none 0 0,.pointer (some ⟨w.heap.size+2,0,none⟩),.pointer (some ⟨Bx,0,none⟩),.agg (jB A1 A2 A3 A4 c1 c2 c3 c4 f c),.func (.func 189) #[] #[.pointer (some ⟨w.heap.size+3,0,none⟩)],.agg (i4 (x.fr:Int) (x.till:Int) x.lo x.hi),undef,undef,undef,undef,undef,undef,undef,undef,undef,undef,undef,undef,undef,undef,undef,undef,undef,undef,undef,undef,undef],defers:=[]}
theorem LU (A1 A2 A3 A4:Option Addr)(c1 c2 c3 c4:Nat)(f:Pl.aL)(c:Pl.aZ)(r:Int)(w:World)(WV:c.kind=1∨c.kind=3)(ht:c.tab f.st.length f.li.length)(hL:f.li.length<=1000)(hS:f.st.length<=100000)(hf:bB w w.heap.size A1 A2 A3 A4 f)(hva:f.va.length<=100000)(hx: ∀s∈f.st,0<=s.2∧s.2<=100000)
  (hlo: ∀x∈Pl.spans f c,-1000000000000000<=x.lo∧x.lo<=1000000000000000) (hlen:(Pl.spans f c).length<=100001):
  Calls prog 90 #[.agg (jB A1 A2 A3 A4 c1 c2 c3 c4 f c),.int .i64 r] w (KV gP 4 (Pl.kL f c r) w):=by
 refine(callsIn_wide (n:=3)).1 ?_
 refine callsIn_of_wp_marks func90 rfl trivial ?_ rfl
 simp only[ntmps90,List.size_toArray,List.length_cons,List.length_nil,Nat.reduceAdd,Nat.reduceSub,Array.replicate_succ,Array.replicate_zero,List.push_toArray,List.append_toArray,List.nil_append,List.cons_append]
 gi_wp2_with (refine⟨trivial,?_⟩;gi_at_call 131;refine(callsIn_wide.2 (LQ A1 A2 A3 A4 c1 c2 c3 c4 f c _)).mono ?_;rintro e w' ⟨rfl,rfl⟩)
 obtain⟨W0,hW0⟩: ∃W0,((((w.alloc (.cells (jB A1 A2 A3 A4 c1 c2 c3 c4 f c) 128)).alloc (.cells #[.int .i64 r] 3)).alloc (.cells #[.slice none 0 0] 51)).alloc (.cells (jB A1 A2 A3 A4 c1 c2 c3 c4 f c) 128))=W0:=⟨_,rfl⟩
 have hs0:W0.heap.size=w.heap.size+4:=by rw[<-hW0];simp
 have hN0: ∀W,Below W0.heap.size W0 W->w.heap.size+6<=W.heap.size->BI A1 A2 A3 A4 c1 c2 c3 c4 f c r w 0 W:=by
  intro W hb hs
  have e1:=hb.block (w.heap.size+1) (by omega)
  have e2:=hb.block (w.heap.size+2) (by omega)
  have e3:=hb.block (w.heap.size+3) (by omega)
  have hbw:Below w.heap.size w W:=by
   refine Below.trans ?_ (hb.mono (show w.heap.size<=W0.heap.size by omega))
   rw[<-hW0]
   exact(((((Below.refl _ w).alloc (Nat.le_refl _) _).alloc (by simp) _).alloc (by simp;omega) _).alloc (by simp;omega) _)
  refine⟨hbw,hs,⟨_,e2.trans ?_,World.ownsRow_nil _ _ _ _⟩,e1.trans ?_,e3.trans ?_⟩
  ·rw[<-hW0];have:=(Boxed.new ((w.alloc (.cells (jB A1 A2 A3 A4 c1 c2 c3 c4 f c) 128)).alloc (.cells #[.int .i64 r] 3)) 51 (.slice none 0 0)).alloc (.cells (jB A1 A2 A3 A4 c1 c2 c3 c4 f c) 128);simp only[World.size_alloc]at this;exact this
  ·rw[<-hW0];have:=((Boxed.new (w.alloc (.cells (jB A1 A2 A3 A4 c1 c2 c3 c4 f c) 128)) 3 (.int .i64 r)).alloc (.cells #[.slice none 0 0] 51)).alloc (.cells (jB A1 A2 A3 A4 c1 c2 c3 c4 f c) 128);simp only[World.size_alloc]at this;exact this
  ·rw[<-hW0];have:=World.alloc_heap_new (((w.alloc (.cells (jB A1 A2 A3 A4 c1 c2 c3 c4 f c) 128)).alloc (.cells #[.int .i64 r] 3)).alloc (.cells #[.slice none 0 0] 51)) (.cells (jB A1 A2 A3 A4 c1 c2 c3 c4 f c) 128);simp only[World.size_alloc]at this;exact this
 rw[hW0]
 refine lY (F:=Fence.wide) (encs:=uP) rfl (by omega) (gf:=189) (lb:= #[.pointer (some ⟨w.heap.size+3,0,none⟩)]) (by simp[go_sem]) trivial (enters_of func189 (by kernel_rfl) rfl) (fun _=>rfl)
  (fun k (_:Pl.Sp)=>k+1) 0 (Pl.spans f c).length (fun k x=>(Pl.spans f c)[k]?=some x) (BI A1 A2 A3 A4 c1 c2 c3 c4 f c r w) (Yx A1 A2 A3 A4 c1 c2 c3 c4 f c r w) ?put ?FX ?start ?seq ?assign ?body ?done
 case put=>
  intro s W r r' hl h
  exact h.putObj _ hl rfl (by omega)
 case FX=>
  rintro x a' W r r' hl ⟨Bx,hB,hb,rfl⟩
  exact⟨Bx,hB,(World.putObj_heap_other (by omega)).trans hb,rfl⟩
 case start=>
  intro r
  refine hN0 _ (((Below.refl _ W0).alloc (Nat.le_refl _) _).alloc (by simp) _) (by simp;omega)
 case seq=>
  rintro rec W1 hY hI hl hk
  rw[hs0]at hY hl hk ⊢
  have hJ:Rp A1 A2 A3 A4 c1 c2 c3 c4 f c (w.heap.size+3) (w.heap.size+4+1) (3-1) w (fun k W=>BI A1 A2 A3 A4 c1 c2 c3 c4 f c r w k W∧W.heap[w.heap.size+4+1]?=some (.loop rec)∧W.heap[w.heap.size+4]?=some (.deferred (some []))):=
   ⟨fun k W h=>h.1.box,fun k W h=>h.1.below,fun k W W' h hb=>⟨h.1.kept hb,(hb.block _ (by have:=h.1.sz;omega)).trans h.2.1,(hb.block _ (by have:=h.1.sz;omega)).trans h.2.2⟩,fun k x W hx h=>hY k x W hx h.1 h.2.1 h.2.2⟩
  exact O5 A1 A2 A3 A4 c1 c2 c3 c4 f c (w.heap.size+3) (w.heap.size+4+1) (3-1) w W1 _ hJ ⟨hI,hl,hk⟩ ht hL hS hf hva hx WV
 case assign=>
  rintro s x W K rr hp hi hl hk hK
  rw[hs0]at hl hk hK ⊢
  unfold uP
  gi_wp2
  exact hK _ _ (hi.kept ((Below.refl _ W).alloc (Nat.le_refl _) _)) ⟨W.heap.size,hi.sz,World.alloc_heap_new W _,rfl⟩ ((Below.heap_alloc _ _ _ (lO hl)).trans hl) ((Below.heap_alloc _ _ _ (lO hk)).trans hk)
 case body=>
  rintro k x a' W rr hp hi ⟨Bx,hB,hb,rfl⟩ hl hk
  rw[hs0]at hl hk ⊢
  have hxm:x∈Pl.spans f c:=List.mem_of_getElem? hp
  obtain⟨l0,l1⟩:=hlo x hxm
  have hkl:k<(Pl.spans f c).length:=(List.getElem?_eq_some_iff.1 hp).1
  obtain⟨v,hv,hr⟩:=hi.own
  have hc:=hv.cell
  have hf1:=hv.frozen
  have hrc:=hi.Xa.cell
  have b0:W.cell? ⟨Bx,0,none⟩=some (.int .i64 (x.fr:Int)):=by simp[World.cell?,hb]
  have b1:W.cell? ⟨Bx,1,none⟩=some (.int .i64 (x.till:Int)):=by simp[World.cell?,hb]
  have b2:W.cell? ⟨Bx,2,none⟩=some (.int .i64 x.lo):=by simp[World.cell?,hb]
  have b3:W.cell? ⟨Bx,3,none⟩=some (.int .i64 x.hi):=by simp[World.cell?,hb]
  have Yy:IntKind.i64.wrap (-x.lo)= -x.lo:=IntWalk.i64_in _ (by omega)
  obtain⟨g',cap',w2,hrun,hown2,hv2,hb2⟩:=Rq x r hv hr (by omega) hi.sz
  have hc2:=hv2.cell
  have hf2:=hv2.frozen
  gi_wp2
  have hsz:=hi.sz
  have key: ∀j,j<w.heap.size+6->j≠w.heap.size+2->(w2.setCell ⟨w.heap.size+2,0,none⟩ (.slice (some ⟨g',0,none⟩) (2*k+2) cap')).heap[j]?=W.heap[j]?:=fun j hj hne=>
   (Below.heap_setCell _ _ _ _ hne).trans (hb2.block j hj)
  have hgs:=grownBy_setCell' w2 (w.heap.size+2) (.slice (some ⟨g',0,none⟩) (2*k+2) cap')
  refine⟨⟨hi.below.trans ((hb2.mono (show w.heap.size<=w.heap.size+6 by omega)).setCell (p:=⟨w.heap.size+2,0,none⟩) (by show w.heap.size<=w.heap.size+2;omega) _),by have:=hb2.size;have:=hgs.size;omega,⟨_,hv2.set _,?_⟩,(key _ (by omega) (by omega)).trans hi.Xa,(key _ (by omega) (by omega)).trans hi.box⟩,(key _ (by omega) (by omega)).trans hl,(key _ (by omega) (by omega)).trans hk⟩
  rw[Gb hp,List.flatMap_append,show 2*(k+1)=2*k+2 by omega]
  have:=hown2.kept hgs (.inr (hv2.not_row (by decide) hown2).symm)
  simpa using this
 case done=>
  rintro W hi hk
  rw[hs0]at hk
  obtain⟨v,hv,hr⟩:=hi.own
  have hc:=hv.cell
  have hf1:=hv.frozen
  gi_wp2
  rw[hs0]
  have hq:(Pl.kL f c r).length=2*(Pl.spans f c).length:=by
   unfold Pl.kL
   generalize Pl.spans f c=l
   clear hi hr hc hk hv hf1 hlo hlen hN0 hW0 hs0 ht
   induction l with
   |nil=>rfl
   |cons x l ih=>rw[List.flatMap_cons,List.length_append,ih,List.length_cons];simp[Pl.R9];omega
  rw[List.take_length,<-hq]at hr
  have hr2:W.ownsRow (w.heap.size+6) 99 4 v (Pl.kL f c r).length ((Pl.kL f c r).flatMap gP):=hr
  have hr3:=ownsRow_putObj hr2 (.deferred none) hk rfl
  obtain⟨A',c',hv',hN,hc',hF⟩:=dQ tX hr3
  subst hv'
  refine⟨by simp,.inl ⟨_,_,rfl,run_takeDeferred hk,?_⟩⟩
  refine⟨_,results_tmp rfl _ _ _,A',c',rfl,hN,hc',fun a ha=>by have:=hF a ha;omega,?_⟩
  exact hi.below.trans (belowK_b (w:=w) (Nat.le_refl _) W (w.heap.size+4) _ _ (by omega) hk rfl rfl)
end Go.Proofs
namespace Go.Proofs
open Tryz RowKit
attribute [-go_sem] run_equalIn_agg storeVar loadVar
attribute [local go_sem] bZ bH dU aT eB
noncomputable def Pl.aM (f:Pl.aL)(c:Pl.aZ):Int:=if Pl.aR f=0 then Pl.fP f c else Pl.aR f
theorem uQ (A1 A2 A3 A4:Option Addr)(c1 c2 c3 c4:Nat)(f:Pl.aL)(c:Pl.aZ)(w:World)(hf:bB w w.heap.size A1 A2 A3 A4 f)(hm:Small f)(hc:dY c1 c2 c3 c4 f)(hk:c.kind<=255):
  Calls prog 38 #[.agg (fq A1 A2 A3 A4 c1 c2 c3 c4 f),.agg (kq c)] w fun e w'=>e=.returned (.int .i64 (Pl.aM f c))∧Below w.heap.size w w':=by
 have kf:=(heap_alloc_new w (.cells (fq A1 A2 A3 A4 c1 c2 c3 c4 f) 28))
 have kc:=(heap_alloc_new (w.alloc (.cells (fq A1 A2 A3 A4 c1 c2 c3 c4 f) 28)) (.cells (kq c) 48))
 rw[World.size_alloc]at kc
 have kf:=(Below.heap_alloc _ (.cells (kq c) 48) _ (lO kf)).trans kf
 have l0:=ak kf underlying28 rfl av
 have hall:Below w.heap.size w ((w.alloc (.cells (fq A1 A2 A3 A4 c1 c2 c3 c4 f) 28)).alloc (.cells (kq c) 48)):=((Below.refl _ w).alloc (Nat.le_refl _) _).alloc (by simp) _
 obtain⟨E,hE⟩: ∃E,Pl.aR f=E:=⟨_,rfl⟩
 have HE:=Lib.hid hE
 have HR:Hid (Pl.aM f c=if E=0 then Pl.fP f c else E):=Lib.hid (by unfold Pl.aM;rw[hE])
 clear hE
 by_cases h0:E=0
 ·subst h0
  go_enter func38,ntmps38
  go_wp2_with first|(go_at_call 22;refine(bX A1 A2 A3 A4 c1 c2 c3 c4 f 0 _ HE (hf.up hall) hm hc).mono ?_;rintro e w1 ⟨rfl,hx⟩;have kf:=kE hx kf;have kc:=kE hx kc;have hall:Below w.heap.size w w1:=hall.trans (hx.mono hall.size);clear l0;have l1:=ak kf underlying28 rfl av;have l2:=ak kc underlying48 rfl aj;obtain⟨hcf,nY⟩:=ah kf;clear hx)|(go_at_call 108;refine(Ie A1 A2 A3 A4 c1 c2 c3 c4 f c _ (hf.up hall) hm hc HE.out hk).mono ?_;rintro e w2 ⟨rfl,hx⟩;have hall:Below w.heap.size w w2:=hall.trans (hx.mono hall.size);clear hx)
  go_ret
  exact⟨aH (by rw[HR.out];simp),hall⟩
 ·go_enter func38,ntmps38
  go_wp2_with (go_at_call 22;refine(bX A1 A2 A3 A4 c1 c2 c3 c4 f E _ HE (hf.up hall) hm hc).mono ?_;rintro e w1 ⟨rfl,hx⟩;have kf:=kE hx kf;have kc:=kE hx kc;have hall:Below w.heap.size w w1:=hall.trans (hx.mono hall.size);clear l0;have l1:=ak kf underlying28 rfl av;have l2:=ak kc underlying48 rfl aj;obtain⟨hcf,nY⟩:=ah kf;clear hx)
  go_ret
  exact⟨aH (by rw[HR.out,if_neg h0]),hall⟩
theorem gX (A1 A2 A3 A4:Option Addr)(c1 c2 c3 c4:Nat)(f:Pl.aL)(c:Pl.aZ)(E:Int)(w:World)(hE:Hid (Pl.aM f c=E))(hf:bB w w.heap.size A1 A2 A3 A4 f)(hm:Small f)(hc:dY c1 c2 c3 c4 f)(hk:c.kind<=255):
  Calls prog 38 #[.agg (fq A1 A2 A3 A4 c1 c2 c3 c4 f),.agg (kq c)] w fun e w'=>e=.returned (.int .i64 E)∧Below w.heap.size w w':=by
 have:=uQ A1 A2 A3 A4 c1 c2 c3 c4 f c w hf hm hc hk
 rw[hE.out]at this
 exact this
theorem LV {f:Pl.aL}{c:Pl.aZ}(h:Pl.aM f c=0):Pl.rG f∧c.tab f.st.length f.li.length:=by
 unfold Pl.aM at h
 split at h
 ·rename_i h0
  refine⟨Pl.iV h0,?_⟩
  unfold Pl.fP at h
  split at h
  ·cases h
  ·rename_i h1;exact Classical.not_not.1 h1
 ·rename_i h0;exact absurd h h0
theorem LW {f:Pl.aL}{c:Pl.aZ}{S L:Nat}(ht:c.tab S L): ∀x∈Pl.spans f c,-1000000000000000<=x.lo∧x.lo<=1000000000000000:=by
 obtain⟨_,_,h⟩:=ht
 intro x hx
 unfold Pl.spans at hx
 split at hx<;>rename_i hk
 ·simp at hx;subst hx;simp only;rcases h with h|h|h|h|h<;>omega
 ·simp at hx;subst hx;simp only;rcases h with h|h|h|h|h<;>omega
 ·simp at hx;subst hx;simp only;have:=Pl.Qq f.va [c.aB] (Pl.kH f.st c);omega
 ·obtain⟨k,_,rfl⟩:=List.mem_map.1 hx;simp only;omega
 ·simp at hx;subst hx;simp only;rcases h with h|h|h|h|h<;>omega
 ·cases hx
theorem JG {f:Pl.aL}{c:Pl.aZ}{S L:Nat}(ht:c.tab S L)(hS:S<=100000):(Pl.spans f c).length<=100001:=by
 obtain⟨_,⟨f0,f1⟩,h⟩:=ht
 unfold Pl.spans
 split<;>rename_i hk
 ·simp
 ·simp
 ·simp
 ·simp only[List.length_map,List.length_range];rcases h with h|h|h|h|h<;>omega
 ·simp
 ·simp
noncomputable def Pl.iO (f:Pl.aL)(c:Pl.aZ)(r:Int):Int:=if Pl.aM f c=0 then (if Pl.bQ r 0 1000000=true then 0 else 1)else Pl.aM f c
noncomputable def Pl.qo (f:Pl.aL)(c:Pl.aZ)(r:Int):List Pl.Bd:=if Pl.iO f c r=0 then Pl.kL f c r else []
def LY (l:List Pl.Bd)(E:Int)(w:World)(e:Ending)(w':World):Prop:= ∃A c,e=.returned (.tuple #[.slice A l.length c,.int .i64 E])∧Seg gP 4 w' w'.heap.size A l∧l.length<=c∧From w.heap.size A∧Below w.heap.size w w'
theorem D9 (A1 A2 A3 A4:Option Addr)(c1 c2 c3 c4:Nat)(f:Pl.aL)(c:Pl.aZ)(r:Int)(w:World)(hf:bB w w.heap.size A1 A2 A3 A4 f)(hm:Small f)(hc:dY c1 c2 c3 c4 f)(hk:c.kind<=255)(WV:c.kind=1∨c.kind=3):
  Calls prog 27 #[.agg (fq A1 A2 A3 A4 c1 c2 c3 c4 f),.agg (kq c),.int .i64 r] w (LY (Pl.qo f c r) (Pl.iO f c r) w):=by
 have kf:=(heap_alloc_new w (.cells (fq A1 A2 A3 A4 c1 c2 c3 c4 f) 28))
 have kc:=(heap_alloc_new (w.alloc (.cells (fq A1 A2 A3 A4 c1 c2 c3 c4 f) 28)) (.cells (kq c) 48))
 rw[World.size_alloc]at kc
 have kf:=(Below.heap_alloc _ (.cells (kq c) 48) _ (lO kf)).trans kf
 have iw:=ak kf underlying28 rfl av
 have gZ:=ak kc underlying48 rfl aj
 have hall:Below w.heap.size w ((w.alloc (.cells (fq A1 A2 A3 A4 c1 c2 c3 c4 f) 28)).alloc (.cells (kq c) 48)):=((Below.refl _ w).alloc (Nat.le_refl _) _).alloc (by simp) _
 obtain⟨E,hE⟩: ∃E,Pl.aM f c=E:=⟨_,rfl⟩
 have HC:=Lib.hid hE
 clear hE
 by_cases h0:E=0
 ·subst h0
  obtain⟨hok,ht⟩:=LV HC.out
  obtain⟨I,hI⟩: ∃I,Pl.bQ r 0 1000000=I:=⟨_,rfl⟩
  cases I with
  |false=>
   have HB:Hid (Pl.iO f c r=1):=Lib.hid (by unfold Pl.iO;rw[if_pos HC.out,if_neg (by rw[hI];decide)])
   have hin:=fun W=>dP r 0 1000000 W
   rw[hI]at hin
   clear hI
   go_enter func27,ntmps27
   go_wp2_with first|(go_at_call 38;refine(gX A1 A2 A3 A4 c1 c2 c3 c4 f c 0 _ HC (hf.up hall) hm hc hk).mono ?_;rintro e w1 ⟨rfl,hx⟩;have kf:=kE hx kf;have kc:=kE hx kc;have hall:Below w.heap.size w w1:=hall.trans (hx.mono hall.size);have l1:=ak kf underlying28 rfl av;have l2:=ak kc underlying48 rfl aj;clear hx)|(go_at_call 84;refine(hin _).mono ?_;rintro e w2 ⟨rfl,rfl⟩)
   go_ret2
   unfold Pl.qo
   rw[if_neg (by rw[HB.out];decide),HB.out]
   exact⟨none,0,rfl,.inl rfl,Nat.le_refl _,(fun a ha=>by cases ha),hall⟩
  |true=>
   have HB:Hid (Pl.iO f c r=0):=Lib.hid (by unfold Pl.iO;rw[if_pos HC.out,if_pos hI])
   have hin:=fun W=>dP r 0 1000000 W
   rw[hI]at hin
   clear hI
   obtain⟨L,hL⟩: ∃L,Pl.kL f c r=L:=⟨_,rfl⟩
   have hbd:=fun W (hW:bB W W.heap.size A1 A2 A3 A4 f)=>LU A1 A2 A3 A4 c1 c2 c3 c4 f c r W WV ht (by have:=hok.KD;omega) (by have:=hok.I9;omega) hW hm.va hok.x (LW ht) (JG ht (by have:=hok.I9;omega))
   rw[hL]at hbd
   have HL:=Lib.hid hL
   clear hL
   go_enter func27,ntmps27
   go_wp2_with first|(go_at_call 38;refine(gX A1 A2 A3 A4 c1 c2 c3 c4 f c 0 _ HC (hf.up hall) hm hc hk).mono ?_;rintro e w1 ⟨rfl,hx⟩;have kf:=kE hx kf;have kc:=kE hx kc;have hall:Below w.heap.size w w1:=hall.trans (hx.mono hall.size);have l1:=ak kf underlying28 rfl av;have l2:=ak kc underlying48 rfl aj;clear hx)|(go_at_call 84;refine(hin _).mono ?_;rintro e w2 ⟨rfl,rfl⟩)|(go_at_call 90;refine(hbd _ (hf.up hall)).mono ?_;rintro e w3 ⟨A,k,rfl,hS,hle,hF,hx⟩)
   go_ret2
   unfold Pl.qo
   rw[if_pos HB.out,HB.out,HL.out]
   exact⟨A,k,rfl,hS,hle,(fun a ha=>by have:=hF a ha;have:=hall.size;omega),hall.trans (hx.mono hall.size)⟩
 ·have HB:Hid (Pl.iO f c r=E):=Lib.hid (by unfold Pl.iO;rw[HC.out,if_neg h0])
  go_enter func27,ntmps27
  go_wp2_with (go_at_call 38;refine(gX A1 A2 A3 A4 c1 c2 c3 c4 f c E _ HC (hf.up hall) hm hc hk).mono ?_;rintro e w1 ⟨rfl,hx⟩;have kf:=kE hx kf;have kc:=kE hx kc;have hall:Below w.heap.size w w1:=hall.trans (hx.mono hall.size);have l1:=ak kf underlying28 rfl av;have l2:=ak kc underlying48 rfl aj;clear hx)
  go_ret2
  unfold Pl.qo
  rw[HB.out,if_neg h0]
  exact⟨none,0,rfl,.inl rfl,Nat.le_refl _,(fun a ha=>by cases ha),hall⟩
