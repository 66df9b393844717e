/- Proved: parts of the walk. -/
import Derived.LoopIn
import Derived.LoopNIn
import Derived.OwnWalkIn
import Derived.RangeFuncBound
import Derived.RangeFuncNested
import Derived.Shelf.RegionOpen
import Derived.Shelf.SlicesE.DeleteFunc
import Derived.WideMake
import Derived.Test.YtgbpekeoegfjpaaGreatDoorVZ03
set_option maxRecDepth 100000
set_option maxHeartbeats 4000000
namespace Go.Proofs
open Tryz RowKit Shelf
variable (A1 A2 A3 A4 : Option Addr) (c1 c2 c3 c4 : Nat) (f : Pl.aL)
attribute [local go_sem] Oper.semAt_some
theorem Tq (f:Pl.aL){l s:Int}(h0:0<=l)(h1:0<=s):1+l*(f.st.length:Int)+s=((Pl.q8 f l s:Nat):Int):=by
 obtain⟨a,rfl⟩:=Int.eq_ofNat_of_zero_le h0
 obtain⟨b,rfl⟩:=Int.eq_ofNat_of_zero_le h1
 unfold Pl.q8 Pl.eP
 simp
theorem O3 (k:Int)(c:Pl.aZ)(bc:Nat)(l s:Int)(w:World)(hb:w.heap[bc]?=some (.cells (bG A1 A2 A3 A4 c1 c2 c3 c4 f k c) 128 (0,0)))(h0:0<=l)(h1:l<=1000)(h2:f.st.length<=100000)(h3:0<=s)(h4:s<=100000):
  Calls prog 190 #[.int .i64 l,.int .i64 s,.pointer (some ⟨bc,0,none⟩)] w fun e w'=>e=.returned (.int .i64 (Pl.q8 f l s:Nat))∧Below w.heap.size w w':=by
 obtain⟨hcb,ru⟩:=ah hb
 have HP:=Lib.hid (Tq f h0 h3)
 go_enter func190,ntmps190
 go_wp2_with (go_at_call 110;refine(rT A1 A2 A3 A4 c1 c2 c3 c4 f l s _ h0 h1 h2 h3 h4).mono ?_;rintro e w1 ⟨rfl,hx1⟩;have hb1:=bT (w:=w) hx1;clear hx1;have hsz1:w.heap.size<=w1.heap.size:=hb1.size)
 go_ret
 exact⟨aH HP.out,by go_grown⟩
def uP (x:Pl.Sp):Array Value:= #[.agg (i4 (x.fr:Int) (x.till:Int) x.lo x.hi)]
structure Rp (A1 A2 A3 A4:Option Addr)(c1 c2 c3 c4:Nat)(f:Pl.aL)(c:Pl.aZ)(bc L n:Nat)(w:World)(J:Nat->World->Prop):Prop where
 box: ∀k W,J k W->W.heap[bc]?=some (.cells (jB A1 A2 A3 A4 c1 c2 c3 c4 f c) 128 (0,0))
 base: ∀k W,J k W->Below w.heap.size w W
 up: ∀k W W',J k W->Below W.heap.size W W'->J k W'
 y: ∀k x W,(Pl.spans f c)[k]?=some x->J k W->YieldAt Fence.wide (n-1) prog L (uP x) W fun e W'=>e=.returned (.bool true)∧J (k+1) W'
theorem D5 (c:Pl.aZ)(bc L n:Nat)(w W1:World)(J:Nat->World->Prop)(hJ:Rp A1 A2 A3 A4 c1 c2 c3 c4 f c bc L n w J)(h0:J 0 W1)(hk:c.kind=1)(ht:c.tab f.st.length f.li.length)(hL:f.li.length<=1000)(hS:f.st.length<=100000):
  CallsIn Fence.wide n prog 189 #[.func (.yield L) #[] #[],.pointer (some ⟨bc,0,none⟩)] W1 fun e W'=>(∃v,e=.returned v)∧J (Pl.spans f c).length W':=by
 obtain⟨⟨l0,l1⟩,⟨f0,f1⟩,ht⟩:=ht
 have h5:0<=c.size∧c.size<=100000∧0<=c.er∧c.er<=100000:=by rcases ht with h|h|h|h|h<;>omega
 obtain⟨z0,z1,e0,e1⟩:=h5
 have es:IntKind.i64.wrap (c.size-c.er)=c.size-c.er:=IntWalk.i64_in _ (by omega)
 have ea:IntKind.i64.wrap (c.size+c.er)=c.size+c.er:=IntWalk.i64_in _ (by omega)
 have hsp:Hid (Pl.spans f c=[⟨0,Pl.q8 f c.lim c.fr,c.size-c.er,c.size+c.er⟩]):=Lib.hid (by unfold Pl.spans;rw[hk];rfl)
 have kb:=hJ.box _ _ h0
 rw[hk]at kb
 have kb:W1.heap[bc]?=some (.cells (bG A1 A2 A3 A4 c1 c2 c3 c4 f 1 c) 128 (0,0)):=kb
 obtain⟨hcb,ru⟩:=ah kb
 have Cv: ∀(fn:Fn) (first cap:Array Value) (w:World),(Instr.makeFunc fn first cap).run prog w=.ok (.func fn first cap) w:=fun _ _ _ _=>rfl
 refine callsIn_of_wp func189 rfl trivial ?_ rfl
 simp only[ntmps189,List.size_toArray,List.length_cons,List.length_nil,Nat.reduceAdd,Nat.reduceSub,Array.replicate_succ,Array.replicate_zero,List.push_toArray,List.append_toArray,List.nil_append,List.cons_append]
 gi_wp2_with fail
 clear hcb ru ht
 have hj:J 0 W1.drew:=hJ.up _ _ _ h0 ((Below.refl _ _).drew)
 have hS0: ∀j,W1.drew.cell? ⟨bc,j,none⟩=((bG A1 A2 A3 A4 c1 c2 c3 c4 f 1 c):Array Value)[j]?:=(ah kb).1
 refine kR (S:=fun W=> ∀j,W.cell? ⟨bc,j,none⟩=((bG A1 A2 A3 A4 c1 c2 c3 c4 f 1 c):Array Value)[j]?) (by kernel_rfl) hS0 (fun hHeld=> ?_)
 have kb:W1.drew.heap[bc]?=_:=kb
 clear h0 hS0
 generalize W1.drew=W0 at*
 refine tK 0 15 rfl rfl ?_
 try simp only[au]
 refine tK 1 16 rfl rfl ?_
 try simp only[au]
 refine tK 2 17 rfl rfl ?_
 try simp only[au]
 refine tK 3 18 rfl rfl ?_
 try simp only[au]
 refine tK 4 19 rfl rfl ?_
 try simp only[au]
 refine tK 5 20 rfl rfl ?_
 try simp only[au]
 refine tK 6 21 rfl rfl ?_
 try simp only[au]
 refine tK 7 22 rfl rfl ?_
 try simp only[au]
 refine tK 9 24 rfl rfl ?_
 try simp only[au]
 refine tK 10 25 rfl rfl ?_
 try simp only[au]
 refine tK 11 26 rfl rfl ?_
 try simp only[au]
 refine tK 12 27 rfl rfl ?_
 try simp only[au]
 refine tK 13 28 rfl rfl ?_
 try simp only[au]
 refine tK 14 29 rfl rfl ?_
 try simp only[au]
 refine tK 15 30 rfl rfl ?_
 try simp only[au]
 refine tK 16 31 rfl rfl ?_
 try simp only[au]
 refine tK 17 32 rfl rfl ?_
 try simp only[au]
 refine tK 18 33 rfl rfl ?_
 try simp only[au]
 refine tK 19 34 rfl rfl ?_
 try simp only[au]
 refine tK 20 35 rfl rfl ?_
 try simp only[au]
 refine tK 21 36 rfl rfl ?_
 try simp only[au]
 refine tK 22 37 rfl rfl ?_
 try simp only[au]
 have W_:c.fr<=100000:=by omega
 refine fZ (rs:=[8]) (by kernel_rfl) (by simp) ?_
 refine dO.cons (some 23) rfl rfl (fun K hK=> ?_) dO.nil
 go_simp
 refine⟨trivial,fun h=>(by cases h),?_⟩
 refine(callsIn_wide.2 (O3 A1 A2 A3 A4 c1 c2 c3 c4 f 1 c bc c.lim c.fr _ kb (by omega) (by omega) hS (by omega) (by omega))).mono ?_
 rintro e W1 ⟨rfl,hx⟩
 have hj:=hJ.up _ _ _ hj hx
 have kb:=(hx.block bc (lO kb)).trans kb
 clear hx
 refine hK.out _ _ (ah kb).1 (fun hHeld=> ?_)
 clear hK K
 try simp only[au]
 refine tK 23 38 rfl rfl ?_
 try simp only[au]
 obtain⟨fn,tmps,assign,body,hy,O4⟩:=hJ.y 0 ⟨0,Pl.q8 f c.lim c.fr,c.size-c.er,c.size+c.er⟩ _ (by rw[hsp.out];rfl) hj
 unfold uP at hy
 simp only[Int.cast_ofNat_Int]at hy
 refine fZ (rs:=[24]) (by kernel_rfl) (by simp) ?_
 refine dO.cons (some 39) rfl rfl (fun K hK=> ?_) dO.nil
 go_simp
 refine⟨fun h=>(by cases h),O4.mono ?_⟩
 rintro e W9 ⟨rfl,Iq⟩
 have vF:=hJ.box _ _ Iq
 rw[hk]at vF
 have vF:W9.heap[bc]?=some (.cells (bG A1 A2 A3 A4 c1 c2 c3 c4 f 1 c) 128 (0,0)):=vF
 refine hK.out _ _ (ah vF).1 (fun hHeld=> ?_)
 clear hK K
 try simp only[au]
 refine tO (by kernel_rfl) ?_ _
 gi_wp2
 go_end0
 exact⟨⟨_,rfl⟩,by rw[hsp.out];exact Iq⟩
