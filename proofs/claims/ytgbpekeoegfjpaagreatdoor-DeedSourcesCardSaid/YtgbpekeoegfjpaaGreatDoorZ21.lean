/- Texts of mine, merged: EP. -/
import Derived.Test.YtgbpekeoegfjpaaGreatDoorZ02
import Derived.Test.YtgbpekeoegfjpaaGreatDoorZ20
import Derived.Test.YtgbpekeoegfjpaaGreatDoorZ00
/- Walks: what a call says, span by span. -/
set_option maxRecDepth 100000
namespace Go.Proofs.YtgbpekeoegfjpaaGreatDoor
open Go.RowKit Go.Shelf
variable (A1 A2 A3 A4 : Option Addr) (c1 c2 c3 c4 : Nat) (f : Pl.Fld)
attribute [local go_sem] Oper.semAt_some
theorem pt_eq (f:Pl.Fld){l s:Int}(h0:0<=l)(h1:0<=s):1+l*(f.st.length:Int)+s=((Pl.ptC f l s:Nat):Int):=by
 obtain⟨a,rfl⟩:=Int.eq_ofNat_of_zero_le h0
 obtain⟨b,rfl⟩:=Int.eq_ofNat_of_zero_le h1
 unfold Pl.ptC Pl.pointN
 simp
theorem p_a (k:Int)(c:Pl.Cal)(bc:Nat)(l s:Int)(w:World)(hb:w.heap[bc]?=some (.cells (fkq A1 A2 A3 A4 c1 c2 c3 c4 f k c) 128 (0,0)))(h0:0<=l)(h1:l<=1000)(h2:f.st.length<=100000)(h3:0<=s)(h4:s<=100000):
  Calls Tryz.prog 190 #[.int .i64 l,.int .i64 s,.pointer (some ⟨bc,0,none⟩)] w fun e w'=>e=.returned (.int .i64 (Pl.ptC f l s:Nat))∧Below w.heap.size w w':=by
 obtain⟨hcb,hfb⟩:=blk_cells hb
 have HP:=Lib.hid (pt_eq f h0 h3)
 go_enter Tryz.func190,Tryz.ntmps190
 go_wp2_with (go_at_call 110;refine(point_a A1 A2 A3 A4 c1 c2 c3 c4 f l s _ h0 h1 h2 h3 h4).mono ?_;rintro e w1 ⟨rfl,hx1⟩;have hb1:Below w.heap.size w w1:=Below.trans (by go_grown) (hx1.mono (by go_size));clear hx1;have hsz1:w.heap.size<=w1.heap.size:=hb1.size)
 go_ret
 exact⟨ret_int HP.out,by go_grown⟩
def encSp (x:Pl.Sp):Array Value:= #[.agg (i4 (x.fr:Int) (x.till:Int) x.lo x.hi)]
structure SpJ (A1 A2 A3 A4:Option Addr)(c1 c2 c3 c4:Nat)(f:Pl.Fld)(c:Pl.Cal)(bc L n:Nat)(w:World)(J:Nat->World->Prop):Prop where
 box: ∀k W,J k W->W.heap[bc]?=some (.cells (fcq A1 A2 A3 A4 c1 c2 c3 c4 f c) 128 (0,0))
 base: ∀k W,J k W->Below w.heap.size w W
 up: ∀k W W',J k W->Below W.heap.size W W'->J k W'
 y: ∀k x W,(Pl.spans f c)[k]?=some x->J k W->YieldAt Fence.wide (n-1) Tryz.prog L (encSp x) W fun e W'=>e=.returned (.bool true)∧J (k+1) W'
set_option maxHeartbeats 4000000 in
theorem spans_stone (c:Pl.Cal)(bc L n:Nat)(w W1:World)(J:Nat->World->Prop)(hJ:SpJ A1 A2 A3 A4 c1 c2 c3 c4 f c bc L n w J)(h0:J 0 W1)(hk:c.kind=1)(ht:c.tab f.st.length f.li.length)(hL:f.li.length<=1000)(hS:f.st.length<=100000):
  CallsIn Fence.wide n Tryz.prog 189 #[.func (.yield L) #[] #[],.pointer (some ⟨bc,0,none⟩)] W1 fun e W'=>(∃v,e=.returned v)∧J (Pl.spans f c).length W':=by
 obtain⟨⟨l0,l1⟩,⟨f0,f1⟩,ht⟩:=ht
 have h5:0<=c.size∧c.size<=100000∧0<=c.er∧c.er<=100000:=by rcases ht with h|h|h|h|h<;>omega
 obtain⟨z0,z1,e0,e1⟩:=h5
 have es:IntKind.i64.wrap (c.size-c.er)=c.size-c.er:=IntWalk.i64_in _ (by omega)
 have ea:IntKind.i64.wrap (c.size+c.er)=c.size+c.er:=IntWalk.i64_in _ (by omega)
 have hsp:Hid (Pl.spans f c=[⟨0,Pl.ptC f c.lim c.fr,c.size-c.er,c.size+c.er⟩]):=Lib.hid (by unfold Pl.spans;rw[hk];rfl)
 have kb:=hJ.box _ _ h0
 rw[hk]at kb
 have kb:W1.heap[bc]?=some (.cells (fkq A1 A2 A3 A4 c1 c2 c3 c4 f 1 c) 128 (0,0)):=kb
 obtain⟨hcb,hfb⟩:=blk_cells kb
 have hmf: ∀(fn:Fn) (first cap:Array Value) (w:World),(Instr.makeFunc fn first cap).run Tryz.prog w=.ok (.func fn first cap) w:=fun _ _ _ _=>rfl
 refine callsIn_of_wp Tryz.func189 rfl trivial ?_ rfl
 simp only[Tryz.ntmps189,List.size_toArray,List.length_cons,List.length_nil,Nat.reduceAdd,Nat.reduceSub,Array.replicate_succ,Array.replicate_zero,List.push_toArray,List.append_toArray,List.nil_append,List.cons_append]
 gi_wp2_with fail
 clear hcb hfb ht
 have hj:J 0 W1.drew:=hJ.up _ _ _ h0 ((Below.refl _ _).drew)
 have hS0: ∀j,W1.drew.cell? ⟨bc,j,none⟩=((fkq A1 A2 A3 A4 c1 c2 c3 c4 f 1 c):Array Value)[j]?:=(blk_cells kb).1
 refine region_HI (S:=fun W=> ∀j,W.cell? ⟨bc,j,none⟩=((fkq A1 A2 A3 A4 c1 c2 c3 c4 f 1 c):Array Value)[j]?) (by kernel_rfl) hS0 (fun hHeld=> ?_)
 have kb:W1.drew.heap[bc]?=_:=kb
 clear h0 hS0
 generalize W1.drew=W0 at*
 refine tI 0 (some 15) (v:= ?v0) rfl rfl rfl (fun W hW=> ?hy0) ?hr0
 case hy0=>(try dsimp only at hW);go_simp;try with_reducible rfl
 try simp only[Act.put,q1,q2,q3]
 refine tI 1 (some 16) (v:= ?v1) rfl rfl rfl (fun W hW=> ?hy1) ?hr1
 case hy1=>(try dsimp only at hW);go_simp;try with_reducible rfl
 try simp only[Act.put,q1,q2,q3]
 refine tI 2 (some 17) (v:= ?v2) rfl rfl rfl (fun W hW=> ?hy2) ?hr2
 case hy2=>(try dsimp only at hW);go_simp;try with_reducible rfl
 try simp only[Act.put,q1,q2,q3]
 refine tI 3 (some 18) (v:= ?v3) rfl rfl rfl (fun W hW=> ?hy3) ?hr3
 case hy3=>(try dsimp only at hW);go_simp;try with_reducible rfl
 try simp only[Act.put,q1,q2,q3]
 refine tI 4 (some 19) (v:= ?v4) rfl rfl rfl (fun W hW=> ?hy4) ?hr4
 case hy4=>(try dsimp only at hW);go_simp;try with_reducible rfl
 try simp only[Act.put,q1,q2,q3]
 refine tI 5 (some 20) (v:= ?v5) rfl rfl rfl (fun W hW=> ?hy5) ?hr5
 case hy5=>(try dsimp only at hW);go_simp;try with_reducible rfl
 try simp only[Act.put,q1,q2,q3]
 refine tI 6 (some 21) (v:= ?v6) rfl rfl rfl (fun W hW=> ?hy6) ?hr6
 case hy6=>(try dsimp only at hW);go_simp;try with_reducible rfl
 try simp only[Act.put,q1,q2,q3]
 refine tI 7 (some 22) (v:= ?v7) rfl rfl rfl (fun W hW=> ?hy7) ?hr7
 case hy7=>(try dsimp only at hW);go_simp;try with_reducible rfl
 try simp only[Act.put,q1,q2,q3]
 refine tI 9 (some 24) (v:= ?v9) rfl rfl rfl (fun W hW=> ?hy9) ?hr9
 case hy9=>(try dsimp only at hW);go_simp;try with_reducible rfl
 try simp only[Act.put,q1,q2,q3]
 refine tI 10 (some 25) (v:= ?v10) rfl rfl rfl (fun W hW=> ?hy10) ?hr10
 case hy10=>(try dsimp only at hW);go_simp;try with_reducible rfl
 try simp only[Act.put,q1,q2,q3]
 refine tI 11 (some 26) (v:= ?v11) rfl rfl rfl (fun W hW=> ?hy11) ?hr11
 case hy11=>(try dsimp only at hW);go_simp;try with_reducible rfl
 try simp only[Act.put,q1,q2,q3]
 refine tI 12 (some 27) (v:= ?v12) rfl rfl rfl (fun W hW=> ?hy12) ?hr12
 case hy12=>(try dsimp only at hW);go_simp;try with_reducible rfl
 try simp only[Act.put,q1,q2,q3]
 refine tI 13 (some 28) (v:= ?v13) rfl rfl rfl (fun W hW=> ?hy13) ?hr13
 case hy13=>(try dsimp only at hW);go_simp;try with_reducible rfl
 try simp only[Act.put,q1,q2,q3]
 refine tI 14 (some 29) (v:= ?v14) rfl rfl rfl (fun W hW=> ?hy14) ?hr14
 case hy14=>(try dsimp only at hW);go_simp;try with_reducible rfl
 try simp only[Act.put,q1,q2,q3]
 refine tI 15 (some 30) (v:= ?v15) rfl rfl rfl (fun W hW=> ?hy15) ?hr15
 case hy15=>(try dsimp only at hW);go_simp;try with_reducible rfl
 try simp only[Act.put,q1,q2,q3]
 refine tI 16 (some 31) (v:= ?v16) rfl rfl rfl (fun W hW=> ?hy16) ?hr16
 case hy16=>(try dsimp only at hW);go_simp;try with_reducible rfl
 try simp only[Act.put,q1,q2,q3]
 refine tI 17 (some 32) (v:= ?v17) rfl rfl rfl (fun W hW=> ?hy17) ?hr17
 case hy17=>(try dsimp only at hW);go_simp;try with_reducible rfl
 try simp only[Act.put,q1,q2,q3]
 refine tI 18 (some 33) (v:= ?v18) rfl rfl rfl (fun W hW=> ?hy18) ?hr18
 case hy18=>(try dsimp only at hW);go_simp;try with_reducible rfl
 try simp only[Act.put,q1,q2,q3]
 refine tI 19 (some 34) (v:= ?v19) rfl rfl rfl (fun W hW=> ?hy19) ?hr19
 case hy19=>(try dsimp only at hW);go_simp;try with_reducible rfl
 try simp only[Act.put,q1,q2,q3]
 refine tI 20 (some 35) (v:= ?v20) rfl rfl rfl (fun W hW=> ?hy20) ?hr20
 case hy20=>(try dsimp only at hW);go_simp;try with_reducible rfl
 try simp only[Act.put,q1,q2,q3]
 refine tI 21 (some 36) (v:= ?v21) rfl rfl rfl (fun W hW=> ?hy21) ?hr21
 case hy21=>(try dsimp only at hW);go_simp;try with_reducible rfl
 try simp only[Act.put,q1,q2,q3]
 refine tI 22 (some 37) (v:= ?v22) rfl rfl rfl (fun W hW=> ?hy22) ?hr22
 case hy22=>(try dsimp only at hW);go_simp;try with_reducible rfl
 try simp only[Act.put,q1,q2,q3]
 have hS100:c.fr<=100000:=by omega
 refine readyHI (rs:=[8]) (by kernel_rfl) (by simp) ?_
 refine AllHI.cons (some 23) rfl rfl (fun K hK=> ?_) AllHI.nil
 go_simp
 refine⟨trivial,fun h=>(by cases h),?_⟩
 refine(callsIn_wide.2 (p_a A1 A2 A3 A4 c1 c2 c3 c4 f 1 c bc c.lim c.fr _ kb (by omega) (by omega) hS (by omega) (by omega))).mono ?_
 rintro e W1 ⟨rfl,hx⟩
 have hj:=hJ.up _ _ _ hj hx
 have kb:=(hx.block bc (lO kb)).trans kb
 clear hx
 refine hK.out _ _ (blk_cells kb).1 (fun hHeld=> ?_)
 clear hK K
 try simp only[Act.put,q1,q2,q3]
 refine tI 23 (some 38) (v:= ?v23) rfl rfl rfl (fun W hW=> ?hy23) ?hr23
 case hy23=>(try dsimp only at hW);go_simp;try with_reducible rfl
 try simp only[Act.put,q1,q2,q3]
 obtain⟨fn,tmps,assign,body,hy,hRd⟩:=hJ.y 0 ⟨0,Pl.ptC f c.lim c.fr,c.size-c.er,c.size+c.er⟩ _ (by rw[hsp.out];rfl) hj
 unfold encSp at hy
 simp only[Int.cast_ofNat_Int]at hy
 refine readyHI (rs:=[24]) (by kernel_rfl) (by simp) ?_
 refine AllHI.cons (some 39) rfl rfl (fun K hK=> ?_) AllHI.nil
 go_simp
 refine⟨fun h=>(by cases h),hRd.mono ?_⟩
 rintro e W9 ⟨rfl,hj9⟩
 have kb9:=hJ.box _ _ hj9
 rw[hk]at kb9
 have kb9:W9.heap[bc]?=some (.cells (fkq A1 A2 A3 A4 c1 c2 c3 c4 f 1 c) 128 (0,0)):=kb9
 refine hK.out _ _ (blk_cells kb9).1 (fun hHeld=> ?_)
 clear hK K
 try simp only[Act.put,q1,q2,q3]
 refine doneHI (by kernel_rfl) ?_ _
 gi_wp2
 go_end0
 exact⟨⟨_,rfl⟩,by rw[hsp.out];exact hj9⟩
set_option maxHeartbeats 4000000 in
theorem spans_width (c:Pl.Cal)(bc L n:Nat)(w W1:World)(J:Nat->World->Prop)(hJ:SpJ A1 A2 A3 A4 c1 c2 c3 c4 f c bc L n w J)(h0:J 0 W1)(hk:c.kind=2)(ht:c.tab f.st.length f.li.length)(hL:f.li.length<=1000)(hS:f.st.length<=100000):
  CallsIn Fence.wide n Tryz.prog 189 #[.func (.yield L) #[] #[],.pointer (some ⟨bc,0,none⟩)] W1 fun e W'=>(∃v,e=.returned v)∧J (Pl.spans f c).length W':=by
 obtain⟨⟨l0,l1⟩,⟨f0,f1⟩,ht⟩:=ht
 have h5:(0<=c.size∧c.size<=100000∧0<=c.er∧c.er<=100000)∧0<=c.oth∧c.oth<f.li.length:=by rcases ht with h|h|h|h|h<;>omega
 obtain⟨⟨z0,z1,e0,e1⟩,o0,o1⟩:=h5
 have es:IntKind.i64.wrap (c.size-c.er)=c.size-c.er:=IntWalk.i64_in _ (by omega)
 have ea:IntKind.i64.wrap (c.size+c.er)=c.size+c.er:=IntWalk.i64_in _ (by omega)
 have hsp:Hid (Pl.spans f c=[⟨Pl.ptC f c.lim c.fr,Pl.ptC f c.oth c.fr,c.size-c.er,c.size+c.er⟩]):=Lib.hid (by unfold Pl.spans;rw[hk];rfl)
 have kb:=hJ.box _ _ h0
 rw[hk]at kb
 have kb:W1.heap[bc]?=some (.cells (fkq A1 A2 A3 A4 c1 c2 c3 c4 f 2 c) 128 (0,0)):=kb
 obtain⟨hcb,hfb⟩:=blk_cells kb
 have hmf: ∀(fn:Fn) (first cap:Array Value) (w:World),(Instr.makeFunc fn first cap).run Tryz.prog w=.ok (.func fn first cap) w:=fun _ _ _ _=>rfl
 refine callsIn_of_wp Tryz.func189 rfl trivial ?_ rfl
 simp only[Tryz.ntmps189,List.size_toArray,List.length_cons,List.length_nil,Nat.reduceAdd,Nat.reduceSub,Array.replicate_succ,Array.replicate_zero,List.push_toArray,List.append_toArray,List.nil_append,List.cons_append]
 gi_wp2_with fail
 clear hcb hfb ht
 have hj:J 0 W1.drew:=hJ.up _ _ _ h0 ((Below.refl _ _).drew)
 have hS0: ∀j,W1.drew.cell? ⟨bc,j,none⟩=((fkq A1 A2 A3 A4 c1 c2 c3 c4 f 2 c):Array Value)[j]?:=(blk_cells kb).1
 refine region_HI (S:=fun W=> ∀j,W.cell? ⟨bc,j,none⟩=((fkq A1 A2 A3 A4 c1 c2 c3 c4 f 2 c):Array Value)[j]?) (by kernel_rfl) hS0 (fun hHeld=> ?_)
 have kb:W1.drew.heap[bc]?=_:=kb
 clear h0 hS0
 generalize W1.drew=W0 at*
 refine tI 0 (some 42) (v:= ?v0) rfl rfl rfl (fun W hW=> ?hy0) ?hr0
 case hy0=>(try dsimp only at hW);go_simp;try with_reducible rfl
 try simp only[Act.put,q1,q2,q3]
 refine tI 1 (some 43) (v:= ?v1) rfl rfl rfl (fun W hW=> ?hy1) ?hr1
 case hy1=>(try dsimp only at hW);go_simp;try with_reducible rfl
 try simp only[Act.put,q1,q2,q3]
 refine tI 2 (some 44) (v:= ?v2) rfl rfl rfl (fun W hW=> ?hy2) ?hr2
 case hy2=>(try dsimp only at hW);go_simp;try with_reducible rfl
 try simp only[Act.put,q1,q2,q3]
 refine tI 3 (some 45) (v:= ?v3) rfl rfl rfl (fun W hW=> ?hy3) ?hr3
 case hy3=>(try dsimp only at hW);go_simp;try with_reducible rfl
 try simp only[Act.put,q1,q2,q3]
 refine tI 4 (some 46) (v:= ?v4) rfl rfl rfl (fun W hW=> ?hy4) ?hr4
 case hy4=>(try dsimp only at hW);go_simp;try with_reducible rfl
 try simp only[Act.put,q1,q2,q3]
 refine tI 5 (some 47) (v:= ?v5) rfl rfl rfl (fun W hW=> ?hy5) ?hr5
 case hy5=>(try dsimp only at hW);go_simp;try with_reducible rfl
 try simp only[Act.put,q1,q2,q3]
 refine tI 6 (some 48) (v:= ?v6) rfl rfl rfl (fun W hW=> ?hy6) ?hr6
 case hy6=>(try dsimp only at hW);go_simp;try with_reducible rfl
 try simp only[Act.put,q1,q2,q3]
 refine tI 7 (some 49) (v:= ?v7) rfl rfl rfl (fun W hW=> ?hy7) ?hr7
 case hy7=>(try dsimp only at hW);go_simp;try with_reducible rfl
 try simp only[Act.put,q1,q2,q3]
 refine tI 9 (some 51) (v:= ?v9) rfl rfl rfl (fun W hW=> ?hy9) ?hr9
 case hy9=>(try dsimp only at hW);go_simp;try with_reducible rfl
 try simp only[Act.put,q1,q2,q3]
 refine tI 10 (some 52) (v:= ?v10) rfl rfl rfl (fun W hW=> ?hy10) ?hr10
 case hy10=>(try dsimp only at hW);go_simp;try with_reducible rfl
 try simp only[Act.put,q1,q2,q3]
 refine tI 11 (some 53) (v:= ?v11) rfl rfl rfl (fun W hW=> ?hy11) ?hr11
 case hy11=>(try dsimp only at hW);go_simp;try with_reducible rfl
 try simp only[Act.put,q1,q2,q3]
 refine tI 12 (some 54) (v:= ?v12) rfl rfl rfl (fun W hW=> ?hy12) ?hr12
 case hy12=>(try dsimp only at hW);go_simp;try with_reducible rfl
 try simp only[Act.put,q1,q2,q3]
 refine tI 13 (some 55) (v:= ?v13) rfl rfl rfl (fun W hW=> ?hy13) ?hr13
 case hy13=>(try dsimp only at hW);go_simp;try with_reducible rfl
 try simp only[Act.put,q1,q2,q3]
 refine tI 14 (some 56) (v:= ?v14) rfl rfl rfl (fun W hW=> ?hy14) ?hr14
 case hy14=>(try dsimp only at hW);go_simp;try with_reducible rfl
 try simp only[Act.put,q1,q2,q3]
 refine tI 15 (some 57) (v:= ?v15) rfl rfl rfl (fun W hW=> ?hy15) ?hr15
 case hy15=>(try dsimp only at hW);go_simp;try with_reducible rfl
 try simp only[Act.put,q1,q2,q3]
 refine tI 17 (some 59) (v:= ?v17) rfl rfl rfl (fun W hW=> ?hy17) ?hr17
 case hy17=>(try dsimp only at hW);go_simp;try with_reducible rfl
 try simp only[Act.put,q1,q2,q3]
 refine tI 18 (some 60) (v:= ?v18) rfl rfl rfl (fun W hW=> ?hy18) ?hr18
 case hy18=>(try dsimp only at hW);go_simp;try with_reducible rfl
 try simp only[Act.put,q1,q2,q3]
 refine tI 19 (some 61) (v:= ?v19) rfl rfl rfl (fun W hW=> ?hy19) ?hr19
 case hy19=>(try dsimp only at hW);go_simp;try with_reducible rfl
 try simp only[Act.put,q1,q2,q3]
 refine tI 20 (some 62) (v:= ?v20) rfl rfl rfl (fun W hW=> ?hy20) ?hr20
 case hy20=>(try dsimp only at hW);go_simp;try with_reducible rfl
 try simp only[Act.put,q1,q2,q3]
 refine tI 21 (some 63) (v:= ?v21) rfl rfl rfl (fun W hW=> ?hy21) ?hr21
 case hy21=>(try dsimp only at hW);go_simp;try with_reducible rfl
 try simp only[Act.put,q1,q2,q3]
 refine tI 22 (some 64) (v:= ?v22) rfl rfl rfl (fun W hW=> ?hy22) ?hr22
 case hy22=>(try dsimp only at hW);go_simp;try with_reducible rfl
 try simp only[Act.put,q1,q2,q3]
 refine tI 23 (some 65) (v:= ?v23) rfl rfl rfl (fun W hW=> ?hy23) ?hr23
 case hy23=>(try dsimp only at hW);go_simp;try with_reducible rfl
 try simp only[Act.put,q1,q2,q3]
 refine tI 24 (some 66) (v:= ?v24) rfl rfl rfl (fun W hW=> ?hy24) ?hr24
 case hy24=>(try dsimp only at hW);go_simp;try with_reducible rfl
 try simp only[Act.put,q1,q2,q3]
 refine tI 25 (some 67) (v:= ?v25) rfl rfl rfl (fun W hW=> ?hy25) ?hr25
 case hy25=>(try dsimp only at hW);go_simp;try with_reducible rfl
 try simp only[Act.put,q1,q2,q3]
 refine tI 26 (some 68) (v:= ?v26) rfl rfl rfl (fun W hW=> ?hy26) ?hr26
 case hy26=>(try dsimp only at hW);go_simp;try with_reducible rfl
 try simp only[Act.put,q1,q2,q3]
 refine tI 27 (some 69) (v:= ?v27) rfl rfl rfl (fun W hW=> ?hy27) ?hr27
 case hy27=>(try dsimp only at hW);go_simp;try with_reducible rfl
 try simp only[Act.put,q1,q2,q3]
 refine tI 28 (some 70) (v:= ?v28) rfl rfl rfl (fun W hW=> ?hy28) ?hr28
 case hy28=>(try dsimp only at hW);go_simp;try with_reducible rfl
 try simp only[Act.put,q1,q2,q3]
 refine tI 29 (some 71) (v:= ?v29) rfl rfl rfl (fun W hW=> ?hy29) ?hr29
 case hy29=>(try dsimp only at hW);go_simp;try with_reducible rfl
 try simp only[Act.put,q1,q2,q3]
 refine tI 30 (some 72) (v:= ?v30) rfl rfl rfl (fun W hW=> ?hy30) ?hr30
 case hy30=>(try dsimp only at hW);go_simp;try with_reducible rfl
 try simp only[Act.put,q1,q2,q3]
 refine readyHI (rs:=[8]) (by kernel_rfl) (by simp) ?_
 refine AllHI.cons (some 50) rfl rfl (fun K hK=> ?_) AllHI.nil
 go_simp
 refine⟨trivial,fun h=>(by cases h),?_⟩
 refine(callsIn_wide.2 (p_a A1 A2 A3 A4 c1 c2 c3 c4 f 2 c bc c.lim c.fr _ kb (by omega) (by omega) hS (by omega) (by omega))).mono ?_
 rintro e W1 ⟨rfl,hx⟩
 have hj:=hJ.up _ _ _ hj hx
 have kb:=(hx.block bc (lO kb)).trans kb
 clear hx
 refine hK.out _ _ (blk_cells kb).1 (fun hHeld=> ?_)
 clear hK K
 try simp only[Act.put,q1,q2,q3]
 refine readyHI (rs:=[16]) (by kernel_rfl) (by simp) ?_
 refine AllHI.cons (some 58) rfl rfl (fun K hK=> ?_) AllHI.nil
 go_simp
 refine⟨trivial,fun h=>(by cases h),?_⟩
 refine(callsIn_wide.2 (p_a A1 A2 A3 A4 c1 c2 c3 c4 f 2 c bc c.oth c.fr _ kb (by omega) (by omega) hS (by omega) (by omega))).mono ?_
 rintro e W2 ⟨rfl,hx⟩
 have hj:=hJ.up _ _ _ hj hx
 have kb:=(hx.block bc (lO kb)).trans kb
 clear hx
 refine hK.out _ _ (blk_cells kb).1 (fun hHeld=> ?_)
 clear hK K
 try simp only[Act.put,q1,q2,q3]
 refine tI 31 (some 73) (v:= ?v31) rfl rfl rfl (fun W hW=> ?hy31) ?hr31
 case hy31=>(try dsimp only at hW);go_simp;try with_reducible rfl
 try simp only[Act.put,q1,q2,q3]
 obtain⟨fn,tmps,assign,body,hy,hRd⟩:=hJ.y 0 ⟨Pl.ptC f c.lim c.fr,Pl.ptC f c.oth c.fr,c.size-c.er,c.size+c.er⟩ _ (by rw[hsp.out];rfl) hj
 unfold encSp at hy
 simp only[]at hy
 refine readyHI (rs:=[32]) (by kernel_rfl) (by simp) ?_
 refine AllHI.cons (some 74) rfl rfl (fun K hK=> ?_) AllHI.nil
 go_simp
 refine⟨fun h=>(by cases h),hRd.mono ?_⟩
 rintro e W9 ⟨rfl,hj9⟩
 have kb9:=hJ.box _ _ hj9
 rw[hk]at kb9
 have kb9:W9.heap[bc]?=some (.cells (fkq A1 A2 A3 A4 c1 c2 c3 c4 f 2 c) 128 (0,0)):=kb9
 refine hK.out _ _ (blk_cells kb9).1 (fun hHeld=> ?_)
 clear hK K
 try simp only[Act.put,q1,q2,q3]
 refine doneHI (by kernel_rfl) ?_ _
 gi_wp2
 go_end0
 exact⟨⟨_,rfl⟩,by rw[hsp.out];exact hj9⟩
set_option maxHeartbeats 4000000 in
theorem spans_level (c:Pl.Cal)(bc L n:Nat)(w W1:World)(J:Nat->World->Prop)(hJ:SpJ A1 A2 A3 A4 c1 c2 c3 c4 f c bc L n w J)(h0:J 0 W1)(hk:c.kind=5)(ht:c.tab f.st.length f.li.length)(hL:f.li.length<=1000)(hS:f.st.length<=100000):
  CallsIn Fence.wide n Tryz.prog 189 #[.func (.yield L) #[] #[],.pointer (some ⟨bc,0,none⟩)] W1 fun e W'=>(∃v,e=.returned v)∧J (Pl.spans f c).length W':=by
 obtain⟨⟨l0,l1⟩,⟨f0,f1⟩,ht⟩:=ht
 have h5:(-100000<=c.size∧c.size<=100000∧0<=c.er∧c.er<=100000)∧0<=c.till∧c.till<f.st.length:=by unfold Pl.inN at ht;rcases ht with h|h|h|h|h<;>omega
 obtain⟨⟨z0,z1,e0,e1⟩,o0,o1⟩:=h5
 have es:IntKind.i64.wrap (c.size-c.er)=c.size-c.er:=IntWalk.i64_in _ (by omega)
 have ea:IntKind.i64.wrap (c.size+c.er)=c.size+c.er:=IntWalk.i64_in _ (by omega)
 have hsp:Hid (Pl.spans f c=[⟨Pl.ptC f c.lim c.fr,Pl.ptC f c.lim c.till,c.size-c.er,c.size+c.er⟩]):=Lib.hid (by unfold Pl.spans;rw[hk];rfl)
 have kb:=hJ.box _ _ h0
 rw[hk]at kb
 have kb:W1.heap[bc]?=some (.cells (fkq A1 A2 A3 A4 c1 c2 c3 c4 f 5 c) 128 (0,0)):=kb
 obtain⟨hcb,hfb⟩:=blk_cells kb
 have hmf: ∀(fn:Fn) (first cap:Array Value) (w:World),(Instr.makeFunc fn first cap).run Tryz.prog w=.ok (.func fn first cap) w:=fun _ _ _ _=>rfl
 refine callsIn_of_wp Tryz.func189 rfl trivial ?_ rfl
 simp only[Tryz.ntmps189,List.size_toArray,List.length_cons,List.length_nil,Nat.reduceAdd,Nat.reduceSub,Array.replicate_succ,Array.replicate_zero,List.push_toArray,List.append_toArray,List.nil_append,List.cons_append]
 gi_wp2_with fail
 clear hcb hfb ht
 have hj:J 0 W1.drew:=hJ.up _ _ _ h0 ((Below.refl _ _).drew)
 have hS0: ∀j,W1.drew.cell? ⟨bc,j,none⟩=((fkq A1 A2 A3 A4 c1 c2 c3 c4 f 5 c):Array Value)[j]?:=(blk_cells kb).1
 refine region_HI (S:=fun W=> ∀j,W.cell? ⟨bc,j,none⟩=((fkq A1 A2 A3 A4 c1 c2 c3 c4 f 5 c):Array Value)[j]?) (by kernel_rfl) hS0 (fun hHeld=> ?_)
 have kb:W1.drew.heap[bc]?=_:=kb
 clear h0 hS0
 generalize W1.drew=W0 at*
 refine tI 0 (some 77) (v:= ?v0) rfl rfl rfl (fun W hW=> ?hy0) ?hr0
 case hy0=>(try dsimp only at hW);go_simp;try with_reducible rfl
 try simp only[Act.put,q1,q2,q3]
 refine tI 1 (some 78) (v:= ?v1) rfl rfl rfl (fun W hW=> ?hy1) ?hr1
 case hy1=>(try dsimp only at hW);go_simp;try with_reducible rfl
 try simp only[Act.put,q1,q2,q3]
 refine tI 2 (some 79) (v:= ?v2) rfl rfl rfl (fun W hW=> ?hy2) ?hr2
 case hy2=>(try dsimp only at hW);go_simp;try with_reducible rfl
 try simp only[Act.put,q1,q2,q3]
 refine tI 3 (some 80) (v:= ?v3) rfl rfl rfl (fun W hW=> ?hy3) ?hr3
 case hy3=>(try dsimp only at hW);go_simp;try with_reducible rfl
 try simp only[Act.put,q1,q2,q3]
 refine tI 4 (some 81) (v:= ?v4) rfl rfl rfl (fun W hW=> ?hy4) ?hr4
 case hy4=>(try dsimp only at hW);go_simp;try with_reducible rfl
 try simp only[Act.put,q1,q2,q3]
 refine tI 5 (some 82) (v:= ?v5) rfl rfl rfl (fun W hW=> ?hy5) ?hr5
 case hy5=>(try dsimp only at hW);go_simp;try with_reducible rfl
 try simp only[Act.put,q1,q2,q3]
 refine tI 6 (some 83) (v:= ?v6) rfl rfl rfl (fun W hW=> ?hy6) ?hr6
 case hy6=>(try dsimp only at hW);go_simp;try with_reducible rfl
 try simp only[Act.put,q1,q2,q3]
 refine tI 7 (some 84) (v:= ?v7) rfl rfl rfl (fun W hW=> ?hy7) ?hr7
 case hy7=>(try dsimp only at hW);go_simp;try with_reducible rfl
 try simp only[Act.put,q1,q2,q3]
 refine tI 9 (some 86) (v:= ?v9) rfl rfl rfl (fun W hW=> ?hy9) ?hr9
 case hy9=>(try dsimp only at hW);go_simp;try with_reducible rfl
 try simp only[Act.put,q1,q2,q3]
 refine tI 10 (some 87) (v:= ?v10) rfl rfl rfl (fun W hW=> ?hy10) ?hr10
 case hy10=>(try dsimp only at hW);go_simp;try with_reducible rfl
 try simp only[Act.put,q1,q2,q3]
 refine tI 11 (some 88) (v:= ?v11) rfl rfl rfl (fun W hW=> ?hy11) ?hr11
 case hy11=>(try dsimp only at hW);go_simp;try with_reducible rfl
 try simp only[Act.put,q1,q2,q3]
 refine tI 12 (some 89) (v:= ?v12) rfl rfl rfl (fun W hW=> ?hy12) ?hr12
 case hy12=>(try dsimp only at hW);go_simp;try with_reducible rfl
 try simp only[Act.put,q1,q2,q3]
 refine tI 13 (some 90) (v:= ?v13) rfl rfl rfl (fun W hW=> ?hy13) ?hr13
 case hy13=>(try dsimp only at hW);go_simp;try with_reducible rfl
 try simp only[Act.put,q1,q2,q3]
 refine tI 14 (some 91) (v:= ?v14) rfl rfl rfl (fun W hW=> ?hy14) ?hr14
 case hy14=>(try dsimp only at hW);go_simp;try with_reducible rfl
 try simp only[Act.put,q1,q2,q3]
 refine tI 15 (some 92) (v:= ?v15) rfl rfl rfl (fun W hW=> ?hy15) ?hr15
 case hy15=>(try dsimp only at hW);go_simp;try with_reducible rfl
 try simp only[Act.put,q1,q2,q3]
 refine tI 17 (some 94) (v:= ?v17) rfl rfl rfl (fun W hW=> ?hy17) ?hr17
 case hy17=>(try dsimp only at hW);go_simp;try with_reducible rfl
 try simp only[Act.put,q1,q2,q3]
 refine tI 18 (some 95) (v:= ?v18) rfl rfl rfl (fun W hW=> ?hy18) ?hr18
 case hy18=>(try dsimp only at hW);go_simp;try with_reducible rfl
 try simp only[Act.put,q1,q2,q3]
 refine tI 19 (some 96) (v:= ?v19) rfl rfl rfl (fun W hW=> ?hy19) ?hr19
 case hy19=>(try dsimp only at hW);go_simp;try with_reducible rfl
 try simp only[Act.put,q1,q2,q3]
 refine tI 20 (some 97) (v:= ?v20) rfl rfl rfl (fun W hW=> ?hy20) ?hr20
 case hy20=>(try dsimp only at hW);go_simp;try with_reducible rfl
 try simp only[Act.put,q1,q2,q3]
 refine tI 21 (some 98) (v:= ?v21) rfl rfl rfl (fun W hW=> ?hy21) ?hr21
 case hy21=>(try dsimp only at hW);go_simp;try with_reducible rfl
 try simp only[Act.put,q1,q2,q3]
 refine tI 22 (some 99) (v:= ?v22) rfl rfl rfl (fun W hW=> ?hy22) ?hr22
 case hy22=>(try dsimp only at hW);go_simp;try with_reducible rfl
 try simp only[Act.put,q1,q2,q3]
 refine tI 23 (some 100) (v:= ?v23) rfl rfl rfl (fun W hW=> ?hy23) ?hr23
 case hy23=>(try dsimp only at hW);go_simp;try with_reducible rfl
 try simp only[Act.put,q1,q2,q3]
 refine tI 24 (some 101) (v:= ?v24) rfl rfl rfl (fun W hW=> ?hy24) ?hr24
 case hy24=>(try dsimp only at hW);go_simp;try with_reducible rfl
 try simp only[Act.put,q1,q2,q3]
 refine tI 25 (some 102) (v:= ?v25) rfl rfl rfl (fun W hW=> ?hy25) ?hr25
 case hy25=>(try dsimp only at hW);go_simp;try with_reducible rfl
 try simp only[Act.put,q1,q2,q3]
 refine tI 26 (some 103) (v:= ?v26) rfl rfl rfl (fun W hW=> ?hy26) ?hr26
 case hy26=>(try dsimp only at hW);go_simp;try with_reducible rfl
 try simp only[Act.put,q1,q2,q3]
 refine tI 27 (some 104) (v:= ?v27) rfl rfl rfl (fun W hW=> ?hy27) ?hr27
 case hy27=>(try dsimp only at hW);go_simp;try with_reducible rfl
 try simp only[Act.put,q1,q2,q3]
 refine tI 28 (some 105) (v:= ?v28) rfl rfl rfl (fun W hW=> ?hy28) ?hr28
 case hy28=>(try dsimp only at hW);go_simp;try with_reducible rfl
 try simp only[Act.put,q1,q2,q3]
 refine tI 29 (some 106) (v:= ?v29) rfl rfl rfl (fun W hW=> ?hy29) ?hr29
 case hy29=>(try dsimp only at hW);go_simp;try with_reducible rfl
 try simp only[Act.put,q1,q2,q3]
 refine tI 30 (some 107) (v:= ?v30) rfl rfl rfl (fun W hW=> ?hy30) ?hr30
 case hy30=>(try dsimp only at hW);go_simp;try with_reducible rfl
 try simp only[Act.put,q1,q2,q3]
 refine readyHI (rs:=[8]) (by kernel_rfl) (by simp) ?_
 refine AllHI.cons (some 85) rfl rfl (fun K hK=> ?_) AllHI.nil
 go_simp
 refine⟨trivial,fun h=>(by cases h),?_⟩
 refine(callsIn_wide.2 (p_a A1 A2 A3 A4 c1 c2 c3 c4 f 5 c bc c.lim c.fr _ kb (by omega) (by omega) hS (by omega) (by omega))).mono ?_
 rintro e W1 ⟨rfl,hx⟩
 have hj:=hJ.up _ _ _ hj hx
 have kb:=(hx.block bc (lO kb)).trans kb
 clear hx
 refine hK.out _ _ (blk_cells kb).1 (fun hHeld=> ?_)
 clear hK K
 try simp only[Act.put,q1,q2,q3]
 refine readyHI (rs:=[16]) (by kernel_rfl) (by simp) ?_
 refine AllHI.cons (some 93) rfl rfl (fun K hK=> ?_) AllHI.nil
 go_simp
 refine⟨trivial,fun h=>(by cases h),?_⟩
 refine(callsIn_wide.2 (p_a A1 A2 A3 A4 c1 c2 c3 c4 f 5 c bc c.lim c.till _ kb (by omega) (by omega) hS (by omega) (by omega))).mono ?_
 rintro e W2 ⟨rfl,hx⟩
 have hj:=hJ.up _ _ _ hj hx
 have kb:=(hx.block bc (lO kb)).trans kb
 clear hx
 refine hK.out _ _ (blk_cells kb).1 (fun hHeld=> ?_)
 clear hK K
 try simp only[Act.put,q1,q2,q3]
 refine tI 31 (some 108) (v:= ?v31) rfl rfl rfl (fun W hW=> ?hy31) ?hr31
 case hy31=>(try dsimp only at hW);go_simp;try with_reducible rfl
 try simp only[Act.put,q1,q2,q3]
 obtain⟨fn,tmps,assign,body,hy,hRd⟩:=hJ.y 0 ⟨Pl.ptC f c.lim c.fr,Pl.ptC f c.lim c.till,c.size-c.er,c.size+c.er⟩ _ (by rw[hsp.out];rfl) hj
 unfold encSp at hy
 simp only[]at hy
 refine readyHI (rs:=[32]) (by kernel_rfl) (by simp) ?_
 refine AllHI.cons (some 109) rfl rfl (fun K hK=> ?_) AllHI.nil
 go_simp
 refine⟨fun h=>(by cases h),hRd.mono ?_⟩
 rintro e W9 ⟨rfl,hj9⟩
 have kb9:=hJ.box _ _ hj9
 rw[hk]at kb9
 have kb9:W9.heap[bc]?=some (.cells (fkq A1 A2 A3 A4 c1 c2 c3 c4 f 5 c) 128 (0,0)):=kb9
 refine hK.out _ _ (blk_cells kb9).1 (fun hHeld=> ?_)
 clear hK K
 try simp only[Act.put,q1,q2,q3]
 refine doneHI (by kernel_rfl) ?_ _
 gi_wp2
 go_end0
 exact⟨⟨_,rfl⟩,by rw[hsp.out];exact hj9⟩
end Go.Proofs.YtgbpekeoegfjpaaGreatDoor
