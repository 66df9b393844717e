/- Texts of mine, merged: A13, A14. -/
import Derived.Test.YtgbpekeoegfjpaaGreatDoorZ00
import Derived.Test.YtgbpekeoegfjpaaGreatDoorZ02
import Derived.Test.YtgbpekeoegfjpaaGreatDoorZ03
/- Walks of Quadrant, of course. -/
namespace Go.Proofs.YtgbpekeoegfjpaaGreatDoor
open Go.RowKit
theorem ba_append (a b:Array UInt8):(⟨a⟩:ByteArray)++⟨b⟩=⟨a++b⟩:=by
 apply ByteArray.ext;simp
theorem quad_a (d:Int)(w:World):Calls Tryz.prog 276 #[.int .i64 d] w fun e w'=>e=.returned (.string ⟨(Pl.quad d).toArray⟩)∧w=w':=by
 have hm:0<=d%360∧d%360<360:=by omega
 generalize hD:d%360=m at hm
 obtain⟨m0,m1⟩:=hm
 have H:=Lib.hid hD;clear hD
 by_cases h0:m=0
 ·subst h0
  go_enter Tryz.func276,Tryz.ntmps276
  go_wp2_with (go_at_call 259;refine(norm_a _ _).mono ?_;rintro e w' ⟨rfl,rfl⟩;rw[H.out])
  go_ret
  exact⟨by unfold Pl.quad;rw[H.out];rfl,rfl⟩
 by_cases h90:m=90
 ·subst h90
  go_enter Tryz.func276,Tryz.ntmps276
  go_wp2_with (go_at_call 259;refine(norm_a _ _).mono ?_;rintro e w' ⟨rfl,rfl⟩;rw[H.out])
  go_ret
  exact⟨by unfold Pl.quad;rw[H.out];rfl,rfl⟩
 by_cases h180:m=180
 ·subst h180
  go_enter Tryz.func276,Tryz.ntmps276
  go_wp2_with (go_at_call 259;refine(norm_a _ _).mono ?_;rintro e w' ⟨rfl,rfl⟩;rw[H.out])
  go_ret
  exact⟨by unfold Pl.quad;rw[H.out];rfl,rfl⟩
 by_cases h270:m=270
 ·subst h270
  go_enter Tryz.func276,Tryz.ntmps276
  go_wp2_with (go_at_call 259;refine(norm_a _ _).mono ?_;rintro e w' ⟨rfl,rfl⟩;rw[H.out])
  go_ret
  exact⟨by unfold Pl.quad;rw[H.out];rfl,rfl⟩
 by_cases q0:m<90
 ·have hl:=Pl.dec_len (n:=(m).toNat) (by omega)
  go_enter Tryz.func276,Tryz.ntmps276
  go_wp2_with (first|(go_at_call 259;refine(norm_a _ _).mono ?_;rintro e w' ⟨rfl,rfl⟩;rw[H.out])|(go_at_call 120;refine(itoa_small _ _ (by omega) (by omega)).mono ?_;rintro e w' ⟨rfl,rfl⟩))
  go_ret
  exact⟨by unfold Pl.quad Pl.quadT;rw[H.out];simp (disch:=omega) only[if_pos,if_neg];simp[Pl.north,Pl.east,ba_append],rfl⟩
 by_cases q1:m<180
 ·have hl:=Pl.dec_len (n:=(180-m).toNat) (by omega)
  go_enter Tryz.func276,Tryz.ntmps276
  go_wp2_with (first|(go_at_call 259;refine(norm_a _ _).mono ?_;rintro e w' ⟨rfl,rfl⟩;rw[H.out])|(go_at_call 120;refine(itoa_small _ _ (by omega) (by omega)).mono ?_;rintro e w' ⟨rfl,rfl⟩))
  go_ret
  exact⟨by unfold Pl.quad Pl.quadT;rw[H.out];simp (disch:=omega) only[if_pos,if_neg];simp[Pl.east,Pl.south,ba_append],rfl⟩
 by_cases q2:m<270
 ·have hl:=Pl.dec_len (n:=(180-(360-m)).toNat) (by omega)
  have hz:Hid (180-(360-m)=m-180):=by unfold Hid;omega
  go_enter Tryz.func276,Tryz.ntmps276
  go_wp2_with (first|(go_at_call 259;refine(norm_a _ _).mono ?_;rintro e w' ⟨rfl,rfl⟩;rw[H.out])|(go_at_call 120;refine(itoa_small _ _ (by omega) (by omega)).mono ?_;rintro e w' ⟨rfl,rfl⟩))
  go_ret
  exact⟨by unfold Pl.quad Pl.quadT;rw[H.out,hz.out];simp (disch:=omega) only[if_pos,if_neg];simp[Pl.south,Pl.west,ba_append],rfl⟩
 ·have hl:=Pl.dec_len (n:=(360-m).toNat) (by omega)
  go_enter Tryz.func276,Tryz.ntmps276
  go_wp2_with (first|(go_at_call 259;refine(norm_a _ _).mono ?_;rintro e w' ⟨rfl,rfl⟩;rw[H.out])|(go_at_call 120;refine(itoa_small _ _ (by omega) (by omega)).mono ?_;rintro e w' ⟨rfl,rfl⟩))
  go_ret
  exact⟨by unfold Pl.quad Pl.quadT;rw[H.out];simp (disch:=omega) only[if_neg];simp[Pl.north,Pl.west,ba_append],rfl⟩
open Go.RowKit
abbrev gaveUp :List PanicEntry:=[{v:=.iface 315 (.agg #[]),recovered:=false}]
theorem must_yes (w:World):Calls Tryz.prog 285 #[.bool true] w fun e w'=>e=.returned (.tuple #[])∧w=w':=by
 go_enter Tryz.func285,Tryz.ntmps285
 go_wp2
 go_end0
 exact⟨rfl,rfl⟩
theorem must_no (w:World):Calls Tryz.prog 285 #[.bool false] w fun e w'=>e=.panicked gaveUp∧Below w.heap.size w w':=by
 go_enter Tryz.func285,Tryz.ntmps285
 go_wp2
 exact⟨rfl,rfl,by go_grown⟩
set_option maxRecDepth 20000 in
theorem catch_panicking (bn be:Nat)(x y:Int)(w:World)(hn:w.heap[bn]?=some (.cells #[.int .i64 x] 3 (0,0)))(he:w.heap[be]?=some (.cells #[.int .i64 y] 29 (0,0)))(hne: ¬bn=be):
  CallsD Tryz.prog 325 #[.pointer (some ⟨bn,0,none⟩),.pointer (some ⟨be,0,none⟩)] (.panicking gaveUp) w fun e u' w'=>
   e=.returned (.tuple #[])∧u'=.panicking [{v:=.iface 315 (.agg #[]),recovered:=true}]∧w'=((w.setCell ⟨bn,0,none⟩ (.int .i64 0)).setCell ⟨be,0,none⟩ (.int .i64 4)).alloc (.cells #[] 315):=by
 obtain⟨hcn,hfn⟩:=blk_cells hn
 obtain⟨hce,hfe⟩:=blk_cells he
 have hbn:=(lO hn)
 have hbe:=(lO he)
 have hne': ¬be=bn:=fun h=>hne h.symm
 have hta: ∀w:World,(Instr.typeAssert (.iface 315 (.agg #[])) 20 315 true).run Tryz.prog w=.ok (.tuple #[.agg #[],.bool true]) w:=fun _=>by kernel_rfl
 refine callsD_of_wpS Tryz.func325 rfl fun c₀ cs hu=> ?_
 apply wpS_seq
 apply wpS_region
 simp[wpOpsS,go_sem,recoverD,hu,Tryz.ntmps325,Exit.thenS]
 apply wpS_seq
 apply wpS_region
 simp[wpOpsS,go_sem,Exit.thenS]
 refine wpS_cond (t:=true) (by simp[Act.eval,Array.replicate]) ?_
 simp only[if_true]
 refine wpS_of_wp ?_
 rw[show((#[Value.pointer (some ⟨bn,0,none⟩),Value.pointer (some ⟨be,0,none⟩)]++((((Array.replicate 14 undef).setIfInBounds 3 (Value.iface 315 (.agg #[]))).setIfInBounds 0 (Value.iface 315 (.agg #[]))).setIfInBounds 4 (Value.iface 315 (.agg #[]))).setIfInBounds 5 (Value.bool true)):Array Value)=
  #[.pointer (some ⟨bn,0,none⟩),.pointer (some ⟨be,0,none⟩),.iface 315 (.agg #[]),undef,undef,.iface 315 (.agg #[]),.iface 315 (.agg #[]),.bool true,undef,undef,undef,undef,undef,undef,undef,undef] from rfl]
 go_wp2
 exact⟨rfl,_,rfl,_,results_none rfl _ _ _,rfl,rfl,rfl⟩
theorem catch_idle (bn be:Nat)(w:World):
  CallsD Tryz.prog 325 #[.pointer (some ⟨bn,0,none⟩),.pointer (some ⟨be,0,none⟩)] .returning w fun e u' w'=>e=.returned (.tuple #[])∧u'=.returning∧w'=w:=by
 refine callsD_of_wpS Tryz.func325 rfl fun c₀ cs hu=> ?_
 apply wpS_seq
 apply wpS_region
 simp[wpOpsS,go_sem,recoverD,hu,Tryz.ntmps325,Exit.thenS]
 apply wpS_seq
 apply wpS_region
 simp[wpOpsS,go_sem,Exit.thenS]
 refine wpS_cond (t:=false) (by simp[Act.eval,Array.replicate]) ?_
 simp only[Bool.false_eq_true,if_false]
 refine wpS_of_wp (wp_skip ?_)
 cases c₀
 simp_all[bodyPostS,results,Tryz.results325]
set_option maxRecDepth 20000 in
theorem reading_ok (f:FuncId)(cap:Array Value)(n:Int)(w:World)(hen: ∀w,(callFunc f cap).run Tryz.prog w=.ok (.enter f cap) w)(hdo: ∀W,Below w.heap.size w W->Calls Tryz.prog f cap W fun e w'=>e=.returned (.int .i64 n)∧Below W.heap.size W w'):
  Calls Tryz.prog 283 #[.func (.func f) #[] cap] w fun e w'=>e=.returned (.tuple (i2 n 0))∧Below w.heap.size w w':=by
 have hmf: ∀(fn:Fn) (first cap:Array Value) (w:World),(Instr.makeFunc fn first cap).run Tryz.prog w=.ok (.func fn first cap) w:=fun _ _ _ _=>rfl
 go_enter_defers Tryz.func283,Tryz.ntmps283
 go_wp2_with fail
 refine(hdo _ (by go_grown)).mono ?_
 rintro e w1 ⟨rfl,hx⟩
 have hk1:=(hx.block w.heap.size (by simp;omega)).trans (heap_alloc2_old _ _ _)
 have hk2:=(hx.block (w.heap.size+1) (by simp)).trans (heap_alloc2_new _ _ _)
 obtain⟨hc1,hf1⟩:=blk_cells hk1
 obtain⟨hc2,hf2⟩:=blk_cells hk2
 have hb1:Below w.heap.size w w1:=Below.trans (by go_grown) (hx.mono (by go_size))
 have hsz:=hb1.size
 clear hx
 go_wp2
 refine leaves_cons (f:=325) (args:= #[.pointer (some ⟨w.heap.size,0,none⟩),.pointer (some ⟨w.heap.size+1,0,none⟩)]) (by simp) (by simp[go_sem]) ?_
 refine(catch_idle _ _ _).mono ?_
 rintro e u' w'' ⟨rfl,rfl,rfl⟩
 simp[Leaves,settle,results,Tryz.results283,go_sem,hc1,hc2]
 go_grown
set_option maxRecDepth 20000 in
theorem reading_no (f:FuncId)(cap:Array Value)(w:World)(hen: ∀w,(callFunc f cap).run Tryz.prog w=.ok (.enter f cap) w)(hdo: ∀W,Below w.heap.size w W->Calls Tryz.prog f cap W fun e w'=>e=.panicked gaveUp∧Below W.heap.size W w'):
  Calls Tryz.prog 283 #[.func (.func f) #[] cap] w fun e w'=>e=.returned (.tuple (i2 0 4))∧Below w.heap.size w w':=by
 have hmf: ∀(fn:Fn) (first cap:Array Value) (w:World),(Instr.makeFunc fn first cap).run Tryz.prog w=.ok (.func fn first cap) w:=fun _ _ _ _=>rfl
 go_enter_defers Tryz.func283,Tryz.ntmps283
 go_wp2_with fail
 refine(hdo _ (by go_grown)).mono ?_
 rintro e w1 ⟨rfl,hx⟩
 have hk1:=(hx.block w.heap.size (by simp;omega)).trans (heap_alloc2_old _ _ _)
 have hk2:=(hx.block (w.heap.size+1) (by simp)).trans (heap_alloc2_new _ _ _)
 obtain⟨hc1,hf1⟩:=blk_cells hk1
 obtain⟨hc2,hf2⟩:=blk_cells hk2
 have hb1:Below w.heap.size w w1:=Below.trans (by go_grown) (hx.mono (by go_size))
 have hsz:=hb1.size
 clear hx
 go_wp2
 refine leaves_cons (f:=325) (args:= #[.pointer (some ⟨w.heap.size,0,none⟩),.pointer (some ⟨w.heap.size+1,0,none⟩)]) (by simp) (by simp[go_sem]) ?_
 refine(catch_panicking _ _ _ _ _ hk1 hk2 (by omega)).mono ?_
 rintro e u' w'' ⟨rfl,rfl,rfl⟩
 have hl1:=(lO hk1)
 have hl2:=(lO hk2)
 simp[Leaves,settle,results,Tryz.results283,go_sem,hc1,hc2,hl1,hl2]
 go_grown
end Go.Proofs.YtgbpekeoegfjpaaGreatDoor
