/- Walks of what gives up: must, reading. -/
import Derived.Test.YthncpapejijloaaGreatDoorProg
import Derived.WalkKit
import Derived.WalkLawsBesides
import Derived.WalkSpells
import Derived.Handy
import Derived.Lib.Hide
import Derived.Great.BuildSlice
import Derived.Deep.QuietTactic
import Derived.BigQuiet
import Derived.Deep.RegionHeld3
import Derived.Deep.DeepCutAuto
import Derived.Test.YthncpapejijloaaGreatDoorA13
namespace Go.Proofs.YthncpapejijloaaGreatDoor
open Go.RowKit

/-- The panic that a reader gives up with. -/
abbrev gaveUp : List PanicEntry := [{ v := .iface 127 (.agg #[]), recovered := false }]
theorem must_yes (w : World) : Calls Tryz.prog 96 #[.bool true] w fun e w' => e = .returned (.tuple #[]) ∧ w = w' := by
  go_enter Tryz.func96, Tryz.ntmps96
  go_wp2
  go_end0
  exact ⟨rfl, rfl⟩
theorem must_no (w : World) : Calls Tryz.prog 96 #[.bool false] w fun e w' => e = .panicked gaveUp ∧ Below w.heap.size w w' := by
  go_enter Tryz.func96, Tryz.ntmps96
  go_wp2
  exact ⟨rfl, rfl, by go_grown⟩

set_option maxRecDepth 20000 in
theorem catch_panicking (bn be : Nat) (x y : Int) (w : World) (hn : w.heap[bn]? = some (.cells #[.int .i64 x] 3 (0, 0))) (he : w.heap[be]? = some (.cells #[.int .i64 y] 31 (0, 0))) (hne : ¬ bn = be) :
    CallsD Tryz.prog 121 #[.pointer (some ⟨bn, 0, none⟩), .pointer (some ⟨be, 0, none⟩)] (.panicking gaveUp) w fun e u' w' =>
      e = .returned (.tuple #[]) ∧ u' = .panicking [{ v := .iface 127 (.agg #[]), recovered := true }] ∧ w' = ((w.setCell ⟨bn, 0, none⟩ (.int .i64 0)).setCell ⟨be, 0, none⟩ (.int .i64 4)).alloc (.cells #[] 127) := by
  obtain ⟨hcn, hfn⟩ := blk_cells hn
  obtain ⟨hce, hfe⟩ := blk_cells he
  have hbn := (Array.getElem?_eq_some_iff.1 hn).1
  have hbe := (Array.getElem?_eq_some_iff.1 he).1
  have hne' : ¬ be = bn := fun h => hne h.symm
  have hta : ∀ w : World, (Instr.typeAssert (.iface 127 (.agg #[])) 20 127 true).run Tryz.prog w = .ok (.tuple #[.agg #[], .bool true]) w := fun _ => by kernel_rfl
  refine callsD_of_wpS Tryz.func121 rfl fun c₀ cs hu => ?_
  apply wpS_seq
  apply wpS_region
  simp [wpOpsS, go_sem, recoverD, hu, Tryz.ntmps121, Exit.thenS]
  apply wpS_seq
  apply wpS_region
  simp [wpOpsS, go_sem, Exit.thenS]
  refine wpS_cond (t := true) (by simp [Act.eval, Array.replicate]) ?_
  simp only [if_true]
  refine wpS_of_wp ?_
  rw [show ((#[Value.pointer (some ⟨bn, 0, none⟩), Value.pointer (some ⟨be, 0, none⟩)] ++ ((((Array.replicate 14 undef).setIfInBounds 3 (Value.iface 127 (.agg #[]))).setIfInBounds 0 (Value.iface 127 (.agg #[]))).setIfInBounds 4 (Value.iface 127 (.agg #[]))).setIfInBounds 5 (Value.bool true)) : Array Value) =
    #[.pointer (some ⟨bn, 0, none⟩), .pointer (some ⟨be, 0, none⟩), .iface 127 (.agg #[]), undef, undef, .iface 127 (.agg #[]), .iface 127 (.agg #[]), .bool true, undef, undef, undef, undef, undef, undef, undef, undef] from rfl]
  go_wp2
  exact ⟨rfl, _, rfl, _, results_none rfl _ _ _, rfl, rfl, rfl⟩
theorem catch_idle (bn be : Nat) (w : World) :
    CallsD Tryz.prog 121 #[.pointer (some ⟨bn, 0, none⟩), .pointer (some ⟨be, 0, none⟩)] .returning w fun e u' w' => e = .returned (.tuple #[]) ∧ u' = .returning ∧ w' = w := by
  refine callsD_of_wpS Tryz.func121 rfl fun c₀ cs hu => ?_
  apply wpS_seq
  apply wpS_region
  simp [wpOpsS, go_sem, recoverD, hu, Tryz.ntmps121, Exit.thenS]
  apply wpS_seq
  apply wpS_region
  simp [wpOpsS, go_sem, Exit.thenS]
  refine wpS_cond (t := false) (by simp [Act.eval, Array.replicate]) ?_
  simp only [Bool.false_eq_true, if_false]
  refine wpS_of_wp (wp_skip ?_)
  cases c₀
  simp_all [bodyPostS, results, Tryz.results121]

set_option maxRecDepth 20000 in
theorem reading_ok (f : FuncId) (cap : Array Value) (n : Int) (w : World) (hen : ∀ w, (callFunc f cap).run Tryz.prog w = .ok (.enter f cap) w) (hdo : ∀ W, Below w.heap.size w W → Calls Tryz.prog f cap W fun e w' => e = .returned (.int .i64 n) ∧ Below W.heap.size W w') :
    Calls Tryz.prog 94 #[.func (.func f) #[] cap] w fun e w' => e = .returned (.tuple #[.int .i64 n, .int .i64 0]) ∧ Below w.heap.size w w' := by
  have hmf : ∀ (fn : Fn) (first cap : Array Value) (w : World), (Instr.makeFunc fn first cap).run Tryz.prog w = .ok (.func fn first cap) w := fun _ _ _ _ => rfl
  go_enter_defers Tryz.func94, Tryz.ntmps94
  go_wp2_with fail
  refine (hdo _ (by go_grown)).mono ?_
  rintro e w1 ⟨rfl, hx⟩
  have hk1 := (hx.block w.heap.size (by simp; omega)).trans (heap_alloc2_old _ _ _)
  have hk2 := (hx.block (w.heap.size + 1) (by simp)).trans (heap_alloc2_new _ _ _)
  obtain ⟨hc1, hf1⟩ := blk_cells hk1
  obtain ⟨hc2, hf2⟩ := blk_cells hk2
  have hb1 : Below w.heap.size w w1 := Below.trans (by go_grown) (hx.mono (by go_size))
  have hsz := hb1.size
  clear hx
  go_wp2
  refine leaves_cons (f := 121) (args := #[.pointer (some ⟨w.heap.size, 0, none⟩), .pointer (some ⟨w.heap.size + 1, 0, none⟩)]) (by simp) (by simp [go_sem]) ?_
  refine (catch_idle _ _ _).mono ?_
  rintro e u' w'' ⟨rfl, rfl, rfl⟩
  simp [Leaves, settle, results, Tryz.results94, go_sem, hc1, hc2]
  go_grown
set_option maxRecDepth 20000 in
theorem reading_no (f : FuncId) (cap : Array Value) (w : World) (hen : ∀ w, (callFunc f cap).run Tryz.prog w = .ok (.enter f cap) w) (hdo : ∀ W, Below w.heap.size w W → Calls Tryz.prog f cap W fun e w' => e = .panicked gaveUp ∧ Below W.heap.size W w') :
    Calls Tryz.prog 94 #[.func (.func f) #[] cap] w fun e w' => e = .returned (.tuple #[.int .i64 0, .int .i64 4]) ∧ Below w.heap.size w w' := by
  have hmf : ∀ (fn : Fn) (first cap : Array Value) (w : World), (Instr.makeFunc fn first cap).run Tryz.prog w = .ok (.func fn first cap) w := fun _ _ _ _ => rfl
  go_enter_defers Tryz.func94, Tryz.ntmps94
  go_wp2_with fail
  refine (hdo _ (by go_grown)).mono ?_
  rintro e w1 ⟨rfl, hx⟩
  have hk1 := (hx.block w.heap.size (by simp; omega)).trans (heap_alloc2_old _ _ _)
  have hk2 := (hx.block (w.heap.size + 1) (by simp)).trans (heap_alloc2_new _ _ _)
  obtain ⟨hc1, hf1⟩ := blk_cells hk1
  obtain ⟨hc2, hf2⟩ := blk_cells hk2
  have hb1 : Below w.heap.size w w1 := Below.trans (by go_grown) (hx.mono (by go_size))
  have hsz := hb1.size
  clear hx
  go_wp2
  refine leaves_cons (f := 121) (args := #[.pointer (some ⟨w.heap.size, 0, none⟩), .pointer (some ⟨w.heap.size + 1, 0, none⟩)]) (by simp) (by simp [go_sem]) ?_
  refine (catch_panicking _ _ _ _ _ hk1 hk2 (by omega)).mono ?_
  rintro e u' w'' ⟨rfl, rfl, rfl⟩
  have hl1 := (Array.getElem?_eq_some_iff.1 hk1).1
  have hl2 := (Array.getElem?_eq_some_iff.1 hk2).1
  simp [Leaves, settle, results, Tryz.results94, go_sem, hc1, hc2, hl1, hl2]
  go_grown
end Go.Proofs.YthncpapejijloaaGreatDoor
