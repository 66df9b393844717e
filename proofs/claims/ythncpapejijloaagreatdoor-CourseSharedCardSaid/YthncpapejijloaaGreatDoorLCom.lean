/- Walk of the law of what courses have in common. -/
import Derived.Test.YthncpapejijloaaGreatDoorProg
import Derived.WalkKit
import Derived.WalkLawsBesides
import Derived.WalkSpells
import Derived.Handy
import Derived.Lib.Hide
import Derived.Great.BuildSlice
import Derived.Deep.QuietTactic
import Derived.BigQuiet
import Derived.Deep.RegionHeld3
import Derived.Deep.DeepCutAuto
import Derived.Test.YthncpapejijloaaGreatDoorLw
import Derived.Test.YthncpapejijloaaGreatDoorBC
namespace Go.Proofs.YthncpapejijloaaGreatDoor
open Go.RowKit

theorem com_t (A A' : Option Addr) (cp c' : Nat) (v : List (Int × Int)) (cs : List Pl.Crs) (dx : Int) (w : World) (hl : Vars w w.heap.size A v) (hm : v.length ≤ maxLen) (hcs : Crss w w.heap.size A' cs) (hm' : cs.length ≤ maxLen) :
    Calls Tryz.prog 40 #[.slice A v.length cp, .slice A' cs.length c', .int .i64 dx] w fun e w' => e = .returned (.tuple #[.int .i64 (Pl.com v cs dx).1, .int .i64 (Pl.com v cs dx).2.1, .bool (Pl.com v cs dx).2.2, .int .i64 (Pl.comE v cs dx)]) ∧ Below w.heap.size w w' :=
  com_a A A' cp c' v cs dx w hl hm hcs hm'
set_option maxRecDepth 100000 in
set_option maxHeartbeats 1000000 in
theorem courseCommon_w     (A : Option Addr) (cp : Nat) (v : List (Int × Int)) (A' : Option Addr) (c' : Nat) (cs : List Pl.Crs) (dx : Int) (w : World) (hE : Env w) (hl : Vars w w.heap.size A v) (hm : v.length ≤ maxLen) (hcs : Crss w w.heap.size A' cs) (hm' : cs.length ≤ maxLen) :
    Calls Tryz.prog 8 #[.slice A v.length cp, .slice A' cs.length c', .int .i64 dx] w fun e w' => e = .returned (.bool true) ∧ Below w.heap.size w w' := by
  have hmm := hm'
  unfold maxLen at hmm
  have h8 : 8 ≤ w.heap.size := hE.size
  have hall : Below w.heap.size w w := Below.refl _ _
  have hsz : w.heap.size ≤ w.heap.size := Nat.le_refl _
  by_cases h60 : v.length ≤ 60
  · by_cases h61 : cs.length ≤ 60
    · go_enter Tryz.func8, Tryz.ntmps8
      go_wp2_with (first
        | (go_at_call 32; refine (few_yes _ _ _ _ h60).mono ?_; rintro e w' ⟨rfl, rfl⟩)
        | (go_at_call 40; refine (com_t _ _ _ _ v cs _ _ (hl.up (by go_grown)) hm (hcs.up (by go_grown)) hm').mono ?_; rintro e w1 ⟨rfl, hx⟩; have hall : Below w.heap.size w w1 := Below.trans (by go_grown) (hx.mono (by go_size)); have hsz : w.heap.size ≤ w1.heap.size := hall.size; clear hx)
        | (go_at_call 41; refine (com_b _ _ _ _ v cs _ _ (hl.up (by go_grown)) hm (hcs.up (by go_grown)) hm').mono ?_; rintro e w1 ⟨rfl, hx⟩; have hall : Below w.heap.size w w1 := Below.trans (by go_grown) (hx.mono (by go_size)); have hsz : w.heap.size ≤ w1.heap.size := hall.size; clear hx)
        | (go_at_call 27; refine (measured_a _ (hE.up hall)).mono ?_; rintro e w1 ⟨rfl, hx⟩; have hall : Below w.heap.size w w1 := Below.trans (by go_grown) (hx.mono (by go_size)); have hsz : w.heap.size ≤ w1.heap.size := hall.size; clear hx))
      all_goals go_ret
      all_goals exact ⟨by simp_all, hall⟩
    · go_enter Tryz.func8, Tryz.ntmps8
      go_wp2_with (first
        | (go_at_call 32; refine (few_yes _ _ _ _ h60).mono ?_; rintro e w' ⟨rfl, rfl⟩)
        | (go_at_call 27; refine (measured_a _ (hE.up hall)).mono ?_; rintro e w1 ⟨rfl, hx⟩; have hall : Below w.heap.size w w1 := Below.trans (by go_grown) (hx.mono (by go_size)); have hsz : w.heap.size ≤ w1.heap.size := hall.size; clear hx))
      all_goals go_ret
      all_goals exact ⟨rfl, hall⟩
  · go_enter Tryz.func8, Tryz.ntmps8
    go_wp2_with (first
      | (go_at_call 32; refine (few_no _ _ _ _ h60 hm).mono ?_; rintro e w' ⟨rfl, rfl⟩)
      | (go_at_call 27; refine (measured_a _ (hE.up hall)).mono ?_; rintro e w1 ⟨rfl, hx⟩; have hall : Below w.heap.size w w1 := Below.trans (by go_grown) (hx.mono (by go_size)); have hsz : w.heap.size ≤ w1.heap.size := hall.size; clear hx))
    all_goals go_ret
    all_goals exact ⟨rfl, hall⟩
end Go.Proofs.YthncpapejijloaaGreatDoor
