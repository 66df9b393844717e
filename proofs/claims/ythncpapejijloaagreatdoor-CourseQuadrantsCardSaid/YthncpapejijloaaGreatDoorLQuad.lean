/- Walk of the law of directions. -/
import Derived.Test.YthncpapejijloaaGreatDoorProg
import Derived.WalkKit
import Derived.WalkLawsBesides
import Derived.WalkSpells
import Derived.Handy
import Derived.Lib.Hide
import Derived.Great.BuildSlice
import Derived.Deep.QuietTactic
import Derived.BigQuiet
import Derived.Deep.RegionHeld3
import Derived.Deep.DeepCutAuto
import Derived.Test.YthncpapejijloaaGreatDoorLw
import Derived.Test.YthncpapejijloaaGreatDoorBZ
namespace Go.Proofs.YthncpapejijloaaGreatDoor
open Go.RowKit

set_option maxRecDepth 100000 in
set_option maxHeartbeats 2000000 in
theorem courseQuadrants_w (d : Int) (s : ByteArray) (w : World) (hE : Env w) (hmx : s.size ≤ maxLen) :
    Calls Tryz.prog 18 #[.int .i64 d, .string s] w fun e w' => e = .returned (.bool true) ∧ Below w.heap.size w w' := by
  unfold maxLen at hmx
  have h8 : 8 ≤ w.heap.size := hE.size
  have hall : Below w.heap.size w w := Below.refl _ _
  have hsz : w.heap.size ≤ w.heap.size := Nat.le_refl _
  by_cases h100 : s.size ≤ 100
  · obtain ⟨a, ha⟩ : ∃ a, Pl.bearV s = a := ⟨_, rfl⟩
    obtain ⟨x, hx⟩ : ∃ x : ByteArray, (⟨(Pl.quad d).toArray⟩ : ByteArray) = x := ⟨_, rfl⟩
    have HA := Lib.hid ha; have HX := Lib.hid hx
    clear ha hx
    go_enter Tryz.func18, Tryz.ntmps18
    go_wp2_with (first
      | (go_at_call 57; refine (bear_a s _).mono ?_; rintro e w1 ⟨rfl, hx⟩; rw [HA.out]; have hall : Below w.heap.size w w1 := Below.trans (by go_grown) (hx.mono (by go_size)); have hsz : w.heap.size ≤ w1.heap.size := hall.size; clear hx)
      | (go_at_call 58; refine (bear_b s _).mono ?_; rintro e w1 ⟨rfl, hx⟩; rw [HA.out]; have hall : Below w.heap.size w w1 := Below.trans (by go_grown) (hx.mono (by go_size)); have hsz : w.heap.size ≤ w1.heap.size := hall.size; clear hx)
      | (go_at_call 59; refine (quadA_h d x _ HX).mono ?_; rintro e w' ⟨rfl, rfl⟩)
      | (go_at_call 60; refine (quadB_h d x _ HX).mono ?_; rintro e w1 ⟨rfl, hx⟩; have hall : Below w.heap.size w w1 := Below.trans (by go_grown) (hx.mono (by go_size)); have hsz : w.heap.size ≤ w1.heap.size := hall.size; clear hx)
      | (go_at_call 27; refine (measured_a _ (hE.up hall)).mono ?_; rintro e w1 ⟨rfl, hx⟩; have hall : Below w.heap.size w w1 := Below.trans (by go_grown) (hx.mono (by go_size)); have hsz : w.heap.size ≤ w1.heap.size := hall.size; clear hx))
    all_goals go_ret
    all_goals exact ⟨by first | rfl | simp, hall⟩
  · go_enter Tryz.func18, Tryz.ntmps18
    go_wp2_with (go_at_call 27; refine (measured_a _ (hE.up hall)).mono ?_; rintro e w1 ⟨rfl, hx⟩; have hall : Below w.heap.size w w1 := Below.trans (by go_grown) (hx.mono (by go_size)); have hsz : w.heap.size ≤ w1.heap.size := hall.size; clear hx)
    all_goals first
      | (exfalso; omega)
      | (go_ret; exact ⟨rfl, hall⟩)
end Go.Proofs.YthncpapejijloaaGreatDoor
