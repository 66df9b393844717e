/- Walk of the law of sines. -/
import Derived.Test.YthncpapejijloaaGreatDoorProg
import Derived.WalkKit
import Derived.WalkLawsBesides
import Derived.WalkSpells
import Derived.Handy
import Derived.Lib.Hide
import Derived.Great.BuildSlice
import Derived.Deep.QuietTactic
import Derived.BigQuiet
import Derived.Deep.RegionHeld3
import Derived.Deep.DeepCutAuto
import Derived.Test.YthncpapejijloaaGreatDoorAH
namespace Go.Proofs.YthncpapejijloaaGreatDoor
open Go.RowKit

theorem sines_law (n : Int) (h0 : 0 ≤ n) (h1 : n < 360) : Pl.sin (-n) = - Pl.sin n ∧ Pl.cos (-n) = Pl.cos n ∧ Pl.sin (90 - n) = Pl.cos n := by
  have key : ∀ k : Fin 360, Pl.sin (-(k.val : Int)) = - Pl.sin k.val ∧ Pl.cos (-(k.val : Int)) = Pl.cos k.val ∧ Pl.sin (90 - (k.val : Int)) = Pl.cos k.val := by decide +kernel
  have := key ⟨n.toNat, by omega⟩
  simp only [] at this
  rw [show ((n.toNat : Nat) : Int) = n by omega] at this
  exact this
set_option maxRecDepth 100000 in
theorem courseSines_w (d : Int) (w : World) (hE : Env w) : Calls Tryz.prog 3 #[.int .i64 d] w fun e w' => e = .returned (.bool true) ∧ Below w.heap.size w w' := by
  have h8 : 8 ≤ w.heap.size := hE.size
  have hall : Below w.heap.size w w := Below.refl _ _
  have hsz : w.heap.size ≤ w.heap.size := Nat.le_refl _
  have hm : ∃ m, d % 360 = m ∧ 0 ≤ m ∧ m < 360 := ⟨_, rfl, by omega, by omega⟩
  obtain ⟨m, hm, r0, r1⟩ := hm
  have H := Lib.hid hm
  clear hm
  obtain ⟨g0, g1, g2⟩ := sines_law m r0 r1
  obtain ⟨b0, b1⟩ := Pl.sin_bd m
  go_enter Tryz.func3, Tryz.ntmps3
  go_wp2_with (first | (go_at_call 21; refine (norm_a _ _).mono ?_; rintro e w' ⟨rfl, rfl⟩; rw [H.out]) | (go_at_call 22; refine (norm_b _ _).mono ?_; rintro e w' ⟨rfl, rfl⟩; rw [H.out]) | (go_at_call 23; refine (sin_a _ _).mono ?_; rintro e w1 ⟨rfl, hx⟩; have hall : Below w.heap.size w w1 := Below.trans (by go_grown) (hx.mono (by go_size)); have hsz : w.heap.size ≤ w1.heap.size := hall.size; clear hx) | (go_at_call 25; refine (cos_a _ _).mono ?_; rintro e w1 ⟨rfl, hx⟩; have hall : Below w.heap.size w w1 := Below.trans (by go_grown) (hx.mono (by go_size)); have hsz : w.heap.size ≤ w1.heap.size := hall.size; clear hx) | (go_at_call 24; refine (sin_b _ _).mono ?_; rintro e w1 ⟨rfl, hx⟩; have hall : Below w.heap.size w w1 := Below.trans (by go_grown) (hx.mono (by go_size)); have hsz : w.heap.size ≤ w1.heap.size := hall.size; clear hx) | (go_at_call 26; refine (cos_b _ _).mono ?_; rintro e w1 ⟨rfl, hx⟩; have hall : Below w.heap.size w w1 := Below.trans (by go_grown) (hx.mono (by go_size)); have hsz : w.heap.size ≤ w1.heap.size := hall.size; clear hx) | (go_at_call 27; refine (measured_a _ (hE.up hall)).mono ?_; rintro e w1 ⟨rfl, hx⟩; have hall : Below w.heap.size w w1 := Below.trans (by go_grown) (hx.mono (by go_size)); have hsz : w.heap.size ≤ w1.heap.size := hall.size; clear hx))
  all_goals go_ret
  all_goals exact ⟨by first | rfl | simp [*], hall⟩
end Go.Proofs.YthncpapejijloaaGreatDoor
