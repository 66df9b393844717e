/- Walk of the law of roots. -/
import Derived.Test.YthncpapejijloaaGreatDoorProg
import Derived.WalkKit
import Derived.WalkLawsBesides
import Derived.WalkSpells
import Derived.Handy
import Derived.Lib.Hide
import Derived.Great.BuildSlice
import Derived.Deep.QuietTactic
import Derived.BigQuiet
import Derived.Deep.RegionHeld3
import Derived.Deep.DeepCutAuto
import Derived.Test.YthncpapejijloaaGreatDoorAH
namespace Go.Proofs.YthncpapejijloaaGreatDoor
open Go.RowKit

theorem roots_law (n : Int) : (n < 0 → Pl.root n = 0 ∧ Pl.rootUp n = 0) ∧ 0 ≤ Pl.root n ∧ Pl.root n ≤ 3037000499 ∧ Pl.root n ≤ Pl.rootUp n ∧ Pl.rootUp n ≤ Pl.root n + 1 ∧ (0 ≤ n → Pl.root n * Pl.root n ≤ n) ∧ (0 ≤ n → (Pl.root n = Pl.rootUp n ↔ Pl.root n * Pl.root n = n)) := by
  obtain ⟨h0, h1, h2, h3, h4⟩ := Pl.root_is n
  unfold Pl.rootUp
  refine ⟨fun h => ?_, h0, h1, ?_, ?_, h3, fun h => ?_⟩
  · have := h2 h; rw [this, if_neg (by omega)]; exact ⟨rfl, rfl⟩
  · split <;> omega
  · split <;> omega
  · have := h3 h; split <;> omega
set_option maxRecDepth 100000 in
theorem courseRoots_w (n : Int) (w : World) (hE : Env w) : Calls Tryz.prog 4 #[.int .i64 n] w fun e w' => e = .returned (.bool true) ∧ Below w.heap.size w w' := by
  have h8 : 8 ≤ w.heap.size := hE.size
  have hall : Below w.heap.size w w := Below.refl _ _
  have hsz : w.heap.size ≤ w.heap.size := Nat.le_refl _
  obtain ⟨k0, k1, k2, k3, k4, k5, k6⟩ := roots_law n
  obtain ⟨b0, b1, b2, b3⟩ := Pl.root_bd n
  generalize hr : Pl.root n = r at *
  generalize hu : Pl.rootUp n = u at *
  have H1 := Lib.hid hr; have H2 := Lib.hid hu; clear hr hu
  by_cases hn : n < 0
  · obtain ⟨rfl, rfl⟩ := k0 hn
    clear k0 k5 k6
    go_enter Tryz.func4, Tryz.ntmps4
    go_wp2_with (first | (go_at_call 28; refine (root_a _ _).mono ?_; rintro e w' ⟨rfl, rfl⟩; rw [H1.out]) | (go_at_call 29; refine (rootUp_a _ _).mono ?_; rintro e w' ⟨rfl, rfl⟩; rw [H2.out]) | (go_at_call 30; refine (root_b _ _).mono ?_; rintro e w' ⟨rfl, rfl⟩; rw [H1.out]) | (go_at_call 31; refine (rootUp_b _ _).mono ?_; rintro e w' ⟨rfl, rfl⟩; rw [H2.out]) | (go_at_call 27; refine (measured_a _ (hE.up hall)).mono ?_; rintro e w1 ⟨rfl, hx⟩; have hall : Below w.heap.size w w1 := Below.trans (by go_grown) (hx.mono (by go_size)); have hsz : w.heap.size ≤ w1.heap.size := hall.size; clear hx))
    all_goals go_ret
    all_goals exact ⟨by first | rfl | simp [*], hall⟩
  · have k5' := k5 (by omega)
    have k6' := k6 (by omega)
    have ht : (r == u) = (r * r == n) := by rw [Bool.eq_iff_iff]; simpa using k6'
    have HT := Lib.hid ht
    clear k0 k5 k6 k6' ht
    go_enter Tryz.func4, Tryz.ntmps4
    go_wp2_with (first | (go_at_call 28; refine (root_a _ _).mono ?_; rintro e w' ⟨rfl, rfl⟩; rw [H1.out]) | (go_at_call 29; refine (rootUp_a _ _).mono ?_; rintro e w' ⟨rfl, rfl⟩; rw [H2.out]) | (go_at_call 30; refine (root_b _ _).mono ?_; rintro e w' ⟨rfl, rfl⟩; rw [H1.out]) | (go_at_call 31; refine (rootUp_b _ _).mono ?_; rintro e w' ⟨rfl, rfl⟩; rw [H2.out]) | (go_at_call 27; refine (measured_a _ (hE.up hall)).mono ?_; rintro e w1 ⟨rfl, hx⟩; have hall : Below w.heap.size w w1 := Below.trans (by go_grown) (hx.mono (by go_size)); have hsz : w.heap.size ≤ w1.heap.size := hall.size; clear hx))
    all_goals go_ret
    all_goals exact ⟨by rw [HT.out]; first | rfl | simp, hall⟩
end Go.Proofs.YthncpapejijloaaGreatDoor
