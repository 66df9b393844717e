/- Walks: Quadrant of the reference, Bearing of both. -/
import Derived.Test.YthncpapejijloaaGreatDoorProg
import Derived.WalkKit
import Derived.WalkLawsBesides
import Derived.WalkSpells
import Derived.Handy
import Derived.Lib.Hide
import Derived.Great.BuildSlice
import Derived.Deep.QuietTactic
import Derived.BigQuiet
import Derived.Deep.RegionHeld3
import Derived.Deep.DeepCutAuto
import Derived.Test.YthncpapejijloaaGreatDoorBT
namespace Go.Proofs.YthncpapejijloaaGreatDoor
open Go.RowKit

theorem digs (m : Int) (w : World) (h0 : 0 ≤ m) (h1 : m < 1000) : Calls Tryz.prog 98 #[.int .i64 m] w fun e w' => e = .returned (.string ⟨(Lib.decDigits m.toNat).toArray⟩) ∧ Below w.heap.size w w' := by
  obtain ⟨n, rfl⟩ := Int.eq_ofNat_of_zero_le h0
  exact digits_b n w (by omega)
set_option maxRecDepth 100000 in
set_option maxHeartbeats 1000000 in
theorem quad_b (d : Int) (w : World) : Calls Tryz.prog 60 #[.int .i64 d] w fun e w' => e = .returned (.string ⟨(Pl.quad d).toArray⟩) ∧ Below w.heap.size w w' := by
  have hm : 0 ≤ d % 360 ∧ d % 360 < 360 := by omega
  generalize hD : d % 360 = m at hm
  obtain ⟨m0, m1⟩ := hm
  have H := Lib.hid hD; clear hD
  by_cases h0 : m = 0
  · subst h0
    go_enter Tryz.func60, Tryz.ntmps60
    go_wp2_with (go_at_call 22; refine (norm_b _ _).mono ?_; rintro e w' ⟨rfl, rfl⟩; rw [H.out])
    go_ret
    exact ⟨by unfold Pl.quad; rw [H.out]; rfl, by go_grown⟩
  by_cases h90 : m = 90
  · subst h90
    go_enter Tryz.func60, Tryz.ntmps60
    go_wp2_with (go_at_call 22; refine (norm_b _ _).mono ?_; rintro e w' ⟨rfl, rfl⟩; rw [H.out])
    go_ret
    exact ⟨by unfold Pl.quad; rw [H.out]; rfl, by go_grown⟩
  by_cases h180 : m = 180
  · subst h180
    go_enter Tryz.func60, Tryz.ntmps60
    go_wp2_with (go_at_call 22; refine (norm_b _ _).mono ?_; rintro e w' ⟨rfl, rfl⟩; rw [H.out])
    go_ret
    exact ⟨by unfold Pl.quad; rw [H.out]; rfl, by go_grown⟩
  by_cases h270 : m = 270
  · subst h270
    go_enter Tryz.func60, Tryz.ntmps60
    go_wp2_with (go_at_call 22; refine (norm_b _ _).mono ?_; rintro e w' ⟨rfl, rfl⟩; rw [H.out])
    go_ret
    exact ⟨by unfold Pl.quad; rw [H.out]; rfl, by go_grown⟩
  by_cases q0 : m < 90
  · have hl := Pl.dec_len (n := (m).toNat) (by omega)
    go_enter Tryz.func60, Tryz.ntmps60
    go_wp2_with (first | (go_at_call 22; refine (norm_b _ _).mono ?_; rintro e w' ⟨rfl, rfl⟩; rw [H.out]) | (go_at_call 98; refine (digs _ _ (by omega) (by omega)).mono ?_; rintro e w1 ⟨rfl, hx1⟩; have hb1 : Below w.heap.size w w1 := Below.trans (by go_grown) (hx1.mono (by go_size)); clear hx1; have hsz1 : w.heap.size ≤ w1.heap.size := hb1.size))
    go_ret
    exact ⟨by unfold Pl.quad Pl.quadT; rw [H.out]; simp (disch := omega) only [if_pos, if_neg]; simp [Pl.north, Pl.east, ba_append], by go_grown⟩
  by_cases q1 : m < 180
  · have hl := Pl.dec_len (n := (180 - m).toNat) (by omega)
    go_enter Tryz.func60, Tryz.ntmps60
    go_wp2_with (first | (go_at_call 22; refine (norm_b _ _).mono ?_; rintro e w' ⟨rfl, rfl⟩; rw [H.out]) | (go_at_call 98; refine (digs _ _ (by omega) (by omega)).mono ?_; rintro e w1 ⟨rfl, hx1⟩; have hb1 : Below w.heap.size w w1 := Below.trans (by go_grown) (hx1.mono (by go_size)); clear hx1; have hsz1 : w.heap.size ≤ w1.heap.size := hb1.size))
    go_ret
    exact ⟨by unfold Pl.quad Pl.quadT; rw [H.out]; simp (disch := omega) only [if_pos, if_neg]; simp [Pl.east, Pl.south, ba_append], by go_grown⟩
  by_cases q2 : m < 270
  · have hl := Pl.dec_len (n := (m - 180).toNat) (by omega)
    go_enter Tryz.func60, Tryz.ntmps60
    go_wp2_with (first | (go_at_call 22; refine (norm_b _ _).mono ?_; rintro e w' ⟨rfl, rfl⟩; rw [H.out]) | (go_at_call 98; refine (digs _ _ (by omega) (by omega)).mono ?_; rintro e w1 ⟨rfl, hx1⟩; have hb1 : Below w.heap.size w w1 := Below.trans (by go_grown) (hx1.mono (by go_size)); clear hx1; have hsz1 : w.heap.size ≤ w1.heap.size := hb1.size))
    go_ret
    exact ⟨by unfold Pl.quad Pl.quadT; rw [H.out]; simp (disch := omega) only [if_pos, if_neg]; simp [Pl.south, Pl.west, ba_append], by go_grown⟩
  · have hl := Pl.dec_len (n := (360 - m).toNat) (by omega)
    go_enter Tryz.func60, Tryz.ntmps60
    go_wp2_with (first | (go_at_call 22; refine (norm_b _ _).mono ?_; rintro e w' ⟨rfl, rfl⟩; rw [H.out]) | (go_at_call 98; refine (digs _ _ (by omega) (by omega)).mono ?_; rintro e w1 ⟨rfl, hx1⟩; have hb1 : Below w.heap.size w w1 := Below.trans (by go_grown) (hx1.mono (by go_size)); clear hx1; have hsz1 : w.heap.size ≤ w1.heap.size := hb1.size))
    go_ret
    exact ⟨by unfold Pl.quad Pl.quadT; rw [H.out]; simp (disch := omega) only [if_neg]; simp [Pl.north, Pl.west, ba_append], by go_grown⟩
end Go.Proofs.YthncpapejijloaaGreatDoor
