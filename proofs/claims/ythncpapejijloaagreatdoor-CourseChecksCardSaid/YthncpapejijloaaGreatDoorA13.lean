/- Walks of Quadrant, of course. -/
import Derived.Test.YthncpapejijloaaGreatDoorProg
import Derived.WalkKit
import Derived.WalkLawsBesides
import Derived.WalkSpells
import Derived.Handy
import Derived.Lib.Hide
import Derived.Great.BuildSlice
import Derived.Deep.QuietTactic
import Derived.BigQuiet
import Derived.Deep.RegionHeld3
import Derived.Deep.DeepCutAuto
import Derived.Test.YthncpapejijloaaGreatDoorEnv
import Derived.Test.YthncpapejijloaaGreatDoorAA
import Derived.Test.YthncpapejijloaaGreatDoorPl9
namespace Go.Proofs.YthncpapejijloaaGreatDoor
open Go.RowKit

theorem ba_append (a b : Array UInt8) : (⟨a⟩ : ByteArray) ++ ⟨b⟩ = ⟨a ++ b⟩ := by
  apply ByteArray.ext; simp
theorem quad_a (d : Int) (w : World) : Calls Tryz.prog 59 #[.int .i64 d] w fun e w' => e = .returned (.string ⟨(Pl.quad d).toArray⟩) ∧ w = w' := by
  have hm : 0 ≤ d % 360 ∧ d % 360 < 360 := by omega
  generalize hD : d % 360 = m at hm
  obtain ⟨m0, m1⟩ := hm
  have H := Lib.hid hD; clear hD
  by_cases h0 : m = 0
  · subst h0
    go_enter Tryz.func59, Tryz.ntmps59
    go_wp2_with (go_at_call 21; refine (norm_a _ _).mono ?_; rintro e w' ⟨rfl, rfl⟩; rw [H.out])
    go_ret
    exact ⟨by unfold Pl.quad; rw [H.out]; rfl, rfl⟩
  by_cases h90 : m = 90
  · subst h90
    go_enter Tryz.func59, Tryz.ntmps59
    go_wp2_with (go_at_call 21; refine (norm_a _ _).mono ?_; rintro e w' ⟨rfl, rfl⟩; rw [H.out])
    go_ret
    exact ⟨by unfold Pl.quad; rw [H.out]; rfl, rfl⟩
  by_cases h180 : m = 180
  · subst h180
    go_enter Tryz.func59, Tryz.ntmps59
    go_wp2_with (go_at_call 21; refine (norm_a _ _).mono ?_; rintro e w' ⟨rfl, rfl⟩; rw [H.out])
    go_ret
    exact ⟨by unfold Pl.quad; rw [H.out]; rfl, rfl⟩
  by_cases h270 : m = 270
  · subst h270
    go_enter Tryz.func59, Tryz.ntmps59
    go_wp2_with (go_at_call 21; refine (norm_a _ _).mono ?_; rintro e w' ⟨rfl, rfl⟩; rw [H.out])
    go_ret
    exact ⟨by unfold Pl.quad; rw [H.out]; rfl, rfl⟩
  by_cases q0 : m < 90
  · have hl := Pl.dec_len (n := (m).toNat) (by omega)
    go_enter Tryz.func59, Tryz.ntmps59
    go_wp2_with (first | (go_at_call 21; refine (norm_a _ _).mono ?_; rintro e w' ⟨rfl, rfl⟩; rw [H.out]) | (go_at_call 97; refine (itoa_small _ _ (by omega) (by omega)).mono ?_; rintro e w' ⟨rfl, rfl⟩))
    go_ret
    exact ⟨by unfold Pl.quad Pl.quadT; rw [H.out]; simp (disch := omega) only [if_pos, if_neg]; simp [Pl.north, Pl.east, ba_append], rfl⟩
  by_cases q1 : m < 180
  · have hl := Pl.dec_len (n := (180 - m).toNat) (by omega)
    go_enter Tryz.func59, Tryz.ntmps59
    go_wp2_with (first | (go_at_call 21; refine (norm_a _ _).mono ?_; rintro e w' ⟨rfl, rfl⟩; rw [H.out]) | (go_at_call 97; refine (itoa_small _ _ (by omega) (by omega)).mono ?_; rintro e w' ⟨rfl, rfl⟩))
    go_ret
    exact ⟨by unfold Pl.quad Pl.quadT; rw [H.out]; simp (disch := omega) only [if_pos, if_neg]; simp [Pl.east, Pl.south, ba_append], rfl⟩
  by_cases q2 : m < 270
  · have hl := Pl.dec_len (n := (180 - (360 - m)).toNat) (by omega)
    have hz : Hid (180 - (360 - m) = m - 180) := by unfold Hid; omega
    go_enter Tryz.func59, Tryz.ntmps59
    go_wp2_with (first | (go_at_call 21; refine (norm_a _ _).mono ?_; rintro e w' ⟨rfl, rfl⟩; rw [H.out]) | (go_at_call 97; refine (itoa_small _ _ (by omega) (by omega)).mono ?_; rintro e w' ⟨rfl, rfl⟩))
    go_ret
    exact ⟨by unfold Pl.quad Pl.quadT; rw [H.out, hz.out]; simp (disch := omega) only [if_pos, if_neg]; simp [Pl.south, Pl.west, ba_append], rfl⟩
  · have hl := Pl.dec_len (n := (360 - m).toNat) (by omega)
    go_enter Tryz.func59, Tryz.ntmps59
    go_wp2_with (first | (go_at_call 21; refine (norm_a _ _).mono ?_; rintro e w' ⟨rfl, rfl⟩; rw [H.out]) | (go_at_call 97; refine (itoa_small _ _ (by omega) (by omega)).mono ?_; rintro e w' ⟨rfl, rfl⟩))
    go_ret
    exact ⟨by unfold Pl.quad Pl.quadT; rw [H.out]; simp (disch := omega) only [if_neg]; simp [Pl.north, Pl.west, ba_append], rfl⟩
end Go.Proofs.YthncpapejijloaaGreatDoor
