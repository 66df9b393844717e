/- Walk of the law of lengths. -/
import Derived.Test.YthncpapejijloaaGreatDoorProg
import Derived.WalkKit
import Derived.WalkLawsBesides
import Derived.WalkSpells
import Derived.Handy
import Derived.Lib.Hide
import Derived.Great.BuildSlice
import Derived.Deep.QuietTactic
import Derived.BigQuiet
import Derived.Deep.RegionHeld3
import Derived.Deep.DeepCutAuto
import Derived.Test.YthncpapejijloaaGreatDoorLw
import Derived.Test.YthncpapejijloaaGreatDoorBX
namespace Go.Proofs.YthncpapejijloaaGreatDoor
open Go.RowKit

theorem linksB_same (s : ByteArray) (w : World) (hs : s.size ≤ 100) : Calls Tryz.prog 45 #[.string s] w fun e w' => e = .returned (.tuple #[.int .i64 (readN (Pl.readV Pl.poles Pl.lengthV s)), .int .i64 (readE (Pl.readV Pl.poles Pl.lengthV s))]) ∧ Below w.heap.size w w' := by
  have h := linksB s w hs
  rw [(Pl.same_links s).1, (Pl.same_links s).2] at h
  exact h
theorem areaB_same (s : ByteArray) (w : World) (hs : s.size ≤ 100) : Calls Tryz.prog 47 #[.string s] w fun e w' => e = .returned (.tuple #[.int .i64 (readN (Pl.readV Pl.roods Pl.acresV s)), .int .i64 (readE (Pl.readV Pl.roods Pl.acresV s))]) ∧ Below w.heap.size w w' := by
  have h := areaB s w hs
  rw [(Pl.same_area s).1, (Pl.same_area s).2] at h
  exact h
set_option maxRecDepth 100000 in
set_option maxHeartbeats 2000000 in
theorem courseLengths_w (n : Int) (s : ByteArray) (w : World) (hE : Env w) (hmx : s.size ≤ maxLen) :
    Calls Tryz.prog 13 #[.int .i64 n, .string s] w fun e w' => e = .returned (.bool true) ∧ Below w.heap.size w w' := by
  unfold maxLen at hmx
  have h8 : 8 ≤ w.heap.size := hE.size
  have hall : Below w.heap.size w w := Below.refl _ _
  have hsz : w.heap.size ≤ w.heap.size := Nat.le_refl _
  by_cases h100 : s.size ≤ 100
  · obtain ⟨a, ha⟩ : ∃ a, Pl.readV Pl.poles Pl.lengthV s = a := ⟨_, rfl⟩
    obtain ⟨b, hb⟩ : ∃ b, Pl.readV Pl.roods Pl.acresV s = b := ⟨_, rfl⟩
    obtain ⟨x, hx⟩ : ∃ x, Pl.lengthV n = x := ⟨_, rfl⟩
    obtain ⟨y, hy⟩ : ∃ y, Pl.acresV n = y := ⟨_, rfl⟩
    have HA := Lib.hid ha; have HB := Lib.hid hb; have HX := Lib.hid hx; have HY := Lib.hid hy
    clear ha hb hx hy
    go_enter Tryz.func13, Tryz.ntmps13
    go_wp2_with (first
      | (go_at_call 44; refine (links_a s _ (hE.up hall) (by omega)).mono ?_; rintro e w1 ⟨rfl, hx⟩; rw [HA.out]; have hall : Below w.heap.size w w1 := Below.trans (by go_grown) (hx.mono (by go_size)); have hsz : w.heap.size ≤ w1.heap.size := hall.size; clear hx)
      | (go_at_call 45; refine (linksB_same s _ h100).mono ?_; rintro e w1 ⟨rfl, hx⟩; rw [HA.out]; have hall : Below w.heap.size w w1 := Below.trans (by go_grown) (hx.mono (by go_size)); have hsz : w.heap.size ≤ w1.heap.size := hall.size; clear hx)
      | (go_at_call 46; refine (area_a s _ (hE.up hall) (by omega)).mono ?_; rintro e w1 ⟨rfl, hx⟩; rw [HB.out]; have hall : Below w.heap.size w w1 := Below.trans (by go_grown) (hx.mono (by go_size)); have hsz : w.heap.size ≤ w1.heap.size := hall.size; clear hx)
      | (go_at_call 47; refine (areaB_same s _ h100).mono ?_; rintro e w1 ⟨rfl, hx⟩; rw [HB.out]; have hall : Below w.heap.size w w1 := Below.trans (by go_grown) (hx.mono (by go_size)); have hsz : w.heap.size ≤ w1.heap.size := hall.size; clear hx)
      | (go_at_call 48; refine (length_a n _ (hE.up hall)).mono ?_; rintro e w1 ⟨rfl, hx⟩; rw [HX.out]; have hall : Below w.heap.size w w1 := Below.trans (by go_grown) (hx.mono (by go_size)); have hsz : w.heap.size ≤ w1.heap.size := hall.size; clear hx)
      | (go_at_call 49; refine (length_b n _).mono ?_; rintro e w1 ⟨rfl, hx⟩; rw [HX.out]; have hall : Below w.heap.size w w1 := Below.trans (by go_grown) (hx.mono (by go_size)); have hsz : w.heap.size ≤ w1.heap.size := hall.size; clear hx)
      | (go_at_call 50; refine (acres_a n _ (hE.up hall)).mono ?_; rintro e w1 ⟨rfl, hx⟩; rw [HY.out]; have hall : Below w.heap.size w w1 := Below.trans (by go_grown) (hx.mono (by go_size)); have hsz : w.heap.size ≤ w1.heap.size := hall.size; clear hx)
      | (go_at_call 51; refine (acres_b n _).mono ?_; rintro e w1 ⟨rfl, hx⟩; rw [HY.out]; have hall : Below w.heap.size w w1 := Below.trans (by go_grown) (hx.mono (by go_size)); have hsz : w.heap.size ≤ w1.heap.size := hall.size; clear hx)
      | (go_at_call 27; refine (measured_a _ (hE.up hall)).mono ?_; rintro e w1 ⟨rfl, hx⟩; have hall : Below w.heap.size w w1 := Below.trans (by go_grown) (hx.mono (by go_size)); have hsz : w.heap.size ≤ w1.heap.size := hall.size; clear hx))
    all_goals go_ret
    all_goals exact ⟨by first | rfl | simp, hall⟩
  · go_enter Tryz.func13, Tryz.ntmps13
    go_wp2_with (go_at_call 27; refine (measured_a _ (hE.up hall)).mono ?_; rintro e w1 ⟨rfl, hx⟩; have hall : Below w.heap.size w w1 := Below.trans (by go_grown) (hx.mono (by go_size)); have hsz : w.heap.size ≤ w1.heap.size := hall.size; clear hx)
    all_goals first
      | (exfalso; omega)
      | (go_ret; exact ⟨rfl, hall⟩)
end Go.Proofs.YthncpapejijloaaGreatDoor
