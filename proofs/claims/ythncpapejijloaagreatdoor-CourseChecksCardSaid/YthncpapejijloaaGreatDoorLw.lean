/- What the laws of the chapter of courses share. -/
import Derived.Test.YthncpapejijloaaGreatDoorProg
import Derived.WalkKit
import Derived.WalkLawsBesides
import Derived.WalkSpells
import Derived.Handy
import Derived.Lib.Hide
import Derived.Great.BuildSlice
import Derived.Deep.QuietTactic
import Derived.BigQuiet
import Derived.Deep.RegionHeld3
import Derived.Deep.DeepCutAuto
import Derived.Test.YthncpapejijloaaGreatDoorAH
import Derived.Test.YthncpapejijloaaGreatDoorPlA
namespace Go.Proofs.YthncpapejijloaaGreatDoor
open Go.RowKit

theorem few_yes (A : Option Addr) (c : Nat) (l : List (Int × Int)) (w : World) (h : l.length ≤ 60) : Calls Tryz.prog 32 #[.slice A l.length c] w fun e w' => e = .returned (.bool true) ∧ w = w' := by
  go_enter Tryz.func32, Tryz.ntmps32
  go_wp2
  go_ret
  exact ⟨ret_bool (by simp; omega), rfl⟩
theorem few_no (A : Option Addr) (c : Nat) (l : List (Int × Int)) (w : World) (h : ¬ l.length ≤ 60) (hm : l.length ≤ maxLen) : Calls Tryz.prog 32 #[.slice A l.length c] w fun e w' => e = .returned (.bool false) ∧ w = w' := by
  unfold maxLen at hm
  go_enter Tryz.func32, Tryz.ntmps32
  go_wp2
  go_ret
  exact ⟨ret_bool (by simp; omega), rfl⟩
/-- Fits, the result named. -/
theorem Fits_h     (A : Option Addr) (cp : Nat) (v : List (Int × Int)) (c : Pl.Crs) (dx dy : Int) (B : Bool) (w : World) (hB : Hid (decide (Pl.stepE v c dx dy = 0 ∧ Pl.fitR v c dx dy = 0) = B)) (hl : Vars w w.heap.size A v) (hm : v.length ≤ maxLen) :
    Calls Tryz.prog 35 #[.slice A v.length cp, .agg #[.int .i64 c.b, .int .i64 c.n, .int .i64 c.l, .int .i64 c.y, .int .i64 c.x, .int .i64 c.s], .int .i64 dx, .int .i64 dy] w fun e w' => e = .returned (.tuple #[.bool B, .int .i64 (Pl.stepE v c dx dy)]) ∧ Below w.heap.size w w' := by
  have h := Fits_a A cp v c dx dy w hl hm
  rw [hB.out] at h
  exact h
end Go.Proofs.YthncpapejijloaaGreatDoor
