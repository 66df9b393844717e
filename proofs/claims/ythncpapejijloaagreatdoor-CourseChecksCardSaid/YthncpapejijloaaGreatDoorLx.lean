/- More of what the laws of the chapter of courses share. -/
import Derived.Test.YthncpapejijloaaGreatDoorProg
import Derived.WalkKit
import Derived.WalkLawsBesides
import Derived.WalkSpells
import Derived.Handy
import Derived.Lib.Hide
import Derived.Great.BuildSlice
import Derived.Deep.QuietTactic
import Derived.BigQuiet
import Derived.Deep.RegionHeld3
import Derived.Deep.DeepCutAuto
import Derived.Test.YthncpapejijloaaGreatDoorLw
import Derived.Test.YthncpapejijloaaGreatDoorPlB
namespace Go.Proofs.YthncpapejijloaaGreatDoor
open Go.RowKit

/-- Fits, both results named. -/
theorem Fits_hh     (A : Option Addr) (cp : Nat) (v : List (Int × Int)) (c : Pl.Crs) (dx dy : Int) (B : Bool) (E : Int) (w : World) (hB : Hid (decide (Pl.stepE v c dx dy = 0 ∧ Pl.fitR v c dx dy = 0) = B)) (hE : Hid (Pl.stepE v c dx dy = E)) (hl : Vars w w.heap.size A v) (hm : v.length ≤ maxLen) :
    Calls Tryz.prog 35 #[.slice A v.length cp, .agg #[.int .i64 c.b, .int .i64 c.n, .int .i64 c.l, .int .i64 c.y, .int .i64 c.x, .int .i64 c.s], .int .i64 dx, .int .i64 dy] w fun e w' => e = .returned (.tuple #[.bool B, .int .i64 E]) ∧ Below w.heap.size w w' := by
  have h := Fits_a A cp v c dx dy w hl hm
  rw [hB.out, hE.out] at h
  exact h
/-- Interval, its results named. -/
theorem Interval_h     (A : Option Addr) (cp : Nat) (v : List (Int × Int)) (c : Pl.Crs) (dx lo hi E : Int) (ok : Bool) (w : World) (hC : Hid (Pl.com v [c] dx = (lo, hi, ok))) (hE : Hid (Pl.comE v [c] dx = E)) (hl : Vars w w.heap.size A v) (hm : v.length ≤ maxLen) :
    Calls Tryz.prog 36 #[.slice A v.length cp, .agg #[.int .i64 c.b, .int .i64 c.n, .int .i64 c.l, .int .i64 c.y, .int .i64 c.x, .int .i64 c.s], .int .i64 dx] w fun e w' => e = .returned (.tuple #[.int .i64 lo, .int .i64 hi, .bool ok, .int .i64 E]) ∧ Below w.heap.size w w' := by
  have h := Interval_a A cp v c dx w hl hm
  rw [hC.out, hE.out] at h
  exact h
theorem ints_cell {w : World} {g : Nat} {l : List Int} {t : TypeId} {k : Nat} (h : w.heap[g]? = some (.cells (l.map (Value.int .i64)).toArray t (0, 0))) (hk : k < l.length) : w.cell? ⟨g, k, none⟩ = some (.int .i64 l[k]) := by
  rw [(blk_cells h).1]; simp [hk]
end Go.Proofs.YthncpapejijloaaGreatDoor
