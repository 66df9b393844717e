/- Walk of the law of needles. -/
import Derived.Test.YthncpapejijloaaGreatDoorProg
import Derived.WalkKit
import Derived.WalkLawsBesides
import Derived.WalkSpells
import Derived.Handy
import Derived.Lib.Hide
import Derived.Great.BuildSlice
import Derived.Deep.QuietTactic
import Derived.BigQuiet
import Derived.Deep.RegionHeld3
import Derived.Deep.DeepCutAuto
import Derived.Test.YthncpapejijloaaGreatDoorLw
import Derived.Test.YthncpapejijloaaGreatDoorBC
namespace Go.Proofs.YthncpapejijloaaGreatDoor
open Go.RowKit

set_option maxRecDepth 100000 in
set_option maxHeartbeats 1000000 in
theorem courseNeedles_w     (A : Option Addr) (cp : Nat) (v : List (Int × Int)) (c : Pl.Crs) (dx dy : Int)     (w : World) (hE : Env w) (hl : Vars w w.heap.size A v) (hm : v.length ≤ maxLen) :
    Calls Tryz.prog 7 #[.slice A v.length cp, .agg #[.int .i64 c.b, .int .i64 c.n, .int .i64 c.l, .int .i64 c.y, .int .i64 c.x, .int .i64 c.s], .int .i64 dx, .int .i64 dy] w fun e w' => e = .returned (.bool true) ∧ Below w.heap.size w w' := by
  have h8 : 8 ≤ w.heap.size := hE.size
  have hall : Below w.heap.size w w := Below.refl _ _
  have hsz : w.heap.size ≤ w.heap.size := Nat.le_refl _
  have kb := heap_alloc_new w (.cells #[.int .i64 c.b, .int .i64 c.n, .int .i64 c.l, .int .i64 c.y, .int .i64 c.x, .int .i64 c.s] 29)
  have hall : Below w.heap.size w (w.alloc (.cells #[.int .i64 c.b, .int .i64 c.n, .int .i64 c.l, .int .i64 c.y, .int .i64 c.x, .int .i64 c.s] 29)) := hall.alloc (Nat.le_refl _) _
  by_cases h60 : v.length ≤ 60
  · go_enter Tryz.func7, Tryz.ntmps7
    go_wp2_with (first
      | (go_at_call 32; refine (few_yes _ _ _ _ h60).mono ?_; rintro e w' ⟨rfl, rfl⟩)
      | (go_at_call 38; refine (Needed_a _ _ v c _ _ _ (hl.up (by go_grown)) hm).mono ?_; rintro e w1 ⟨rfl, hx⟩; have kb := (hx.block w.heap.size (by first | omega | (simp; done) | (simp; omega))).trans kb; obtain ⟨hcb, hfb⟩ := blk_cells kb; have hall : Below w.heap.size w w1 := Below.trans (by go_grown) (hx.mono (by go_size)); have hsz : w.heap.size < w1.heap.size := (Array.getElem?_eq_some_iff.1 kb).1; clear hx)
      | (go_at_call 39; refine (Needed_b _ _ v c _ _ _ (hl.up (by go_grown)) hm).mono ?_; rintro e w1 ⟨rfl, hx⟩; have kb := (hx.block w.heap.size (by first | omega | (simp; done) | (simp; omega))).trans kb; obtain ⟨hcb, hfb⟩ := blk_cells kb; have hall : Below w.heap.size w w1 := Below.trans (by go_grown) (hx.mono (by go_size)); have hsz : w.heap.size < w1.heap.size := (Array.getElem?_eq_some_iff.1 kb).1; clear hx)
      | (go_at_call 27; refine (measured_a _ (hE.up hall)).mono ?_; rintro e w1 ⟨rfl, hx⟩; have hall : Below w.heap.size w w1 := Below.trans (by go_grown) (hx.mono (by go_size)); have hsz : w.heap.size ≤ w1.heap.size := hall.size; clear hx))
    all_goals go_ret
    all_goals exact ⟨by simp_all, hall⟩
  · go_enter Tryz.func7, Tryz.ntmps7
    go_wp2_with (first
      | (go_at_call 32; refine (few_no _ _ _ _ h60 hm).mono ?_; rintro e w' ⟨rfl, rfl⟩)
      | (go_at_call 27; refine (measured_a _ (hE.up hall)).mono ?_; rintro e w1 ⟨rfl, hx⟩; have hall : Below w.heap.size w w1 := Below.trans (by go_grown) (hx.mono (by go_size)); have hsz : w.heap.size ≤ w1.heap.size := hall.size; clear hx))
    go_ret
    exact ⟨rfl, hall⟩
end Go.Proofs.YthncpapejijloaaGreatDoor
