/- Walk of the law of turns. -/
import Derived.Test.YthncpapejijloaaGreatDoorProg
import Derived.WalkKit
import Derived.WalkLawsBesides
import Derived.WalkSpells
import Derived.Handy
import Derived.Lib.Hide
import Derived.Great.BuildSlice
import Derived.Deep.QuietTactic
import Derived.BigQuiet
import Derived.Deep.RegionHeld3
import Derived.Deep.DeepCutAuto
import Derived.Test.YthncpapejijloaaGreatDoorLx
import Derived.Test.YthncpapejijloaaGreatDoorBC
namespace Go.Proofs.YthncpapejijloaaGreatDoor
open Go.RowKit

set_option maxRecDepth 100000 in
set_option maxHeartbeats 4000000 in
theorem turns_any (a b : Pl.Crs) (x0 x1 x2 x3 x4 x5 E : Int) (w : World) (hE : Env w)
    (H1 : Hid (∀ W, Calls Tryz.prog 42 #[.agg #[.int .i64 a.b, .int .i64 a.n, .int .i64 a.l, .int .i64 a.y, .int .i64 a.x, .int .i64 a.s]] W fun e w' => e = .returned (.tuple #[.agg #[.int .i64 x0, .int .i64 x1, .int .i64 x2, .int .i64 x3, .int .i64 x4, .int .i64 x5], .int .i64 E]) ∧ Below W.heap.size W w'))
    (H2 : Hid (∀ W, Calls Tryz.prog 52 #[.agg #[.int .i64 a.b, .int .i64 a.n, .int .i64 a.l, .int .i64 a.y, .int .i64 a.x, .int .i64 a.s]] W fun e w' => e = .returned (.tuple #[.agg #[.int .i64 x0, .int .i64 x1, .int .i64 x2, .int .i64 x3, .int .i64 x4, .int .i64 x5], .int .i64 E]) ∧ Below W.heap.size W w')) :
    Calls Tryz.prog 14 #[.agg #[.int .i64 a.b, .int .i64 a.n, .int .i64 a.l, .int .i64 a.y, .int .i64 a.x, .int .i64 a.s], .agg #[.int .i64 b.b, .int .i64 b.n, .int .i64 b.l, .int .i64 b.y, .int .i64 b.x, .int .i64 b.s]] w fun e w' => e = .returned (.bool true) ∧ Below w.heap.size w w' := by
  have h8 : 8 ≤ w.heap.size := hE.size
  have hall : Below w.heap.size w w := Below.refl _ _
  have hsz : w.heap.size ≤ w.heap.size := Nat.le_refl _
  have ka := heap_alloc2_old w (.cells #[.int .i64 a.b, .int .i64 a.n, .int .i64 a.l, .int .i64 a.y, .int .i64 a.x, .int .i64 a.s] 29) (.cells #[.int .i64 b.b, .int .i64 b.n, .int .i64 b.l, .int .i64 b.y, .int .i64 b.x, .int .i64 b.s] 29)
  have kb := heap_alloc2_new w (.cells #[.int .i64 a.b, .int .i64 a.n, .int .i64 a.l, .int .i64 a.y, .int .i64 a.x, .int .i64 a.s] 29) (.cells #[.int .i64 b.b, .int .i64 b.n, .int .i64 b.l, .int .i64 b.y, .int .i64 b.x, .int .i64 b.s] 29)
  obtain ⟨N, hN⟩ : ∃ N, Pl.narrower a b = N := ⟨_, rfl⟩
  have HN := Lib.hid hN; clear hN
  go_enter Tryz.func14, Tryz.ntmps14
  go_wp2_with fail
  (go_at_call 42; refine (H1.out _).mono ?_; rintro e w1 ⟨rfl, hx⟩)
  have ka := (hx.block w.heap.size (Array.getElem?_eq_some_iff.1 ka).1).trans ka
  have kb := (hx.block (w.heap.size + 1) (Array.getElem?_eq_some_iff.1 kb).1).trans kb
  have hall : Below w.heap.size w w1 := Below.trans (by go_grown) (hx.mono (by go_size))
  have hsz := hall.size
  clear hx
  obtain ⟨hca, hfa⟩ := blk_cells ka
  have hla := (Array.getElem?_eq_some_iff.1 ka).1
  have hlb := (Array.getElem?_eq_some_iff.1 kb).1
  go_wp2_with fail
  have kx := heap_alloc_new w1 (.cells #[.int .i64 x0, .int .i64 x1, .int .i64 x2, .int .i64 x3, .int .i64 x4, .int .i64 x5] 29)
  have ka := (Below.heap_alloc w1 (.cells #[.int .i64 x0, .int .i64 x1, .int .i64 x2, .int .i64 x3, .int .i64 x4, .int .i64 x5] 29) _ hla).trans ka
  have kb := (Below.heap_alloc w1 (.cells #[.int .i64 x0, .int .i64 x1, .int .i64 x2, .int .i64 x3, .int .i64 x4, .int .i64 x5] 29) _ hlb).trans kb
  (go_at_call 52; refine (H2.out _).mono ?_; rintro e w2 ⟨rfl, hx⟩)
  have ka := (hx.block w.heap.size (Array.getElem?_eq_some_iff.1 ka).1).trans ka
  have kb := (hx.block (w.heap.size + 1) (Array.getElem?_eq_some_iff.1 kb).1).trans kb
  have kx := (hx.block w1.heap.size (Array.getElem?_eq_some_iff.1 kx).1).trans kx
  have hall : Below w.heap.size w w2 := Below.trans (by go_grown) (hx.mono (by go_size))
  have hsz := hall.size
  clear hx hca hfa
  go_wp2
  have ky := heap_alloc_new w2 (.cells #[.int .i64 x0, .int .i64 x1, .int .i64 x2, .int .i64 x3, .int .i64 x4, .int .i64 x5] 29)
  have ka := (Below.heap_alloc w2 (.cells #[.int .i64 x0, .int .i64 x1, .int .i64 x2, .int .i64 x3, .int .i64 x4, .int .i64 x5] 29) _ (Array.getElem?_eq_some_iff.1 ka).1).trans ka
  have kb := (Below.heap_alloc w2 (.cells #[.int .i64 x0, .int .i64 x1, .int .i64 x2, .int .i64 x3, .int .i64 x4, .int .i64 x5] 29) _ (Array.getElem?_eq_some_iff.1 kb).1).trans kb
  have kx := (Below.heap_alloc w2 (.cells #[.int .i64 x0, .int .i64 x1, .int .i64 x2, .int .i64 x3, .int .i64 x4, .int .i64 x5] 29) _ (Array.getElem?_eq_some_iff.1 kx).1).trans kx
  have hall0 : Below w.heap.size w (w2.alloc (.cells #[.int .i64 x0, .int .i64 x1, .int .i64 x2, .int .i64 x3, .int .i64 x4, .int .i64 x5] 29)) := by go_grown
  generalize w2.alloc (.cells #[.int .i64 x0, .int .i64 x1, .int .i64 x2, .int .i64 x3, .int .i64 x4, .int .i64 x5] 29) = W0 at *
  generalize w2.heap.size = By at *
  generalize w1.heap.size = Bx at *
  have la := (Array.getElem?_eq_some_iff.1 ka).1
  have lb := (Array.getElem?_eq_some_iff.1 kb).1
  have lx := (Array.getElem?_eq_some_iff.1 kx).1
  have ly := (Array.getElem?_eq_some_iff.1 ky).1
  have hszB : w.heap.size ≤ W0.heap.size := hall0.size
  have ca := (blk_cells ka).1
  have cb := (blk_cells kb).1
  have cx := (blk_cells kx).1
  have cy := (blk_cells ky).1
  clear ka kb kx ky hall hsz hla hlb
  go_region_held3 (fun W => (∀ j, W.cell? ⟨w.heap.size, j, none⟩ = (#[.int .i64 a.b, .int .i64 a.n, .int .i64 a.l, .int .i64 a.y, .int .i64 a.x, .int .i64 a.s] : Array Value)[j]?) ∧ (∀ j, W.cell? ⟨w.heap.size + 1, j, none⟩ = (#[.int .i64 b.b, .int .i64 b.n, .int .i64 b.l, .int .i64 b.y, .int .i64 b.x, .int .i64 b.s] : Array Value)[j]?) ∧ (∀ j, W.cell? ⟨Bx, j, none⟩ = (#[.int .i64 x0, .int .i64 x1, .int .i64 x2, .int .i64 x3, .int .i64 x4, .int .i64 x5] : Array Value)[j]?) ∧ (∀ j, W.cell? ⟨By, j, none⟩ = (#[.int .i64 x0, .int .i64 x1, .int .i64 x2, .int .i64 x3, .int .i64 x4, .int .i64 x5] : Array Value)[j]?)) (exact ⟨by assumption, by assumption, by assumption, by assumption⟩)
    (first
      | (go_at_call 27; refine (measured_a _ (hE.up (by go_grown))).mono ?_; rintro e w5 ⟨rfl, hx⟩; have hbW : Below W0.heap.size W0 w5 := Below.trans (by go_grown) (hx.mono (by go_size)); have hsW := hbW.size; have ua := fun j => (hbW.cell (p := ⟨w.heap.size, j, none⟩) la).trans (ca j); have ub := fun j => (hbW.cell (p := ⟨w.heap.size + 1, j, none⟩) lb).trans (cb j); have ux := fun j => (hbW.cell (p := ⟨Bx, j, none⟩) lx).trans (cx j); have uy := fun j => (hbW.cell (p := ⟨By, j, none⟩) ly).trans (cy j); have hall : Below w.heap.size w w5 := hall0.trans (hbW.mono hszB); have hsz := hall.size; clear hx)
      | (go_at_call 53; refine (Narrower_a a b _).mono ?_; rintro e w6 ⟨rfl, hx⟩; have hbW : Below W0.heap.size W0 w6 := Below.trans (by go_grown) (hx.mono (by go_size)); have hsW := hbW.size; have ua := fun j => (hbW.cell (p := ⟨w.heap.size, j, none⟩) la).trans (ca j); have ub := fun j => (hbW.cell (p := ⟨w.heap.size + 1, j, none⟩) lb).trans (cb j); have ux := fun j => (hbW.cell (p := ⟨Bx, j, none⟩) lx).trans (cx j); have uy := fun j => (hbW.cell (p := ⟨By, j, none⟩) ly).trans (cy j); have hall : Below w.heap.size w w6 := hall0.trans (hbW.mono hszB); have hsz := hall.size; clear hx)
      | (go_at_call 54; refine (Narrower_b a b _).mono ?_; rintro e w7 ⟨rfl, hx⟩; have hbW : Below W0.heap.size W0 w7 := Below.trans (by go_grown) (hx.mono (by go_size)); have hsW := hbW.size; have ua := fun j => (hbW.cell (p := ⟨w.heap.size, j, none⟩) la).trans (ca j); have ub := fun j => (hbW.cell (p := ⟨w.heap.size + 1, j, none⟩) lb).trans (cb j); have ux := fun j => (hbW.cell (p := ⟨Bx, j, none⟩) lx).trans (cx j); have uy := fun j => (hbW.cell (p := ⟨By, j, none⟩) ly).trans (cy j); have hall : Below w.heap.size w w7 := hall0.trans (hbW.mono hszB); have hsz := hall.size; clear hx))
  all_goals go_wp2
  all_goals go_ret
  all_goals exact ⟨by first | rfl | simp, hall⟩
theorem courseTurns_w (a b : Pl.Crs) (w : World) (hE : Env w) :
    Calls Tryz.prog 14 #[.agg #[.int .i64 a.b, .int .i64 a.n, .int .i64 a.l, .int .i64 a.y, .int .i64 a.x, .int .i64 a.s], .agg #[.int .i64 b.b, .int .i64 b.n, .int .i64 b.l, .int .i64 b.y, .int .i64 b.x, .int .i64 b.s]] w fun e w' => e = .returned (.bool true) ∧ Below w.heap.size w w' := by
  by_cases hok : a.ok = true
  · exact turns_any a b _ _ _ _ _ _ _ w hE (Lib.hid fun W => Reverse_ok a W hok) (Lib.hid fun W => ReverseB_ok a W hok)
  · exact turns_any a b _ _ _ _ _ _ _ w hE (Lib.hid fun W => Reverse_no a W (by simpa using hok)) (Lib.hid fun W => ReverseB_no a W hok)
end Go.Proofs.YthncpapejijloaaGreatDoor
