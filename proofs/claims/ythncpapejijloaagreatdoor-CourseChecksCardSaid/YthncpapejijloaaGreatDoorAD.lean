/- Walks: Misfit, Fits, the interval of a question. -/
import Derived.Test.YthncpapejijloaaGreatDoorProg
import Derived.WalkKit
import Derived.WalkLawsBesides
import Derived.WalkSpells
import Derived.Handy
import Derived.Lib.Hide
import Derived.Great.BuildSlice
import Derived.Deep.QuietTactic
import Derived.BigQuiet
import Derived.Deep.RegionHeld3
import Derived.Deep.DeepCutAuto
import Derived.Test.YthncpapejijloaaGreatDoorAC
import Derived.Test.YthncpapejijloaaGreatDoorPlA
namespace Go.Proofs.YthncpapejijloaaGreatDoor
open Go.RowKit

/-- One course in a block of its own. -/
theorem Crss.single {w : World} {B : Nat} (c : Pl.Crs) {b : Nat} (hb : b < B) (h : w.heap[b]? = some (.cells #[.int .i64 c.b, .int .i64 c.n, .int .i64 c.l, .int .i64 c.y, .int .i64 c.x, .int .i64 c.s] 29 (0, 0))) :
    Crss w B (some ⟨b, 0, none⟩) [c] := by
  refine .inr ⟨b, 0, rfl, hb, fun k x hx j v hv => ?_⟩
  rcases k with _ | k
  · simp at hx; subst hx
    rw [cell_of_row _ _ _ _ _ _ h]
    rw [← hv]
    simp [encCrs]
  · simp at hx

theorem common1_a (A : Option Addr) (cp c' b : Nat) (v : List (Int × Int)) (c : Pl.Crs) (w : World) (hl : Vars w w.heap.size A v) (hm : v.length ≤ maxLen) (h : w.heap[b]? = some (.cells #[.int .i64 c.b, .int .i64 c.n, .int .i64 c.l, .int .i64 c.y, .int .i64 c.x, .int .i64 c.s] 29 (0, 0))) :
    Calls Tryz.prog 76 #[.slice A v.length cp, .slice (some ⟨b, 0, none⟩) 1 c'] w fun e w' => e = .returned (.int .i64 (Pl.commonE v [c])) ∧ Below w.heap.size w w' := by
  have hb : b < w.heap.size := (Array.getElem?_eq_some_iff.1 h).1
  exact common_a A (some ⟨b, 0, none⟩) cp c' v [c] w hl hm (Crss.single c hb h) (by simp [maxLen])

set_option maxHeartbeats 1000000 in
theorem Misfit_a (A : Option Addr) (cp : Nat) (v : List (Int × Int)) (c : Pl.Crs) (dx dy : Int) (w : World) (hl : Vars w w.heap.size A v) (hm : v.length ≤ maxLen) :
    Calls Tryz.prog 33 #[.slice A v.length cp, .agg #[.int .i64 c.b, .int .i64 c.n, .int .i64 c.l, .int .i64 c.y, .int .i64 c.x, .int .i64 c.s], .int .i64 dx, .int .i64 dy] w fun e w' => e = .returned (.tuple #[.int .u8 (Pl.fitR v c dx dy), .int .i64 (Pl.stepE v c dx dy)]) ∧ Below w.heap.size w w' := by
  by_cases h1 : Pl.commonE v [c] = 0
  · obtain ⟨k0, k1, k2⟩ := Pl.commonE_one h1
    obtain ⟨⟨g0, g1⟩, _⟩ := c.ok_iff k1
    have h1' : (Pl.commonE v [c] != 0) = false := by simp [h1]
    by_cases h2 : Pl.stepOk dx dy = true
    · obtain ⟨j0, j1, j2, j3, j4⟩ := Pl.stepOk_iff h2
      have h2' : (Pl.err (Pl.stepOk dx dy) != 0) = false := by rw [h2]; rfl
      have hE : Hid (Pl.stepE v c dx dy = 0) := by unfold Hid Pl.stepE; rw [if_neg (by simp [h1]), h2]; rfl
      have hK := Lib.hid k1
      clear h1 h2 k0 k1 k2
      by_cases hd : dx < 0
      · have hR : Hid (Pl.fitR v c dx dy = Pl.misfit (c.back.lo v) (c.back.hi v) (-dx) c.ne c.fa (-dy)) := by unfold Hid Pl.fitR Pl.fitv; rw [if_pos hE.out, if_pos hd]; rfl
        have hq := Lib.hid (Pl.Crs.qok (v := v) (dx := -dx) (Pl.Crs.back_ok hK.out) (by omega) (by omega))
        go_enter Tryz.func33, Tryz.ntmps33
        go_wp2_with (first
          | (go_at_call 76; refine (common1_a _ _ _ _ v c _ ?_ hm ?_).mono ?_; (exact hl.up (by go_grown)); (exact heap_at (by simp)); rintro e w1 ⟨rfl, hx1⟩; have kb1a : w1.heap[w.heap.size]? = some (.cells _ _ (0, 0)) := (hx1.block _ (by first | omega | (simp; done) | (simp; omega))).trans (heap_alloc2_old _ _ _); obtain ⟨hc1a, hf1a⟩ := blk_cells kb1a; have hsz1 := hx1.size; (try simp at hsz1); have hb1 : Below w.heap.size w w1 := Below.trans (by go_grown) (hx1.mono (by go_size)); have hsz1w : w.heap.size ≤ w1.heap.size := hb1.size; clear hx1)
          | (go_at_call 77; refine (step_a _ _ _).mono ?_; rintro e w' ⟨rfl, rfl⟩)
          | (go_at_call 78; refine (turned_neg _ _ _ _ _ _ _ _ _ (by omega) (by omega) (by omega) hd (by omega) (by omega)).mono ?_; rintro e w2 ⟨rfl, hx2⟩; have kb2a : w2.heap[w.heap.size]? = some (.cells _ _ (0, 0)) := (hx2.block _ (by first | omega | (simp; done) | (simp; omega))).trans (kb1a); obtain ⟨hc2a, hf2a⟩ := blk_cells kb2a; have hsz2 := hx2.size; (try simp at hsz2); have hb2 : Below w.heap.size w w2 := Below.trans (by go_grown) (hx2.mono (by go_size)); have hsz2w : w.heap.size ≤ w2.heap.size := hb2.size; clear hx2)
          | (go_at_call 79; refine (asked_a _ _ v _ _ _ _ _ _ _ _ ?_ hm ?_).mono ?_; (exact hl.up (by go_grown)); (exact Pl.Crs.back_ok hK.out); rintro e w3 ⟨rfl, hx3⟩; have hb3 : Below w.heap.size w w3 := Below.trans (by go_grown) (hx3.mono (by go_size)); clear hx3; have hsz3 : w.heap.size ≤ w3.heap.size := hb3.size)
          | (go_at_call 80; refine (misfit_a _ _ _ _ _ _ _ ?_ (by omega) (by omega)).mono ?_; (exact hq.out); rintro e w4 ⟨rfl, hx4⟩; have hb4 : Below w.heap.size w w4 := Below.trans (by go_grown) (hx4.mono (by go_size)); clear hx4; have hsz4 : w.heap.size ≤ w4.heap.size := hb4.size))
        go_ret2
        exact ⟨by rw [hE.out, hR.out]; rfl, by go_grown⟩
      · have hR : Hid (Pl.fitR v c dx dy = Pl.misfit (c.lo v) (c.hi v) dx c.ne c.fa dy) := by unfold Hid Pl.fitR Pl.fitv; rw [if_pos hE.out, if_neg hd]; rfl
        have hq := Lib.hid (Pl.Crs.qok (v := v) (dx := dx) hK.out (by omega) (by omega))
        go_enter Tryz.func33, Tryz.ntmps33
        go_wp2_with (first
          | (go_at_call 76; refine (common1_a _ _ _ _ v c _ ?_ hm ?_).mono ?_; (exact hl.up (by go_grown)); (exact heap_at (by simp)); rintro e w1 ⟨rfl, hx1⟩; have kb1a : w1.heap[w.heap.size]? = some (.cells _ _ (0, 0)) := (hx1.block _ (by first | omega | (simp; done) | (simp; omega))).trans (heap_alloc2_old _ _ _); obtain ⟨hc1a, hf1a⟩ := blk_cells kb1a; have hsz1 := hx1.size; (try simp at hsz1); have hb1 : Below w.heap.size w w1 := Below.trans (by go_grown) (hx1.mono (by go_size)); have hsz1w : w.heap.size ≤ w1.heap.size := hb1.size; clear hx1)
          | (go_at_call 77; refine (step_a _ _ _).mono ?_; rintro e w' ⟨rfl, rfl⟩)
          | (go_at_call 78; refine (turned_pos _ _ _ _ _ _ _ _ _ (by omega)).mono ?_; rintro e w2 ⟨rfl, hx2⟩; have kb2a : w2.heap[w.heap.size]? = some (.cells _ _ (0, 0)) := (hx2.block _ (by first | omega | (simp; done) | (simp; omega))).trans (kb1a); obtain ⟨hc2a, hf2a⟩ := blk_cells kb2a; have hsz2 := hx2.size; (try simp at hsz2); have hb2 : Below w.heap.size w w2 := Below.trans (by go_grown) (hx2.mono (by go_size)); have hsz2w : w.heap.size ≤ w2.heap.size := hb2.size; clear hx2)
          | (go_at_call 79; refine (asked_a _ _ v _ _ _ _ _ _ _ _ ?_ hm ?_).mono ?_; (exact hl.up (by go_grown)); (exact hK.out); rintro e w3 ⟨rfl, hx3⟩; have hb3 : Below w.heap.size w w3 := Below.trans (by go_grown) (hx3.mono (by go_size)); clear hx3; have hsz3 : w.heap.size ≤ w3.heap.size := hb3.size)
          | (go_at_call 80; refine (misfit_a _ _ _ _ _ _ _ ?_ (by omega) (by omega)).mono ?_; (exact hq.out); rintro e w4 ⟨rfl, hx4⟩; have hb4 : Below w.heap.size w w4 := Below.trans (by go_grown) (hx4.mono (by go_size)); clear hx4; have hsz4 : w.heap.size ≤ w4.heap.size := hb4.size))
        go_ret2
        exact ⟨by rw [hE.out, hR.out]; rfl, by go_grown⟩
    · have h2' : (Pl.err (Pl.stepOk dx dy) != 0) = true := by simp only [Bool.not_eq_true] at h2; rw [h2]; rfl
      have hE : Hid (Pl.stepE v c dx dy = Pl.err (Pl.stepOk dx dy)) := by unfold Hid Pl.stepE; rw [if_neg (by simp [h1])]
      have hR : Hid (Pl.fitR v c dx dy = 0) := by unfold Hid Pl.fitR; rw [if_neg (by rw [hE.out]; simpa using h2')]
      clear h1 h2 k0 k1 k2
      go_enter Tryz.func33, Tryz.ntmps33
      go_wp2_with (first
        | (go_at_call 76; refine (common1_a _ _ _ _ v c _ ?_ hm ?_).mono ?_; (exact hl.up (by go_grown)); (exact heap_at (by simp)); rintro e w1 ⟨rfl, hx1⟩; have kb1a : w1.heap[w.heap.size]? = some (.cells _ _ (0, 0)) := (hx1.block _ (by first | omega | (simp; done) | (simp; omega))).trans (heap_alloc2_old _ _ _); obtain ⟨hc1a, hf1a⟩ := blk_cells kb1a; have hsz1 := hx1.size; (try simp at hsz1); have hb1 : Below w.heap.size w w1 := Below.trans (by go_grown) (hx1.mono (by go_size)); have hsz1w : w.heap.size ≤ w1.heap.size := hb1.size; clear hx1)
        | (go_at_call 77; refine (step_a _ _ _).mono ?_; rintro e w' ⟨rfl, rfl⟩))
      go_ret2
      exact ⟨by rw [hE.out, hR.out]; rfl, by go_grown⟩
  · have h1' : (Pl.commonE v [c] != 0) = true := by simp [h1]
    have hE : Hid (Pl.stepE v c dx dy = Pl.commonE v [c]) := by unfold Hid Pl.stepE; rw [if_pos h1]
    have hR : Hid (Pl.fitR v c dx dy = 0) := by unfold Hid Pl.fitR; rw [if_neg (by rw [hE.out]; exact h1)]
    have H1 := Lib.hid h1; clear h1
    go_enter Tryz.func33, Tryz.ntmps33
    go_wp2_with (go_at_call 76; refine (common1_a _ _ _ _ v c _ ?_ hm ?_).mono ?_; (exact hl.up (by go_grown)); (exact heap_at (by simp)); rintro e w1 ⟨rfl, hx1⟩; have kb1a : w1.heap[w.heap.size]? = some (.cells _ _ (0, 0)) := (hx1.block _ (by first | omega | (simp; done) | (simp; omega))).trans (heap_alloc2_old _ _ _); obtain ⟨hc1a, hf1a⟩ := blk_cells kb1a; have hsz1 := hx1.size; (try simp at hsz1); have hb1 : Below w.heap.size w w1 := Below.trans (by go_grown) (hx1.mono (by go_size)); have hsz1w : w.heap.size ≤ w1.heap.size := hb1.size; clear hx1)
    go_ret2
    exact ⟨by rw [hE.out, hR.out]; rfl, by go_grown⟩
end Go.Proofs.YthncpapejijloaaGreatDoor

namespace Go.Proofs.YthncpapejijloaaGreatDoor
open Go.RowKit

theorem fitR_eq {v : List (Int × Int)} {c : Pl.Crs} {dx dy : Int} : (decide (Pl.stepE v c dx dy = 0) && decide (Pl.fitR v c dx dy = 0)) = decide (Pl.stepE v c dx dy = 0 ∧ Pl.fitR v c dx dy = 0) := by simp
theorem Fits_a (A : Option Addr) (cp : Nat) (v : List (Int × Int)) (c : Pl.Crs) (dx dy : Int) (w : World) (hl : Vars w w.heap.size A v) (hm : v.length ≤ maxLen) :
    Calls Tryz.prog 35 #[.slice A v.length cp, .agg #[.int .i64 c.b, .int .i64 c.n, .int .i64 c.l, .int .i64 c.y, .int .i64 c.x, .int .i64 c.s], .int .i64 dx, .int .i64 dy] w fun e w' => e = .returned (.tuple #[.bool (decide (Pl.stepE v c dx dy = 0 ∧ Pl.fitR v c dx dy = 0)), .int .i64 (Pl.stepE v c dx dy)]) ∧ Below w.heap.size w w' := by
  go_enter Tryz.func35, Tryz.ntmps35
  go_wp2_with (first | (go_at_call 33; refine (Misfit_a _ _ v c _ _ _ (hl.up (by go_grown)) hm).mono ?_; rintro e w1 ⟨rfl, hx1⟩; have hb1 : Below w.heap.size w w1 := Below.trans (by go_grown) (hx1.mono (by go_size)); clear hx1; have hsz1 : w.heap.size ≤ w1.heap.size := hb1.size))
  all_goals go_ret2
  all_goals exact ⟨by first | (simp_all; done) | (simp_all; rfl), by go_grown⟩

theorem ivl_yes {lo hi dx ne fa a b : Int} (h : Pl.ivl lo hi dx ne fa = if (Pl.ends lo hi dx ne fa).2 < (Pl.ends lo hi dx ne fa).1 then (0, 0, false) else ((Pl.ends lo hi dx ne fa).1, (Pl.ends lo hi dx ne fa).2, true))
    (h1 : (Pl.ends lo hi dx ne fa).1 = a) (h2 : (Pl.ends lo hi dx ne fa).2 = b) (h3 : a ≤ b) : Ending.returned (.tuple #[.int .i64 a, .int .i64 b, .bool true]) = .returned (.tuple #[.int .i64 (Pl.ivl lo hi dx ne fa).1, .int .i64 (Pl.ivl lo hi dx ne fa).2.1, .bool (Pl.ivl lo hi dx ne fa).2.2]) := by
  rw [h, h1, h2, if_neg (by omega)]
theorem ivl_no {lo hi dx ne fa : Int} (h : Pl.ivl lo hi dx ne fa = if (Pl.ends lo hi dx ne fa).2 < (Pl.ends lo hi dx ne fa).1 then (0, 0, false) else ((Pl.ends lo hi dx ne fa).1, (Pl.ends lo hi dx ne fa).2, true))
    (h1 : (Pl.ends lo hi dx ne fa).2 < (Pl.ends lo hi dx ne fa).1) : Ending.returned (.tuple #[.int .i64 0, .int .i64 0, .bool false]) = .returned (.tuple #[.int .i64 (Pl.ivl lo hi dx ne fa).1, .int .i64 (Pl.ivl lo hi dx ne fa).2.1, .bool (Pl.ivl lo hi dx ne fa).2.2]) := by
  rw [h, if_pos h1]
set_option maxRecDepth 100000 in
set_option maxHeartbeats 2000000 in
theorem ivl_a (lo hi dx ne fa : Int) (w : World) (h : Pl.QOk lo hi dx ne fa) :
    Calls Tryz.prog 113 #[.agg #[.int .i64 lo, .int .i64 hi, .int .i64 dx, .int .i64 ne, .int .i64 fa]] w fun e w' => e = .returned (.tuple #[.int .i64 (Pl.ivl lo hi dx ne fa).1, .int .i64 (Pl.ivl lo hi dx ne fa).2.1, .bool (Pl.ivl lo hi dx ne fa).2.2]) ∧ Below w.heap.size w w' := by
  by_cases h1 : hi ≤ 0 ∨ 180 ≤ lo
  · have hE : Hid (Pl.ivl lo hi dx ne fa = (0, 0, false)) := by unfold Hid Pl.ivl; rw [if_pos (by omega)]
    go_enter Tryz.func113, Tryz.ntmps113
    go_wp2
    all_goals go_ret3
    all_goals exact ⟨by rw [hE.out]; rfl, by go_grown⟩
  obtain ⟨g0, g1, g2, g3, g4, g5, g6, g7, g8⟩ := h
  obtain ⟨p0, p1⟩ := Pl.mul_le_of g7 g8 g7 g8
  obtain ⟨p2, p3⟩ := Pl.mul_le_of (show 0 ≤ dx by omega) g4 (show 0 ≤ dx by omega) g4
  obtain ⟨p4, p5⟩ := Pl.mul_le_of g5 g6 g5 g6
  have r0 : 0 ≤ fa * fa / 100000000 ∧ fa * fa / 100000000 ≤ 11449000000 := by omega
  obtain ⟨r1, r2⟩ := r0
  have e1 : IntKind.i64.wrap (fa * fa) = fa * fa := IntWalk.i64_in _ (by omega)
  have e2 : IntKind.i64.wrap (dx * dx) = dx * dx := IntWalk.i64_in _ (by omega)
  have e3 : IntKind.i64.wrap (fa * fa / 100000000 - dx * dx) = fa * fa / 100000000 - dx * dx := IntWalk.i64_in _ (by omega)
  have hB := Lib.hid (heap_at (w := w) (o := .cells #[.int .i64 lo, .int .i64 hi, .int .i64 dx, .int .i64 ne, .int .i64 fa] 85) rfl)
  by_cases h2 : fa * fa / 100000000 - dx * dx < 0
  · have hE : Hid (Pl.ivl lo hi dx ne fa = (0, 0, false)) := by unfold Hid Pl.ivl Pl.room; rw [if_pos (by omega)]
    go_enter Tryz.func113, Tryz.ntmps113
    go_wp2
    go_region_held3 (fun W => W.cell? ⟨w.heap.size, 4, none⟩ = some (.int .i64 fa) ∧ W.cell? ⟨w.heap.size, 2, none⟩ = some (.int .i64 dx)) (exact ⟨by simp [go_sem], by simp [go_sem]⟩)
      (first | (go_at_call 125; refine (floor_a _ _ _ (by omega) (by omega) (by omega)).mono ?_; rintro e w' ⟨rfl, rfl⟩))
    all_goals go_wp2
    all_goals go_ret3
    all_goals exact ⟨by rw [hE.out]; rfl, by go_grown⟩
  have q0 : Pl.room dx fa = fa * fa / 100000000 - dx * dx := rfl
  have hE : Hid (Pl.ivl lo hi dx ne fa = if (Pl.ends lo hi dx ne fa).2 < (Pl.ends lo hi dx ne fa).1 then (0, 0, false) else ((Pl.ends lo hi dx ne fa).1, (Pl.ends lo hi dx ne fa).2, true)) := by
    unfold Hid Pl.ivl
    by_cases h3 : (Pl.ends lo hi dx ne fa).2 < (Pl.ends lo hi dx ne fa).1
    · rw [if_pos (by omega), if_pos h3]
    · rw [if_neg (by rw [q0]; omega), if_neg h3]
  obtain ⟨t0, t1, _, _⟩ := Pl.root_bd (fa * fa / 100000000 - dx * dx)
  have hR : Hid (min (Pl.root (fa * fa / 100000000 - dx * dx)) 100000 = Pl.reach dx fa) := rfl
  have rb : 0 ≤ Pl.reach dx fa ∧ Pl.reach dx fa ≤ 100000 := by rw [← hR.out]; omega
  obtain ⟨rb0, rb1⟩ := rb
  clear q0
  go_enter Tryz.func113, Tryz.ntmps113
  go_wp2
  go_region_held3 (fun W => W.cell? ⟨w.heap.size, 4, none⟩ = some (.int .i64 fa) ∧ W.cell? ⟨w.heap.size, 2, none⟩ = some (.int .i64 dx)) (exact ⟨by simp [go_sem], by simp [go_sem]⟩)
    (first | (go_at_call 125; refine (floor_a _ _ _ (by omega) (by omega) (by omega)).mono ?_; rintro e w' ⟨rfl, rfl⟩))
  go_upto_if 40 with (first | (go_at_call 28; refine (root_a _ _).mono ?_; rintro e w' ⟨rfl, rfl⟩))
  have hr : (if 100000 < Pl.root (fa * fa / 100000000 - dx * dx) then (100000 : Int) else Pl.root (fa * fa / 100000000 - dx * dx)) = Pl.reach dx fa := by rw [← hR.out]; split <;> omega
  rw [hr]
  clear hr
  go_cut [7, 8] (fun s7 s8 wx => s7 = .int .i64 (-Pl.reach dx fa) ∧ s8 = .int .i64 (Pl.topBy lo dx (Pl.reach dx fa)) ∧ wx.heap[w.heap.size]? = some (.cells #[.int .i64 lo, .int .i64 hi, .int .i64 dx, .int .i64 ne, .int .i64 fa] 85 (0, 0)) ∧ Below w.heap.size w wx)
  case first =>
    by_cases hlo : 0 < lo
    · obtain ⟨c0, c1⟩ := Pl.cos_bd lo
      have sp := Pl.sin_pos hlo (by omega)
      obtain ⟨_, s1⟩ := Pl.sin_bd lo
      obtain ⟨m0, m1⟩ := Pl.mul_abs_of (show -100000 ≤ dx by omega) g4 c0 c1
      have kb7a := hB.out
      obtain ⟨hc7a, hf7a⟩ := blk_cells kb7a
      have e4 : IntKind.i64.wrap (dx * Pl.cos lo) = dx * Pl.cos lo := IntWalk.i64_in _ (by omega)
      go_wp2
      go_region_held3 (fun W => W.cell? ⟨w.heap.size, 0, none⟩ = some (.int .i64 lo) ∧ W.cell? ⟨w.heap.size, 2, none⟩ = some (.int .i64 dx)) (exact ⟨by simp [hc7a], by simp [hc7a]⟩)
        (first
          | (go_at_call 25; refine (cos_a _ _).mono ?_; rintro e w7 ⟨rfl, hx7⟩; have kb7a : w7.heap[w.heap.size]? = some (.cells _ _ (0, 0)) := (hx7.block _ (by first | omega | (simp; done) | (simp; omega))).trans (kb7a); obtain ⟨hc7a, hf7a⟩ := blk_cells kb7a; have hsz7 := hx7.size; (try simp at hsz7); have hb7 : Below w.heap.size w w7 := Below.trans (by go_grown) (hx7.mono (by go_size)); have hsz7w : w.heap.size ≤ w7.heap.size := hb7.size; clear hx7)
          | (go_at_call 23; refine (sin_a _ _).mono ?_; rintro e w7 ⟨rfl, hx7⟩; have kb7a : w7.heap[w.heap.size]? = some (.cells _ _ (0, 0)) := (hx7.block _ (by first | omega | (simp; done) | (simp; omega))).trans (kb7a); obtain ⟨hc7a, hf7a⟩ := blk_cells kb7a; have hsz7 := hx7.size; (try simp at hsz7); have hb7 : Below w.heap.size w w7 := Below.trans (by go_grown) (hx7.mono (by go_size)); have hsz7w : w.heap.size ≤ w7.heap.size := hb7.size; clear hx7)
          | (go_at_call 125; refine (floor_a _ _ _ (by omega) (by omega) (by omega)).mono ?_; rintro e w' ⟨rfl, rfl⟩))
      all_goals go_wp2
      all_goals go_meet
      all_goals exact ⟨rfl, congrArg (Value.int .i64) (by unfold Pl.topBy; rw [if_pos hlo]; omega), kb7a, by go_grown⟩
    · go_wp2
      go_meet
      exact ⟨rfl, by unfold Pl.topBy; rw [if_neg (by omega)], hB.out, by go_grown⟩
  case rest =>
    obtain ⟨rfl, rfl, kb, hb⟩ := hcut
    have hsz := hb.size
    obtain ⟨hc7a, hf7a⟩ := blk_cells kb
    have hB2 := Lib.hid kb
    clear hB
    have hlt := (Array.getElem?_eq_some_iff.1 hB2.out).1
    go_upto_if 55 with fail
    go_cut [7, 8] (fun s7 s8 wx => s7 = .int .i64 (Pl.lowBy hi dx (-Pl.reach dx fa)) ∧ s8 = .int .i64 (Pl.topBy lo dx (Pl.reach dx fa)) ∧ wx.heap[w.heap.size]? = some (.cells #[.int .i64 lo, .int .i64 hi, .int .i64 dx, .int .i64 ne, .int .i64 fa] 85 (0, 0)) ∧ Below w.heap.size w wx)
    case first =>
      by_cases hhi : hi < 180
      · obtain ⟨c0, c1⟩ := Pl.cos_bd hi
        have sp := Pl.sin_pos (show 0 < hi by omega) hhi
        obtain ⟨_, s1⟩ := Pl.sin_bd hi
        obtain ⟨m0, m1⟩ := Pl.mul_abs_of (show -100000 ≤ dx by omega) g4 c0 c1
        have kb7a := hB2.out
        have e4 : IntKind.i64.wrap (dx * Pl.cos hi) = dx * Pl.cos hi := IntWalk.i64_in _ (by omega)
        go_wp2
        go_region_held3 (fun W => W.cell? ⟨w.heap.size, 1, none⟩ = some (.int .i64 hi) ∧ W.cell? ⟨w.heap.size, 2, none⟩ = some (.int .i64 dx)) (exact ⟨by simp [hc7a], by simp [hc7a]⟩)
          (first
            | (go_at_call 25; refine (cos_a _ _).mono ?_; rintro e w7 ⟨rfl, hx7⟩; have kb7a : w7.heap[w.heap.size]? = some (.cells _ _ (0, 0)) := (hx7.block _ (by first | omega | (simp; done) | (simp; omega))).trans (kb7a); obtain ⟨hc7a, hf7a⟩ := blk_cells kb7a; have hsz7 := hx7.size; (try simp at hsz7); have hb7 : Below w.heap.size w w7 := Below.trans (by go_grown) (hx7.mono (by go_size)); have hsz7w : w.heap.size ≤ w7.heap.size := hb7.size; clear hx7)
            | (go_at_call 23; refine (sin_a _ _).mono ?_; rintro e w7 ⟨rfl, hx7⟩; have kb7a : w7.heap[w.heap.size]? = some (.cells _ _ (0, 0)) := (hx7.block _ (by first | omega | (simp; done) | (simp; omega))).trans (kb7a); obtain ⟨hc7a, hf7a⟩ := blk_cells kb7a; have hsz7 := hx7.size; (try simp at hsz7); have hb7 : Below w.heap.size w w7 := Below.trans (by go_grown) (hx7.mono (by go_size)); have hsz7w : w.heap.size ≤ w7.heap.size := hb7.size; clear hx7)
            | (go_at_call 126; refine (ceil_a _ _ _ (by omega) (by omega) (by omega)).mono ?_; rintro e w' ⟨rfl, rfl⟩))
        all_goals go_wp2
        all_goals go_meet
        all_goals exact ⟨congrArg (Value.int .i64) (by unfold Pl.lowBy; rw [if_pos hhi]; omega), rfl, kb7a, by go_grown⟩
      · go_wp2
        go_meet
        exact ⟨congrArg (Value.int .i64) (by unfold Pl.lowBy; rw [if_neg (by omega)]), rfl, hB2.out, by go_grown⟩
    case rest =>
      obtain ⟨rfl, rfl, kc, hb3⟩ := hcut
      have hsz3 := hb3.size
      clear hc7a hf7a
      obtain ⟨hc8, hf8⟩ := blk_cells kc
      have hB3 := Lib.hid kc
      clear hB2 hlt
      have hlt := (Array.getElem?_eq_some_iff.1 hB3.out).1
      have e5 : IntKind.i64.wrap (ne * ne) = ne * ne := IntWalk.i64_in _ (by omega)
      have e6 : IntKind.i64.wrap (-(-(ne * ne) / 100000000) - dx * dx) = -(-(ne * ne) / 100000000) - dx * dx := IntWalk.i64_in _ (by omega)
      obtain ⟨ru0, ru1⟩ := Pl.rootUp_bd (-(-(ne * ne) / 100000000) - dx * dx)
      have hS : Hid (Pl.short dx ne = -(-(ne * ne) / 100000000) - dx * dx) := rfl
      go_wp2
      go_region_held3 (fun W => W.cell? ⟨w.heap.size, 3, none⟩ = some (.int .i64 ne) ∧ W.cell? ⟨w.heap.size, 2, none⟩ = some (.int .i64 dx)) (exact ⟨by simp [hc8], by simp [hc8]⟩)
        (first
          | (go_at_call 126; refine (ceil_a _ _ _ (by omega) (by omega) (by omega)).mono ?_; rintro e w' ⟨rfl, rfl⟩)
          | (go_at_call 29; refine (rootUp_a _ _).mono ?_; rintro e w' ⟨rfl, rfl⟩))
      all_goals go_wp2
      all_goals go_ret3
      all_goals refine ⟨?_, by go_grown⟩
      all_goals first
        | exact ivl_yes hE.out (by show (if hi ≤ 90 then _ else _) = _; rw [hS.out]; first | (rw [if_pos (by assumption)]; omega) | (rw [if_neg (by omega)])) (by show (if ¬ hi ≤ 90 ∧ 90 ≤ lo then _ else _) = _; rw [hS.out]; first | (rw [if_pos (by omega)]; omega) | (rw [if_neg (by omega)])) (by omega)
        | exact ivl_no hE.out (by show (if ¬ hi ≤ 90 ∧ 90 ≤ lo then _ else _) < (if hi ≤ 90 then _ else _); rw [hS.out]; split <;> (first | omega | (split <;> omega)))
end Go.Proofs.YthncpapejijloaaGreatDoor
