/- Walks: why a step does not fit. -/
import Derived.Test.YthncpapejijloaaGreatDoorProg
import Derived.WalkKit
import Derived.WalkLawsBesides
import Derived.WalkSpells
import Derived.Handy
import Derived.Lib.Hide
import Derived.Great.BuildSlice
import Derived.Deep.QuietTactic
import Derived.BigQuiet
import Derived.Deep.RegionHeld3
import Derived.Deep.DeepCutAuto
import Derived.Test.YthncpapejijloaaGreatDoorAB
namespace Go.Proofs.YthncpapejijloaaGreatDoor
open Go.RowKit

theorem sided_a (lo hi dx ne fa : Int) (w : World) :
    Calls Tryz.prog 110 #[.agg #[.int .i64 lo, .int .i64 hi, .int .i64 dx, .int .i64 ne, .int .i64 fa]] w fun e w' => e = .returned (.bool (decide (hi ≤ 90 ∨ 90 ≤ lo))) ∧ Below w.heap.size w w' := by
  go_enter Tryz.func110, Tryz.ntmps110
  go_wp2
  all_goals go_ret
  all_goals exact ⟨ret_bool (by grind), by go_grown⟩
theorem asked_a (A : Option Addr) (c : Nat) (v : List (Int × Int)) (b n l y x s dx : Int) (w : World) (hl : Vars w w.heap.size A v) (hm : v.length ≤ maxLen) (ho : Pl.courseOk b n l y x s = true) :
    Calls Tryz.prog 79 #[.slice A v.length c, .agg #[.int .i64 b, .int .i64 n, .int .i64 l, .int .i64 y, .int .i64 x, .int .i64 s], .int .i64 dx] w fun e w' => e = .returned (.agg #[.int .i64 (Pl.mid b (Pl.decl v y).1 - n), .int .i64 (Pl.mid b (Pl.decl v y).1 + n), .int .i64 dx, .int .i64 (Pl.near l x s), .int .i64 (Pl.far l x s)]) ∧ Below w.heap.size w w' := by
  obtain ⟨⟨g0, g1⟩, ⟨g2, g3⟩, ⟨g4, g5⟩, ⟨g6, g7⟩, ⟨g8, g9⟩, g10, g11⟩ := Pl.Crs.ok_iff (c := ⟨b, n, l, y, x, s⟩) ho
  go_enter Tryz.func79, Tryz.ntmps79
  go_wp2_with (first | (go_at_call 103; refine (sector_a _ _ _ _ _ _ _ _ _ _ (hl.up (by go_grown)) hm g0 g1 g2 g3).mono ?_; rintro e w7 ⟨rfl, hx7⟩; obtain ⟨hc7, hf7⟩ := bcell hx7; have hsz7 := hx7.size; (try simp at hsz7); (try (have hz7a : w.heap.size < w7.heap.size := (by omega))); (try (have hz7b : w.heap.size + 1 < w7.heap.size := (by omega))); (try (have hz7c : w.heap.size + 1 + 1 < w7.heap.size := (by omega))); (try (have hz7d : w.heap.size + 1 + 1 + 1 < w7.heap.size := (by omega))); (try (have hz7e : w.heap.size + 1 + 1 + 1 + 1 < w7.heap.size := (by omega))); have hb7 : Below w.heap.size w w7 := Below.trans (by go_grown) (hx7.mono (by go_size)); clear hx7) | (go_at_call 101; refine (lengths_a _ _ _ _ g4 g5 g8 g9 g10 g11).mono ?_; rintro e w8 ⟨rfl, hx8⟩; obtain ⟨hc8, hf8⟩ := bcell hx8; have hsz8 := hx8.size; (try simp at hsz8); (try (have hz8a : w.heap.size < w8.heap.size := (by omega))); (try (have hz8b : w.heap.size + 1 < w8.heap.size := (by omega))); (try (have hz8c : w.heap.size + 1 + 1 < w8.heap.size := (by omega))); (try (have hz8d : w.heap.size + 1 + 1 + 1 < w8.heap.size := (by omega))); (try (have hz8e : w.heap.size + 1 + 1 + 1 + 1 < w8.heap.size := (by omega))); have hb8 : Below w.heap.size w w8 := Below.trans (by go_grown) (hx8.mono (by go_size)); clear hx8))
  refine bodyPost_ret (v := .agg #[.int .i64 (Pl.mid b (Pl.decl v y).1 - n), .int .i64 (Pl.mid b (Pl.decl v y).1 + n), .int .i64 dx, .int .i64 (Pl.near l x s), .int .i64 (Pl.far l x s)]) (by simp [results, Tryz.results79, go_sem, *]) rfl ⟨rfl, by go_grown⟩

/-! ### The five conditions -/
theorem fit1 (bq : Nat) (lo hi dx ne fa : Int) (w : World) (q0 : w.cell? ⟨bq, 0, none⟩ = some (.int .i64 lo)) (q1 : w.cell? ⟨bq, 1, none⟩ = some (.int .i64 hi)) (_q2 : w.cell? ⟨bq, 2, none⟩ = some (.int .i64 dx)) (_q3 : w.cell? ⟨bq, 3, none⟩ = some (.int .i64 ne)) (_q4 : w.cell? ⟨bq, 4, none⟩ = some (.int .i64 fa)) :
    Calls Tryz.prog 105 #[.pointer (some ⟨bq, 0, none⟩)] w fun e w' => e = .returned (.bool (decide (0 < hi ∧ lo < 180))) ∧ Below w.heap.size w w' := by
  go_enter Tryz.func105, Tryz.ntmps105
  go_wp2
  all_goals go_ret
  all_goals exact ⟨ret_bool (by grind), by go_grown⟩
theorem fit2 (bq bd : Nat) (lo hi dx ne fa dy : Int) (w : World) (q0 : w.cell? ⟨bq, 0, none⟩ = some (.int .i64 lo)) (_q1 : w.cell? ⟨bq, 1, none⟩ = some (.int .i64 hi)) (q2 : w.cell? ⟨bq, 2, none⟩ = some (.int .i64 dx)) (_q3 : w.cell? ⟨bq, 3, none⟩ = some (.int .i64 ne)) (_q4 : w.cell? ⟨bq, 4, none⟩ = some (.int .i64 fa)) (d0 : w.cell? ⟨bd, 0, none⟩ = some (.int .i64 dy)) (h : Pl.QOk lo hi dx ne fa) (hd0 : -100000 ≤ dy) (hd1 : dy ≤ 100000) :
    Calls Tryz.prog 106 #[.pointer (some ⟨bq, 0, none⟩), .pointer (some ⟨bd, 0, none⟩)] w fun e w' => e = .returned (.bool (decide (lo ≤ 0 ∨ dy * Pl.sin lo ≤ dx * Pl.cos lo))) ∧ Below w.heap.size w w' := by
  obtain ⟨g0, g1, g2, g3, g4, g5⟩ := h
  obtain ⟨s0, s1⟩ := Pl.sin_bd lo
  obtain ⟨c0, c1⟩ := Pl.cos_bd lo
  obtain ⟨p0, p1⟩ := Pl.mul_abs_of hd0 hd1 s0 s1
  obtain ⟨p2, p3⟩ := Pl.mul_abs_of (show -100000 ≤ dx by omega) g4 c0 c1
  have hbq := block_lt_of_cell q0
  have hbd := block_lt_of_cell d0
  simp only [] at hbq hbd
  by_cases hlo : lo ≤ 0
  · go_enter Tryz.func106, Tryz.ntmps106
    go_wp2
    all_goals (refine wp_region_quiet_lit (by kernel_rfl) (by kernel_rfl) ?_)
    repeat (any_goals (first | go_big_quiet_step (fail) | quiet_step (fail) | (refine wpQuiet_step (fun K hK => ?_); go_simp; split <;> (refine hK _ ?_; clear hK K))))
    all_goals (refine wpQuiet_nil ?_; intro wq hw'; obtain ⟨nq, hw''⟩ := hw'; have hbq : Below w.heap.size w wq := by rw [hw'']; exact below_drewN (by go_grown) nq)
    all_goals subst hw''
    go_wp2
    go_ret
    exact ⟨ret_bool (by grind), by go_grown⟩
  · have hlo' : decide (lo ≤ 0) = false := by simpa using hlo
    have e1 : IntKind.i64.wrap (dy * Pl.sin lo) = dy * Pl.sin lo := IntWalk.i64_in _ (by omega)
    have e2 : IntKind.i64.wrap (dx * Pl.cos lo) = dx * Pl.cos lo := IntWalk.i64_in _ (by omega)
    go_enter Tryz.func106, Tryz.ntmps106
    go_wp2
    go_region_held3 (fun w' => w'.cell? ⟨bq, 0, none⟩ = some (.int .i64 lo) ∧ w'.cell? ⟨bq, 2, none⟩ = some (.int .i64 dx) ∧ w'.cell? ⟨bd, 0, none⟩ = some (.int .i64 dy)) (exact ⟨by assumption, by assumption, by assumption⟩)
      (first
        | (go_at_call 23; refine (sin_a _ _).mono ?_; rintro e w7 ⟨rfl, hx7⟩; have hb7 : Below w.heap.size w w7 := Below.trans (by go_grown) (hx7.mono (by go_size)); have hsz7 : w.heap.size ≤ w7.heap.size := hb7.size; have u0 := (hb7.cell (p := ⟨bq, 0, none⟩) hbq).trans q0; have u2 := (hb7.cell (p := ⟨bq, 2, none⟩) hbq).trans q2; have u3 := (hb7.cell (p := ⟨bd, 0, none⟩) hbd).trans d0; clear hx7)
        | (go_at_call 25; refine (cos_a _ _).mono ?_; rintro e w7 ⟨rfl, hx7⟩; have hb7 : Below w.heap.size w w7 := Below.trans (by go_grown) (hx7.mono (by go_size)); have hsz7 : w.heap.size ≤ w7.heap.size := hb7.size; have u0 := (hb7.cell (p := ⟨bq, 0, none⟩) hbq).trans q0; have u2 := (hb7.cell (p := ⟨bq, 2, none⟩) hbq).trans q2; have u3 := (hb7.cell (p := ⟨bd, 0, none⟩) hbd).trans d0; clear hx7))
    all_goals go_wp2
    all_goals go_ret
    all_goals exact ⟨ret_bool (by grind), by go_grown⟩
theorem fit3 (bq bd : Nat) (lo hi dx ne fa dy : Int) (w : World) (q0 : w.cell? ⟨bq, 0, none⟩ = some (.int .i64 lo)) (q1 : w.cell? ⟨bq, 1, none⟩ = some (.int .i64 hi)) (q2 : w.cell? ⟨bq, 2, none⟩ = some (.int .i64 dx)) (_q3 : w.cell? ⟨bq, 3, none⟩ = some (.int .i64 ne)) (_q4 : w.cell? ⟨bq, 4, none⟩ = some (.int .i64 fa)) (d0 : w.cell? ⟨bd, 0, none⟩ = some (.int .i64 dy)) (h : Pl.QOk lo hi dx ne fa) (hd0 : -100000 ≤ dy) (hd1 : dy ≤ 100000) :
    Calls Tryz.prog 107 #[.pointer (some ⟨bq, 0, none⟩), .pointer (some ⟨bd, 0, none⟩)] w fun e w' => e = .returned (.bool (decide (180 ≤ hi ∨ dx * Pl.cos hi ≤ dy * Pl.sin hi))) ∧ Below w.heap.size w w' := by
  obtain ⟨g0, g1, g2, g3, g4, g5⟩ := h
  obtain ⟨s0, s1⟩ := Pl.sin_bd hi
  obtain ⟨c0, c1⟩ := Pl.cos_bd hi
  obtain ⟨p0, p1⟩ := Pl.mul_abs_of hd0 hd1 s0 s1
  obtain ⟨p2, p3⟩ := Pl.mul_abs_of (show -100000 ≤ dx by omega) g4 c0 c1
  have hbq := block_lt_of_cell q0
  have hbd := block_lt_of_cell d0
  simp only [] at hbq hbd
  by_cases hlo : 180 ≤ hi
  · go_enter Tryz.func107, Tryz.ntmps107
    go_wp2
    all_goals (refine wp_region_quiet_lit (by kernel_rfl) (by kernel_rfl) ?_)
    repeat (any_goals (first | go_big_quiet_step (fail) | quiet_step (fail) | (refine wpQuiet_step (fun K hK => ?_); go_simp; split <;> (refine hK _ ?_; clear hK K))))
    all_goals (refine wpQuiet_nil ?_; intro wq hw'; obtain ⟨nq, hw''⟩ := hw'; have hbq : Below w.heap.size w wq := by rw [hw'']; exact below_drewN (by go_grown) nq)
    all_goals subst hw''
    go_wp2
    go_ret
    exact ⟨ret_bool (by grind), by go_grown⟩
  · have hlo' : decide (180 ≤ hi) = false := by simpa using hlo
    have e1 : IntKind.i64.wrap (dy * Pl.sin hi) = dy * Pl.sin hi := IntWalk.i64_in _ (by omega)
    have e2 : IntKind.i64.wrap (dx * Pl.cos hi) = dx * Pl.cos hi := IntWalk.i64_in _ (by omega)
    go_enter Tryz.func107, Tryz.ntmps107
    go_wp2
    go_region_held3 (fun w' => w'.cell? ⟨bq, 1, none⟩ = some (.int .i64 hi) ∧ w'.cell? ⟨bq, 2, none⟩ = some (.int .i64 dx) ∧ w'.cell? ⟨bd, 0, none⟩ = some (.int .i64 dy)) (exact ⟨by assumption, by assumption, by assumption⟩)
      (first
        | (go_at_call 23; refine (sin_a _ _).mono ?_; rintro e w7 ⟨rfl, hx7⟩; have hb7 : Below w.heap.size w w7 := Below.trans (by go_grown) (hx7.mono (by go_size)); have hsz7 : w.heap.size ≤ w7.heap.size := hb7.size; have u0 := (hb7.cell (p := ⟨bq, 1, none⟩) hbq).trans q1; have u2 := (hb7.cell (p := ⟨bq, 2, none⟩) hbq).trans q2; have u3 := (hb7.cell (p := ⟨bd, 0, none⟩) hbd).trans d0; clear hx7)
        | (go_at_call 25; refine (cos_a _ _).mono ?_; rintro e w7 ⟨rfl, hx7⟩; have hb7 : Below w.heap.size w w7 := Below.trans (by go_grown) (hx7.mono (by go_size)); have hsz7 : w.heap.size ≤ w7.heap.size := hb7.size; have u0 := (hb7.cell (p := ⟨bq, 1, none⟩) hbq).trans q1; have u2 := (hb7.cell (p := ⟨bq, 2, none⟩) hbq).trans q2; have u3 := (hb7.cell (p := ⟨bd, 0, none⟩) hbd).trans d0; clear hx7))
    all_goals go_wp2
    all_goals go_ret
    all_goals exact ⟨ret_bool (by grind), by go_grown⟩
theorem fit4 (bl bq : Nat) (lo hi dx ne fa lg : Int) (w : World) (_q0 : w.cell? ⟨bq, 0, none⟩ = some (.int .i64 lo)) (_q1 : w.cell? ⟨bq, 1, none⟩ = some (.int .i64 hi)) (_q2 : w.cell? ⟨bq, 2, none⟩ = some (.int .i64 dx)) (_q3 : w.cell? ⟨bq, 3, none⟩ = some (.int .i64 ne)) (q4 : w.cell? ⟨bq, 4, none⟩ = some (.int .i64 fa)) (d0 : w.cell? ⟨bl, 0, none⟩ = some (.int .i64 lg)) (h : Pl.QOk lo hi dx ne fa) :
    Calls Tryz.prog 108 #[.pointer (some ⟨bl, 0, none⟩), .pointer (some ⟨bq, 0, none⟩)] w fun e w' => e = .returned (.bool (decide (lg ≤ fa * fa))) ∧ Below w.heap.size w w' := by
  obtain ⟨g0, g1, g2, g3, g4, g5, g6, g7, g8⟩ := h
  obtain ⟨p0, p1⟩ := Pl.mul_le_of g7 g8 g7 g8
  go_enter Tryz.func108, Tryz.ntmps108
  go_wp2
  all_goals go_ret
  all_goals exact ⟨ret_bool (by grind), by go_grown⟩
theorem fit5 (bl bq : Nat) (lo hi dx ne fa lg : Int) (w : World) (q0 : w.cell? ⟨bq, 0, none⟩ = some (.int .i64 lo)) (q1 : w.cell? ⟨bq, 1, none⟩ = some (.int .i64 hi)) (q2 : w.cell? ⟨bq, 2, none⟩ = some (.int .i64 dx)) (q3 : w.cell? ⟨bq, 3, none⟩ = some (.int .i64 ne)) (q4 : w.cell? ⟨bq, 4, none⟩ = some (.int .i64 fa)) (d0 : w.cell? ⟨bl, 0, none⟩ = some (.int .i64 lg)) (h : Pl.QOk lo hi dx ne fa) :
    Calls Tryz.prog 109 #[.pointer (some ⟨bq, 0, none⟩), .pointer (some ⟨bl, 0, none⟩)] w fun e w' => e = .returned (.bool (decide (¬ (hi ≤ 90 ∨ 90 ≤ lo) ∨ ne * ne ≤ lg))) ∧ Below w.heap.size w w' := by
  obtain ⟨g0, g1, g2, g3, g4, g5, g6, g7, g8⟩ := h
  obtain ⟨p0, p1⟩ := Pl.mul_le_of g5 g6 g5 g6
  have hbq := block_lt_of_cell q0
  have hbl := block_lt_of_cell d0
  simp only [] at hbq hbl
  by_cases hs : hi ≤ 90 ∨ 90 ≤ lo
  all_goals
    go_enter Tryz.func109, Tryz.ntmps109
    go_wp2_with (go_at_call 110; refine (sided_a _ _ _ _ _ _).mono ?_; rintro e w7 ⟨rfl, hx7⟩; obtain ⟨hc7, hf7⟩ := bcell hx7; have hsz7 := hx7.size; (try simp at hsz7); (try (have hz7a : w.heap.size < w7.heap.size := (by omega))); (try (have hz7b : w.heap.size + 1 < w7.heap.size := (by omega))); (try (have hz7c : w.heap.size + 1 + 1 < w7.heap.size := (by omega))); (try (have hz7d : w.heap.size + 1 + 1 + 1 < w7.heap.size := (by omega))); (try (have hz7e : w.heap.size + 1 + 1 + 1 + 1 < w7.heap.size := (by omega))); have hb7 : Below w.heap.size w w7 := Below.trans (by go_grown) (hx7.mono (by go_size)); clear hx7)
    all_goals go_ret
    all_goals exact ⟨ret_bool (by grind), by go_grown⟩
end Go.Proofs.YthncpapejijloaaGreatDoor

namespace Go.Proofs.YthncpapejijloaaGreatDoor
open Go.RowKit

/-- The five conditions. -/
def conds (lo hi dx ne fa dy : Int) : List Bool :=
  [decide (0 < hi ∧ lo < 180), decide (lo ≤ 0 ∨ dy * Pl.sin lo ≤ dx * Pl.cos lo), decide (180 ≤ hi ∨ dx * Pl.cos hi ≤ dy * Pl.sin hi),
   decide (100000000 * (dx * dx + dy * dy) ≤ fa * fa), decide (¬ (hi ≤ 90 ∨ 90 ≤ lo) ∨ ne * ne ≤ 100000000 * (dx * dx + dy * dy))]
def firstNot : List Bool → Int → Int
  | [], _ => 0
  | b :: l, k => if b then firstNot l (k + 1) else k + 1
theorem misfit_conds (lo hi dx ne fa dy : Int) : Pl.misfit lo hi dx ne fa dy = firstNot (conds lo hi dx ne fa dy) 0 := by
  unfold Pl.misfit conds
  simp only [firstNot]
  grind
/-- What lies in the memory of misfit from block B on: the question, the step, its square, the five closures. -/
structure MisHeld (B : Nat) (lo hi dx ne fa dy lg : Int) (w : World) : Prop where
  q0 : w.cell? ⟨B, 0, none⟩ = some (.int .i64 lo)
  q1 : w.cell? ⟨B, 1, none⟩ = some (.int .i64 hi)
  q2 : w.cell? ⟨B, 2, none⟩ = some (.int .i64 dx)
  q3 : w.cell? ⟨B, 3, none⟩ = some (.int .i64 ne)
  q4 : w.cell? ⟨B, 4, none⟩ = some (.int .i64 fa)
  d0 : w.cell? ⟨B + 1, 0, none⟩ = some (.int .i64 dy)
  l0 : w.cell? ⟨B + 2, 0, none⟩ = some (.int .i64 lg)
  f0 : w.cell? ⟨B + 3, 0, none⟩ = some (.func (.func 105) #[] #[.pointer (some ⟨B, 0, none⟩)])
  f1 : w.cell? ⟨B + 3, 1, none⟩ = some (.func (.func 106) #[] #[.pointer (some ⟨B, 0, none⟩), .pointer (some ⟨B + 1, 0, none⟩)])
  f2 : w.cell? ⟨B + 3, 2, none⟩ = some (.func (.func 107) #[] #[.pointer (some ⟨B, 0, none⟩), .pointer (some ⟨B + 1, 0, none⟩)])
  f3 : w.cell? ⟨B + 3, 3, none⟩ = some (.func (.func 108) #[] #[.pointer (some ⟨B + 2, 0, none⟩), .pointer (some ⟨B, 0, none⟩)])
  f4 : w.cell? ⟨B + 3, 4, none⟩ = some (.func (.func 109) #[] #[.pointer (some ⟨B, 0, none⟩), .pointer (some ⟨B + 2, 0, none⟩)])
  size : B + 3 < w.heap.size
theorem MisHeld.below {B : Nat} {lo hi dx ne fa dy lg : Int} {w w1 : World} (h : MisHeld B lo hi dx ne fa dy lg w) (hb : Below w.heap.size w w1) : MisHeld B lo hi dx ne fa dy lg w1 := by
  have hs := h.size
  have c : ∀ b o, b < w.heap.size → w1.cell? ⟨b, o, none⟩ = w.cell? ⟨b, o, none⟩ := (bcell hb).1
  exact ⟨(c _ _ (by omega)).trans h.q0, (c _ _ (by omega)).trans h.q1, (c _ _ (by omega)).trans h.q2, (c _ _ (by omega)).trans h.q3, (c _ _ (by omega)).trans h.q4, (c _ _ (by omega)).trans h.d0, (c _ _ (by omega)).trans h.l0,
    (c _ _ (by omega)).trans h.f0, (c _ _ (by omega)).trans h.f1, (c _ _ (by omega)).trans h.f2, (c _ _ (by omega)).trans h.f3, (c _ _ (by omega)).trans h.f4, Nat.lt_of_lt_of_le hs hb.size⟩

set_option maxHeartbeats 1000000 in
theorem misfit_a (lo hi dx ne fa dy : Int) (w : World) (h : Pl.QOk lo hi dx ne fa) (hd0 : -100000 ≤ dy) (hd1 : dy ≤ 100000) :
    Calls Tryz.prog 80 #[.agg #[.int .i64 lo, .int .i64 hi, .int .i64 dx, .int .i64 ne, .int .i64 fa], .int .i64 dy] w fun e w' => e = .returned (.int .u8 (Pl.misfit lo hi dx ne fa dy)) ∧ Below w.heap.size w w' := by
  have h' := h
  obtain ⟨g0, g1, g2, g3, g4, g5, g6, g7, g8⟩ := h'
  obtain ⟨p0, p1⟩ := Pl.mul_le_of (show 0 ≤ dx by omega) g4 (show 0 ≤ dx by omega) g4
  have p2 := Pl.sq_nonneg dy
  have p3 := (Pl.mul_abs_of hd0 hd1 hd0 hd1).2
  have hmf : ∀ (fn : Fn) (first cap : Array Value) (w : World), (Instr.makeFunc fn first cap).run Tryz.prog w = .ok (.func fn first cap) w := fun _ _ _ _ => rfl
  go_enter Tryz.func80, Tryz.ntmps80
  go_wp2
  go_loopw [27] (fun i wr => ∃ (k : Nat), k ≤ 5 ∧ i = .int .i64 k ∧ MisHeld w.heap.size lo hi dx ne fa dy (100000000 * (dx * dx + dy * dy)) wr ∧ Hid (Pl.misfit lo hi dx ne fa dy = firstNot ((conds lo hi dx ne fa dy).drop k) k) ∧ Below w.heap.size w wr) (fun i _ => 5 - (intOf i).toNat)
  case atStart =>
    refine ⟨0, by omega, rfl, ?_, misfit_conds _ _ _ _ _ _, by go_grown⟩
    constructor <;> (simp [go_sem]; try omega)
  case round =>
    obtain ⟨k, hk, rfl, hM, hp, hb⟩ := hrel
    have hsz := hb.size
    obtain ⟨q0, q1, q2, q3, q4, d0, l0, f0, f1, f2, f3, f4, hs⟩ := hM
    have hM : Hid (MisHeld w.heap.size lo hi dx ne fa dy (100000000 * (dx * dx + dy * dy)) wr) := ⟨q0, q1, q2, q3, q4, d0, l0, f0, f1, f2, f3, f4, hs⟩
    obtain rfl | rfl | rfl | rfl | rfl | rfl : k = 0 ∨ k = 1 ∨ k = 2 ∨ k = 3 ∨ k = 4 ∨ k = 5 := by omega
    · have hk2 := hp; clear hp
      go_wp2_with (go_at_call 105; refine (fit1 _ lo hi dx ne fa _ q0 q1 q2 q3 q4).mono ?_; rintro e w1 ⟨rfl, hx1⟩; have hM1 := Lib.hid (hM.out.below hx1); have hb1 : Below w.heap.size w w1 := Below.trans hb (hx1.mono (by omega)); clear hx1)
      · go_ret
        exact ⟨ret_int (by have e1 := hk2.out; simp only [conds, firstNot, List.drop_zero] at e1; clear q0 q1 q2 q3 q4 d0 l0 f0 f1 f2 f3 f4 hM1 hmf hb hb1 h; grind), by go_grown⟩
      · go_roundw
        case rel => exact ⟨1, by omega, rfl, hM1.out, by have e1 := hk2.out; unfold Hid; simp only [conds, firstNot, List.drop_succ_cons, List.drop_zero] at e1 ⊢; clear q0 q1 q2 q3 q4 d0 l0 f0 f1 f2 f3 f4 hM1 hmf hb hb1 h; grind, by go_grown⟩
        case measure => first | (simp [intOf]; done) | (simp [intOf]; omega)
    · have hk2 := hp; clear hp
      go_wp2_with (go_at_call 106; refine (fit2 _ _ lo hi dx ne fa dy _ q0 q1 q2 q3 q4 d0 h hd0 hd1).mono ?_; rintro e w1 ⟨rfl, hx1⟩; have hM1 := Lib.hid (hM.out.below hx1); have hb1 : Below w.heap.size w w1 := Below.trans hb (hx1.mono (by omega)); clear hx1)
      · go_ret
        exact ⟨ret_int (by have e1 := hk2.out; simp only [conds, firstNot, List.drop_succ_cons, List.drop_zero] at e1; clear q0 q1 q2 q3 q4 d0 l0 f0 f1 f2 f3 f4 hM1 hmf hb hb1 h; grind), by go_grown⟩
      · go_roundw
        case rel => exact ⟨2, by omega, rfl, hM1.out, by have e1 := hk2.out; unfold Hid; simp only [conds, firstNot, List.drop_succ_cons, List.drop_zero] at e1 ⊢; clear q0 q1 q2 q3 q4 d0 l0 f0 f1 f2 f3 f4 hM1 hmf hb hb1 h; grind, by go_grown⟩
        case measure => first | (simp [intOf]; done) | (simp [intOf]; omega)
    · have hk2 := hp; clear hp
      go_wp2_with (go_at_call 107; refine (fit3 _ _ lo hi dx ne fa dy _ q0 q1 q2 q3 q4 d0 h hd0 hd1).mono ?_; rintro e w1 ⟨rfl, hx1⟩; have hM1 := Lib.hid (hM.out.below hx1); have hb1 : Below w.heap.size w w1 := Below.trans hb (hx1.mono (by omega)); clear hx1)
      · go_ret
        exact ⟨ret_int (by have e1 := hk2.out; simp only [conds, firstNot, List.drop_succ_cons, List.drop_zero] at e1; clear q0 q1 q2 q3 q4 d0 l0 f0 f1 f2 f3 f4 hM1 hmf hb hb1 h; grind), by go_grown⟩
      · go_roundw
        case rel => exact ⟨3, by omega, rfl, hM1.out, by have e1 := hk2.out; unfold Hid; simp only [conds, firstNot, List.drop_succ_cons, List.drop_zero] at e1 ⊢; clear q0 q1 q2 q3 q4 d0 l0 f0 f1 f2 f3 f4 hM1 hmf hb hb1 h; grind, by go_grown⟩
        case measure => first | (simp [intOf]; done) | (simp [intOf]; omega)
    · have hk2 := hp; clear hp
      go_wp2_with (go_at_call 108; refine (fit4 _ _ lo hi dx ne fa _ _ q0 q1 q2 q3 q4 l0 h).mono ?_; rintro e w1 ⟨rfl, hx1⟩; have hM1 := Lib.hid (hM.out.below hx1); have hb1 : Below w.heap.size w w1 := Below.trans hb (hx1.mono (by omega)); clear hx1)
      · go_ret
        exact ⟨ret_int (by have e1 := hk2.out; simp only [conds, firstNot, List.drop_succ_cons, List.drop_zero] at e1; clear q0 q1 q2 q3 q4 d0 l0 f0 f1 f2 f3 f4 hM1 hmf hb hb1 h; grind), by go_grown⟩
      · go_roundw
        case rel => exact ⟨4, by omega, rfl, hM1.out, by have e1 := hk2.out; unfold Hid; simp only [conds, firstNot, List.drop_succ_cons, List.drop_zero] at e1 ⊢; clear q0 q1 q2 q3 q4 d0 l0 f0 f1 f2 f3 f4 hM1 hmf hb hb1 h; grind, by go_grown⟩
        case measure => first | (simp [intOf]; done) | (simp [intOf]; omega)
    · have hk2 := hp; clear hp
      go_wp2_with (go_at_call 109; refine (fit5 _ _ lo hi dx ne fa _ _ q0 q1 q2 q3 q4 l0 h).mono ?_; rintro e w1 ⟨rfl, hx1⟩; have hM1 := Lib.hid (hM.out.below hx1); have hb1 : Below w.heap.size w w1 := Below.trans hb (hx1.mono (by omega)); clear hx1)
      · go_ret
        exact ⟨ret_int (by have e1 := hk2.out; simp only [conds, firstNot, List.drop_succ_cons, List.drop_zero] at e1; clear q0 q1 q2 q3 q4 d0 l0 f0 f1 f2 f3 f4 hM1 hmf hb hb1 h; grind), by go_grown⟩
      · go_roundw
        case rel => exact ⟨5, by omega, rfl, hM1.out, by have e1 := hk2.out; unfold Hid; simp only [conds, firstNot, List.drop_succ_cons, List.drop_zero] at e1 ⊢; clear q0 q1 q2 q3 q4 d0 l0 f0 f1 f2 f3 f4 hM1 hmf hb hb1 h; grind, by go_grown⟩
        case measure => first | (simp [intOf]; done) | (simp [intOf]; omega)
    · have hk2 := hp; clear hp
      go_wp2
      go_ret
      exact ⟨ret_int (by have e1 := hk2.out; simp only [conds, firstNot, List.drop_succ_cons, List.drop_nil] at e1; exact e1.symm), by go_grown⟩
end Go.Proofs.YthncpapejijloaaGreatDoor
