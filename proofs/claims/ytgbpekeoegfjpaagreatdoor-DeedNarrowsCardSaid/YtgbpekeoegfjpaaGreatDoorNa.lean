/- Walk: Narrower. -/
import Derived.Test.YtgbpekeoegfjpaaGreatDoorProg
import Derived.WalkKit
import Derived.WalkLawsBesides
import Derived.WalkSpells
import Derived.Handy
import Derived.Lib.Hide
import Derived.Great.BuildSlice
import Derived.Deep.QuietTactic
import Derived.BigQuiet
import Derived.Deep.RegionHeld3
import Derived.Deep.DeepCutAuto
import Derived.RegionTactic
import Derived.ChangeAlike
import Derived.Test.YtgbpekeoegfjpaaGreatDoorM01
namespace Go.Proofs.YtgbpekeoegfjpaaGreatDoor
open Go.RowKit

theorem ok_err {c : Pl.Crs} (h : c.ok = true) : Pl.err (Pl.courseOk c.b c.n c.l c.y c.x c.s) = 0 := by unfold Pl.Crs.ok at h; rw [h]; rfl
theorem bad_err {c : Pl.Crs} (h : ¬ c.ok = true) : Pl.err (Pl.courseOk c.b c.n c.l c.y c.x c.s) = 1 := by unfold Pl.Crs.ok at h; simp only [Bool.not_eq_true] at h; rw [h]; rfl
theorem narrower_no1 {a b : Pl.Crs} (h : ¬ a.ok = true) : Pl.narrower a b = false := by unfold Pl.narrower; simp only [Bool.not_eq_true] at h; rw [h]; rfl
theorem narrower_no2 {a b : Pl.Crs} (h : ¬ b.ok = true) : Pl.narrower a b = false := by unfold Pl.narrower; simp only [Bool.not_eq_true] at h; rw [h]; simp
theorem narrower_yes {a b : Pl.Crs} (h : a.ok = true) (k : b.ok = true) : Pl.narrower a b = decide (a.b = b.b ∧ a.l = b.l ∧ a.y = b.y ∧ a.n ≤ b.n ∧ b.x - b.s ≤ a.x - a.s ∧ a.x + a.s ≤ b.x + b.s) := by unfold Pl.narrower; rw [h, k]; simp
set_option maxRecDepth 100000 in
set_option maxHeartbeats 2000000 in
theorem Narrower_a (a b : Pl.Crs) (w : World) : Calls Tryz.prog 39 #[.agg #[.int .i64 a.b, .int .i64 a.n, .int .i64 a.l, .int .i64 a.y, .int .i64 a.x, .int .i64 a.s], .agg #[.int .i64 b.b, .int .i64 b.n, .int .i64 b.l, .int .i64 b.y, .int .i64 b.x, .int .i64 b.s]] w fun e w' => e = .returned (.bool (Pl.narrower a b)) ∧ Below w.heap.size w w' := by
  by_cases ha : a.ok = true
  · obtain ⟨_, _, _, _, ⟨i8, i9⟩, i10, i11⟩ := a.ok_iff ha
    have HA := Lib.hid (ok_err ha)
    by_cases hb : b.ok = true
    · obtain ⟨_, _, _, _, ⟨j8, j9⟩, j10, j11⟩ := b.ok_iff hb
      have HB := Lib.hid (ok_err hb)
      have HN := Lib.hid (narrower_yes ha hb)
      clear ha hb
      go_enter Tryz.func39, Tryz.ntmps39
      go_wp2_with fail
      go_at_call 109
      refine (course_a _ _ _ _ _ _ _).mono ?_
      rintro e w1 ⟨rfl, hx⟩
      rw [HA.out]
      have k1 := (hx.block w.heap.size (by first | omega | (simp; done) | (simp; omega))).trans (heap_alloc2_old _ _ _)
      have k2 := (hx.block (w.heap.size + 1) (by first | omega | (simp; done) | (simp; omega))).trans (heap_alloc2_new _ _ _)
      have hb1 : Below w.heap.size w w1 := Below.trans (by go_grown) (hx.mono (by go_size))
      clear hx
      obtain ⟨hc1, hf1⟩ := blk_cells k1
      obtain ⟨hc2, hf2⟩ := blk_cells k2
      have hlt2 := (lO k2)
      have hsz1 := hb1.size
      go_wp2_with fail
      go_at_call 109
      refine (course_a _ _ _ _ _ _ _).mono ?_
      rintro e w2 ⟨rfl, hx⟩
      rw [HB.out]
      have m1 := (hx.block w.heap.size (by omega)).trans k1
      have m2 := (hx.block (w.heap.size + 1) (by omega)).trans k2
      have hb2 : Below w.heap.size w w2 := Below.trans hb1 (hx.mono hsz1)
      clear hx hc1 hf1 hc2 hf2
      obtain ⟨hc1, hf1⟩ := blk_cells m1
      obtain ⟨hc2, hf2⟩ := blk_cells m2
      have hlt2 := (lO m2)
      have hlt1 : w.heap.size < w2.heap.size := by omega
      have hsz2 := hb2.size
      clear m1 m2 k1 k2 hb1 hsz1
      go_wp2
      go_region
      all_goals go_wp2
      all_goals go_ret
      all_goals exact ⟨by rw [HN.out]; exact ret_bool (by grind), by go_grown⟩
    · have HB := Lib.hid (bad_err hb)
      have HN := Lib.hid (narrower_no2 (a := a) hb)
      clear ha hb
      go_enter Tryz.func39, Tryz.ntmps39
      go_wp2_with fail
      go_at_call 109
      refine (course_a _ _ _ _ _ _ _).mono ?_
      rintro e w1 ⟨rfl, hx⟩
      rw [HA.out]
      have k2 := (hx.block (w.heap.size + 1) (by first | omega | (simp; done) | (simp; omega))).trans (heap_alloc2_new _ _ _)
      have hb1 : Below w.heap.size w w1 := Below.trans (by go_grown) (hx.mono (by go_size))
      clear hx
      obtain ⟨hc2, hf2⟩ := blk_cells k2
      have hsz1 := hb1.size
      go_wp2_with fail
      go_at_call 109
      refine (course_a _ _ _ _ _ _ _).mono ?_
      rintro e w2 ⟨rfl, hx⟩
      rw [HB.out]
      have hb2 : Below w.heap.size w w2 := Below.trans hb1 (hx.mono hsz1)
      go_wp2
      go_ret
      exact ⟨by rw [HN.out]; try rfl, hb2⟩
  · have HA := Lib.hid (bad_err ha)
    have HN := Lib.hid (narrower_no1 (b := b) ha)
    clear ha
    go_enter Tryz.func39, Tryz.ntmps39
    go_wp2_with fail
    go_at_call 109
    refine (course_a _ _ _ _ _ _ _).mono ?_
    rintro e w1 ⟨rfl, hx⟩
    rw [HA.out]
    have hb1 : Below w.heap.size w w1 := Below.trans (by go_grown) (hx.mono (by go_size))
    go_wp2
    go_ret
    exact ⟨by rw [HN.out]; try rfl, hb1⟩
/-- Narrower, the result named. -/
theorem Narrower_h (a b : Pl.Crs) (B : Bool) (w : World) (hB : Hid (Pl.narrower a b = B)) : Calls Tryz.prog 39 #[.agg #[.int .i64 a.b, .int .i64 a.n, .int .i64 a.l, .int .i64 a.y, .int .i64 a.x, .int .i64 a.s], .agg #[.int .i64 b.b, .int .i64 b.n, .int .i64 b.l, .int .i64 b.y, .int .i64 b.x, .int .i64 b.s]] w fun e w' => e = .returned (.bool B) ∧ Below w.heap.size w w' := by
  have h := Narrower_a a b w
  rw [hB.out] at h
  exact h
end Go.Proofs.YtgbpekeoegfjpaaGreatDoor
