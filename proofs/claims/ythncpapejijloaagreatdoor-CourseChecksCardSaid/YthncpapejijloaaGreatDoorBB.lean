/- Walks of the reference: Interval. -/
import Derived.Test.YthncpapejijloaaGreatDoorProg
import Derived.WalkKit
import Derived.WalkLawsBesides
import Derived.WalkSpells
import Derived.Handy
import Derived.Lib.Hide
import Derived.Great.BuildSlice
import Derived.Deep.QuietTactic
import Derived.BigQuiet
import Derived.Deep.RegionHeld3
import Derived.Deep.DeepCutAuto
import Derived.Test.YthncpapejijloaaGreatDoorBA
namespace Go.Proofs.YthncpapejijloaaGreatDoor
open Go.RowKit

theorem ivlB_yes {lo hi dx ne fa a b : Int} (h : Pl.ivl lo hi dx ne fa = if (Pl.endsB lo hi dx ne fa).2 < (Pl.endsB lo hi dx ne fa).1 then (0, 0, false) else ((Pl.endsB lo hi dx ne fa).1, (Pl.endsB lo hi dx ne fa).2, true))
    (h1 : (Pl.endsB lo hi dx ne fa).1 = a) (h2 : (Pl.endsB lo hi dx ne fa).2 = b) (h3 : a ≤ b) : Ending.returned (.tuple #[.int .i64 a, .int .i64 b, .bool true]) = .returned (.tuple #[.int .i64 (Pl.ivl lo hi dx ne fa).1, .int .i64 (Pl.ivl lo hi dx ne fa).2.1, .bool (Pl.ivl lo hi dx ne fa).2.2]) := by
  rw [h, h1, h2, if_neg (by omega)]
theorem ivlB_no {lo hi dx ne fa : Int} (h : Pl.ivl lo hi dx ne fa = if (Pl.endsB lo hi dx ne fa).2 < (Pl.endsB lo hi dx ne fa).1 then (0, 0, false) else ((Pl.endsB lo hi dx ne fa).1, (Pl.endsB lo hi dx ne fa).2, true))
    (h1 : (Pl.endsB lo hi dx ne fa).2 < (Pl.endsB lo hi dx ne fa).1) : Ending.returned (.tuple #[.int .i64 0, .int .i64 0, .bool false]) = .returned (.tuple #[.int .i64 (Pl.ivl lo hi dx ne fa).1, .int .i64 (Pl.ivl lo hi dx ne fa).2.1, .bool (Pl.ivl lo hi dx ne fa).2.2]) := by
  rw [h, if_pos h1]
set_option maxRecDepth 100000 in
set_option maxHeartbeats 4000000 in
theorem interval_b (b n l y x s east dx lo hi : Int) (w : World) (hlo : Hid (Pl.mid b east - n = lo)) (hhi : Hid (Pl.mid b east + n = hi)) (ho : Pl.courseOk b n l y x s = true) (he0 : -60 ≤ east) (he1 : east ≤ 60) (hd0 : 1 ≤ dx) (hd1 : dx ≤ 100000) :
    Calls Tryz.prog 112 #[.agg #[.int .i64 b, .int .i64 n, .int .i64 l, .int .i64 y, .int .i64 x, .int .i64 s], .int .i64 east, .int .i64 dx] w fun e w' => e = .returned (.tuple #[.int .i64 (Pl.ivl lo hi dx (Pl.near l x s) (Pl.far l x s)).1, .int .i64 (Pl.ivl lo hi dx (Pl.near l x s) (Pl.far l x s)).2.1, .bool (Pl.ivl lo hi dx (Pl.near l x s) (Pl.far l x s)).2.2]) ∧ Below w.heap.size w w' := by
  obtain ⟨⟨g0, g1⟩, ⟨g2, g3⟩, ⟨g4, g5⟩, ⟨g6, g7⟩, ⟨g8, g9⟩, g10, g11⟩ := Pl.Crs.ok_iff (c := ⟨b, n, l, y, x, s⟩) ho
  clear ho
  simp only [] at g0 g1 g2 g3 g4 g5 g6 g7 g8 g9 g10 g11
  have hm := Pl.mid_bd b east
  have r0 : -120 ≤ lo := by have := hlo.out; omega
  have r1 : hi ≤ 300 := by have := hhi.out; omega
  have r2 : lo ≤ hi := by have := hlo.out; have := hhi.out; omega
  clear hm
  obtain ⟨⟨l0, l1⟩, l2, l3⟩ := Pl.len_bd g4 g5 g8 g9 g10 g11
  obtain ⟨p0, p1⟩ := Pl.mul_le_of l0 l1 l0 l1
  obtain ⟨p4, p5⟩ := Pl.mul_le_of l2 l3 l2 l3
  by_cases h1 : hi ≤ 0 ∨ 180 ≤ lo
  · have hE : Hid (Pl.ivl lo hi dx (Pl.near l x s) (Pl.far l x s) = (0, 0, false)) := by unfold Hid Pl.ivl; rw [if_pos (by omega)]
    go_enter Tryz.func112, Tryz.ntmps112
    go_wp2_with (go_at_call 104; refine (sector_h _ _ _ _ _ _ _ lo hi _ hlo hhi g0 g1 g2 g3 he0 he1).mono ?_; rintro e w1 ⟨rfl, hx1⟩; have hb1 : Below w.heap.size w w1 := Below.trans (by go_grown) (hx1.mono (by go_size)); clear hx1; have hsz1 : w.heap.size ≤ w1.heap.size := hb1.size)
    all_goals go_ret3
    all_goals exact ⟨by rw [hE.out]; try rfl, by go_grown⟩
  have h2 : 0 < hi := by omega
  have h3 : lo < 180 := by omega
  obtain ⟨p2, p3⟩ := Pl.mul_le_of (show 0 ≤ dx by omega) hd1 (show 0 ≤ dx by omega) hd1
  go_enter Tryz.func112, Tryz.ntmps112
  go_upto_if 30 with (go_at_call 104; refine (sector_h _ _ _ _ _ _ _ lo hi _ hlo hhi g0 g1 g2 g3 he0 he1).mono ?_; rintro e w1 ⟨rfl, hx1⟩; have kb1a : w1.heap[w.heap.size]? = some (.cells _ _ (0, 0)) := (hx1.block _ (by first | omega | (simp; done) | (simp; omega))).trans (heap_alloc_new _ _); obtain ⟨hc1a, hf1a⟩ := blk_cells kb1a; have hsz1 := hx1.size; (try simp at hsz1); have hb1 : Below w.heap.size w w1 := Below.trans (by go_grown) (hx1.mono (by go_size)); have hsz1w : w.heap.size ≤ w1.heap.size := hb1.size; clear hx1)
  go_cut [12] (fun s12 wx => s12 = .int .i64 (Pl.topB lo dx) ∧ wx.heap[w.heap.size]? = some (.cells #[.int .i64 b, .int .i64 n, .int .i64 l, .int .i64 y, .int .i64 x, .int .i64 s] 29 (0, 0)) ∧ Below w.heap.size w wx)
  case first =>
    by_cases hl : 0 < lo
    · obtain ⟨c0, c1⟩ := Pl.cos_bd lo
      have sp := Pl.sin_pos hl (by omega)
      obtain ⟨_, s1⟩ := Pl.sin_bd lo
      obtain ⟨m0, m1⟩ := Pl.mul_abs_of (show -100000 ≤ dx by omega) hd1 c0 c1
      have kb7a := kb1a
      go_wp2_with (first
        | (go_at_call 26; refine (cos_b _ _).mono ?_; rintro e w7 ⟨rfl, hx7⟩; have kb7a : w7.heap[w.heap.size]? = some (.cells _ _ (0, 0)) := (hx7.block _ (by first | omega | (simp; done) | (simp; omega))).trans (kb7a); obtain ⟨hc7a, hf7a⟩ := blk_cells kb7a; have hsz7 := hx7.size; (try simp at hsz7); have hb7 : Below w.heap.size w w7 := Below.trans (by go_grown) (hx7.mono (by go_size)); have hsz7w : w.heap.size ≤ w7.heap.size := hb7.size; clear hx7)
        | (go_at_call 24; refine (sin_b _ _).mono ?_; rintro e w7 ⟨rfl, hx7⟩; have kb7a : w7.heap[w.heap.size]? = some (.cells _ _ (0, 0)) := (hx7.block _ (by first | omega | (simp; done) | (simp; omega))).trans (kb7a); obtain ⟨hc7a, hf7a⟩ := blk_cells kb7a; have hsz7 := hx7.size; (try simp at hsz7); have hb7 : Below w.heap.size w w7 := Below.trans (by go_grown) (hx7.mono (by go_size)); have hsz7w : w.heap.size ≤ w7.heap.size := hb7.size; clear hx7)
        | (go_at_call 124; refine (floor_b _ _ _ (by omega) (by omega) (by omega)).mono ?_; rintro e w' ⟨rfl, rfl⟩))
      all_goals go_meet
      all_goals exact ⟨congrArg (Value.int .i64) (by unfold Pl.topB; rw [if_pos hl]; omega), kb7a, by go_grown⟩
    · go_wp2
      go_meet
      exact ⟨by unfold Pl.topB; rw [if_neg (by omega)], kb1a, by go_grown⟩
  case rest =>
    obtain ⟨rfl, kb, hb⟩ := hcut
    have hsz := hb.size
    clear kb1a hc1a hf1a
    obtain ⟨hc7a, hf7a⟩ := blk_cells kb
    have hB2 := Lib.hid kb; clear kb
    have hlt := (Array.getElem?_eq_some_iff.1 hB2.out).1
    go_upto_if 41 with fail
    go_cut [11] (fun s11 wx => s11 = .int .i64 (Pl.lowB hi dx) ∧ wx.heap[w.heap.size]? = some (.cells #[.int .i64 b, .int .i64 n, .int .i64 l, .int .i64 y, .int .i64 x, .int .i64 s] 29 (0, 0)) ∧ Below w.heap.size w wx)
    case first =>
      by_cases hl : hi < 180
      · obtain ⟨c0, c1⟩ := Pl.cos_bd hi
        have sp := Pl.sin_pos h2 hl
        obtain ⟨_, s1⟩ := Pl.sin_bd hi
        obtain ⟨m0, m1⟩ := Pl.mul_abs_of (show -100000 ≤ -dx by omega) (show -dx ≤ 100000 by omega) c0 c1
        have kb7a := hB2.out
        have hfl : -1000000000 ≤ -dx * Pl.cos hi / Pl.sin hi ∧ -dx * Pl.cos hi / Pl.sin hi ≤ 1000000000 := by
          have := Pl.ediv_bd (a := -dx * Pl.cos hi) sp; omega
        obtain ⟨f0, f1⟩ := hfl
        go_wp2_with (first
          | (go_at_call 26; refine (cos_b _ _).mono ?_; rintro e w7 ⟨rfl, hx7⟩; have kb7a : w7.heap[w.heap.size]? = some (.cells _ _ (0, 0)) := (hx7.block _ (by first | omega | (simp; done) | (simp; omega))).trans (kb7a); obtain ⟨hc7a, hf7a⟩ := blk_cells kb7a; have hsz7 := hx7.size; (try simp at hsz7); have hb7 : Below w.heap.size w w7 := Below.trans (by go_grown) (hx7.mono (by go_size)); have hsz7w : w.heap.size ≤ w7.heap.size := hb7.size; clear hx7)
          | (go_at_call 24; refine (sin_b _ _).mono ?_; rintro e w7 ⟨rfl, hx7⟩; have kb7a : w7.heap[w.heap.size]? = some (.cells _ _ (0, 0)) := (hx7.block _ (by first | omega | (simp; done) | (simp; omega))).trans (kb7a); obtain ⟨hc7a, hf7a⟩ := blk_cells kb7a; have hsz7 := hx7.size; (try simp at hsz7); have hb7 : Below w.heap.size w w7 := Below.trans (by go_grown) (hx7.mono (by go_size)); have hsz7w : w.heap.size ≤ w7.heap.size := hb7.size; clear hx7)
          | (go_at_call 124; refine (floor_b _ _ _ (by omega) (by omega) (by omega)).mono ?_; rintro e w' ⟨rfl, rfl⟩))
        all_goals go_meet
        all_goals exact ⟨congrArg (Value.int .i64) (by unfold Pl.lowB; rw [if_pos hl]; omega), kb7a, by go_grown⟩
      · go_wp2
        go_meet
        exact ⟨by unfold Pl.lowB; rw [if_neg (by omega)], hB2.out, by go_grown⟩
    case rest =>
      obtain ⟨rfl, kc, hb3⟩ := hcut
      have hsz3 := hb3.size
      clear hc7a hf7a hB2 hlt
      obtain ⟨hc8, hf8⟩ := blk_cells kc
      have hlt := (Array.getElem?_eq_some_iff.1 kc).1
      have hB3 := Lib.hid kc; clear kc
      have b0 : Pl.topB lo dx ≤ 100000 := by unfold Pl.topB; split <;> omega
      have b1 : -100000 ≤ Pl.lowB hi dx := by unfold Pl.lowB; split <;> omega
      by_cases hr : (l * (10000 + x + s)) * (l * (10000 + x + s)) / 100000000 - dx * dx < 0
      · have hE : Hid (Pl.ivl lo hi dx (Pl.near l x s) (Pl.far l x s) = (0, 0, false)) := by unfold Hid Pl.ivl Pl.room Pl.far; rw [if_pos (by omega)]
        go_wp2_with (go_at_call 124; refine (floor_b _ _ _ (by omega) (by omega) (by omega)).mono ?_; rintro e w' ⟨rfl, rfl⟩)
        all_goals go_ret3
        all_goals exact ⟨by rw [hE.out]; try rfl, by go_grown⟩
      · obtain ⟨t0, t1, _, _⟩ := Pl.root_bd ((l * (10000 + x + s)) * (l * (10000 + x + s)) / 100000000 - dx * dx)
        have u0 := (Pl.rootUp_bd (-(-(l * (10000 + x - s)) * (l * (10000 + x - s)) / 100000000) - dx * dx))
        obtain ⟨u0, u1⟩ := u0
        have nn : -1144900000000000000 ≤ -(l * (10000 + x - s)) * (l * (10000 + x - s)) ∧ -(l * (10000 + x - s)) * (l * (10000 + x - s)) ≤ 0 := by rw [Int.neg_mul]; omega
        obtain ⟨nn0, nn1⟩ := nn
        go_upto_if 105 with (first
          | (go_at_call 124; refine (floor_b _ _ _ (by omega) (by omega) (by omega)).mono ?_; rintro e w' ⟨rfl, rfl⟩)
          | (go_at_call 30; refine (root_b _ _).mono ?_; rintro e w' ⟨rfl, rfl⟩))
        have hE : Hid (Pl.ivl lo hi dx (Pl.near l x s) (Pl.far l x s) = if (Pl.endsB lo hi dx (Pl.near l x s) (Pl.far l x s)).2 < (Pl.endsB lo hi dx (Pl.near l x s) (Pl.far l x s)).1 then (0, 0, false) else ((Pl.endsB lo hi dx (Pl.near l x s) (Pl.far l x s)).1, (Pl.endsB lo hi dx (Pl.near l x s) (Pl.far l x s)).2, true)) := by
          unfold Hid
          rw [Pl.ivl_eqB r2]
          unfold Pl.ivlB
          have q0 : Pl.room dx (Pl.far l x s) = l * (10000 + x + s) * (l * (10000 + x + s)) / 100000000 - dx * dx := rfl
          by_cases h3 : (Pl.endsB lo hi dx (Pl.near l x s) (Pl.far l x s)).2 < (Pl.endsB lo hi dx (Pl.near l x s) (Pl.far l x s)).1
          · rw [if_pos (by omega), if_pos h3]
          · rw [if_neg (by rw [q0]; omega), if_neg h3]
        have hR : ∃ R, Pl.root (l * (10000 + x + s) * (l * (10000 + x + s)) / 100000000 - dx * dx) = R := ⟨_, rfl⟩
        obtain ⟨R, hR⟩ := hR
        have hS : ∃ S, -(-(l * (10000 + x - s)) * (l * (10000 + x - s)) / 100000000) - dx * dx = S := ⟨_, rfl⟩
        obtain ⟨S, hS⟩ := hS
        have e11 : (if Pl.lowB hi dx < -R then -R else Pl.lowB hi dx) = max (Pl.lowB hi dx) (-R) := by split <;> omega
        have e12 : (if R < Pl.topB lo dx then R else Pl.topB lo dx) = min (Pl.topB lo dx) R := by split <;> omega
        rw [hR, hS, e11, e12]
        rw [hR] at t0 t1
        rw [hS] at u0 u1
        have HR : Hid (Pl.root (Pl.room dx (Pl.far l x s)) = R) := hR
        have HS : Hid (Pl.short dx (Pl.near l x s) = S) := by unfold Hid Pl.short Pl.near; rw [← hS, Int.neg_mul]
        clear hR hS e11 e12
        go_cut [11, 12] (fun s11 s12 wx => s11 = .int .i64 (if hi ≤ 90 then max (max (Pl.lowB hi dx) (-R)) (Pl.rootUp S) else max (Pl.lowB hi dx) (-R)) ∧ s12 = .int .i64 (min (Pl.topB lo dx) R) ∧ Below w.heap.size w wx)
        case first =>
          by_cases h90 : hi ≤ 90
          · go_wp2_with (go_at_call 31; refine (rootUp_b _ _).mono ?_; rintro e w' ⟨rfl, rfl⟩)
            all_goals go_meet
            all_goals exact ⟨congrArg (Value.int .i64) (by rw [if_pos h90]; omega), rfl, by go_grown⟩
          · go_wp2
            go_meet
            exact ⟨by rw [if_neg (by omega)], rfl, by go_grown⟩
        case rest =>
          obtain ⟨rfl, rfl, hb5⟩ := hcut
          generalize hX : (if hi ≤ 90 then max (max (Pl.lowB hi dx) (-R)) (Pl.rootUp S) else max (Pl.lowB hi dx) (-R)) = X
          have HX := Lib.hid hX; clear hX
          go_upto_if 111 with fail
          go_cut [11, 12] (fun s11 s12 wx => s11 = .int .i64 X ∧ s12 = .int .i64 (if 90 ≤ lo then min (min (Pl.topB lo dx) R) (-Pl.rootUp S) else min (Pl.topB lo dx) R) ∧ Below w.heap.size w wx)
          case first =>
            by_cases h90 : 90 ≤ lo
            · go_wp2_with (go_at_call 31; refine (rootUp_b _ _).mono ?_; rintro e w' ⟨rfl, rfl⟩)
              all_goals go_meet
              all_goals exact ⟨rfl, congrArg (Value.int .i64) (by rw [if_pos h90]; omega), by go_grown⟩
            · go_wp2
              go_meet
              exact ⟨rfl, by rw [if_neg (by omega)], by go_grown⟩
          case rest =>
            obtain ⟨rfl, rfl, hb6⟩ := hcut
            have E1 : (Pl.endsB lo hi dx (Pl.near l x s) (Pl.far l x s)).1 = if hi ≤ 90 then max (max (Pl.lowB hi dx) (-R)) (Pl.rootUp S) else max (Pl.lowB hi dx) (-R) := by
              rw [← HR.out, ← HS.out]; rfl
            rw [HX.out] at E1
            have E2 : (Pl.endsB lo hi dx (Pl.near l x s) (Pl.far l x s)).2 = if 90 ≤ lo then min (min (Pl.topB lo dx) R) (-Pl.rootUp S) else min (Pl.topB lo dx) R := by
              rw [← HR.out, ← HS.out]; rfl
            have HE1 := Lib.hid E1; have HE2 := Lib.hid E2; clear E1 E2
            generalize (if 90 ≤ lo then min (min (Pl.topB lo dx) R) (-Pl.rootUp S) else min (Pl.topB lo dx) R) = Y at *
            go_wp2
            all_goals go_ret3
            all_goals refine ⟨?_, by go_grown⟩
            all_goals first
              | exact ivlB_yes hE.out HE1.out HE2.out (by omega)
              | exact ivlB_no hE.out (by rw [HE1.out, HE2.out]; omega)
end Go.Proofs.YthncpapejijloaaGreatDoor

namespace Go.Proofs.YthncpapejijloaaGreatDoor
open Go.RowKit

theorem ivl_bd2 (lo hi dx ne fa : Int) : -100000 ≤ (Pl.ivl lo hi dx ne fa).1 ∧ (Pl.ivl lo hi dx ne fa).1 ≤ 100000 ∧ -100000 ≤ (Pl.ivl lo hi dx ne fa).2.1 ∧ (Pl.ivl lo hi dx ne fa).2.1 ≤ 100000 := Pl.ivl_bd lo hi dx ne fa
set_option maxHeartbeats 1000000 in
theorem both_b (c : Pl.Crs) (east dx : Int) (w : World) (ho : c.ok = true) (he0 : -60 ≤ east) (he1 : east ≤ 60) (h0 : dx ≠ 0) (hd0 : -100000 ≤ dx) (hd1 : dx ≤ 100000) :
    Calls Tryz.prog 83 #[.agg #[.int .i64 c.b, .int .i64 c.n, .int .i64 c.l, .int .i64 c.y, .int .i64 c.x, .int .i64 c.s], .int .i64 east, .int .i64 dx] w fun e w' => e = .returned (.tuple #[.int .i64 (Pl.ivD c east dx).1, .int .i64 (Pl.ivD c east dx).2.1, .bool (Pl.ivD c east dx).2.2]) ∧ Below w.heap.size w w' := by
  obtain ⟨⟨g0, g1⟩, _⟩ := c.ok_iff ho
  have hK := Lib.hid ho; clear ho
  by_cases hd : dx < 0
  · have hR : Hid (Pl.ivD c east dx = Pl.flip (Pl.ivl (Pl.mid ((c.b + 180) % 360) east - c.n) (Pl.mid ((c.b + 180) % 360) east + c.n) (-dx) (Pl.near c.l c.x c.s) (Pl.far c.l c.x c.s))) := by unfold Hid Pl.ivD; rw [if_pos hd]; rfl
    obtain ⟨b0, b1, b2, b3⟩ := ivl_bd2 (Pl.mid ((c.b + 180) % 360) east - c.n) (Pl.mid ((c.b + 180) % 360) east + c.n) (-dx) (Pl.near c.l c.x c.s) (Pl.far c.l c.x c.s)
    go_enter Tryz.func83, Tryz.ntmps83
    go_wp2_with (first
      | (go_at_call 22; refine (norm_b _ _).mono ?_; rintro e w' ⟨rfl, rfl⟩)
      | (go_at_call 112; refine (interval_b ((c.b + 180) % 360) c.n c.l c.y c.x c.s east _ _ _ _ rfl rfl (Pl.Crs.back_ok hK.out) he0 he1 (by omega) (by omega)).mono ?_; rintro e w2 ⟨rfl, hx2⟩; have hb2 : Below w.heap.size w w2 := Below.trans (by go_grown) (hx2.mono (by go_size)); clear hx2; have hsz2 : w.heap.size ≤ w2.heap.size := hb2.size))
    go_ret3
    exact ⟨by rw [hR.out]; rfl, by go_grown⟩
  · have hR : Hid (Pl.ivD c east dx = Pl.ivl (Pl.mid c.b east - c.n) (Pl.mid c.b east + c.n) dx (Pl.near c.l c.x c.s) (Pl.far c.l c.x c.s)) := by unfold Hid Pl.ivD; rw [if_neg hd]; rfl
    go_enter Tryz.func83, Tryz.ntmps83
    go_wp2_with (first
      | (go_at_call 112; refine (interval_b _ _ _ _ _ _ _ _ _ _ _ rfl rfl hK.out he0 he1 (by omega) (by omega)).mono ?_; rintro e w2 ⟨rfl, hx2⟩; have hb2 : Below w.heap.size w w2 := Below.trans (by go_grown) (hx2.mono (by go_size)); clear hx2; have hsz2 : w.heap.size ≤ w2.heap.size := hb2.size))
    go_ret3
    exact ⟨by rw [hR.out]; rfl, by go_grown⟩
theorem Interval_b (A : Option Addr) (cp : Nat) (v : List (Int × Int)) (c : Pl.Crs) (dx : Int) (w : World) (hl : Vars w w.heap.size A v) (hm : v.length ≤ maxLen) :
    Calls Tryz.prog 37 #[.slice A v.length cp, .agg #[.int .i64 c.b, .int .i64 c.n, .int .i64 c.l, .int .i64 c.y, .int .i64 c.x, .int .i64 c.s], .int .i64 dx] w fun e w' => e = .returned (.tuple #[.int .i64 (Pl.com v [c] dx).1, .int .i64 (Pl.com v [c] dx).2.1, .bool (Pl.com v [c] dx).2.2, .int .i64 (Pl.comE v [c] dx)]) ∧ Below w.heap.size w w' := by
  have HC := Lib.hid (Pl.com_one v c dx)
  have HE := Lib.hid (Pl.comE_one v c dx)
  by_cases h1 : Pl.stepE v c dx 0 = 0
  · obtain ⟨k1, j0, j1, j2, j3, j4⟩ := stepE_ok h1
    have h1' : (Pl.stepE v c dx 0 != 0) = false := by simp [h1]
    have hR : Hid (Pl.com v [c] dx = Pl.ivD c (Pl.opened v c dx 0) dx) := by unfold Hid Pl.opened; rw [HC.out, if_pos h1, if_pos h1]; rfl
    have hO : -60 ≤ Pl.opened v c dx 0 ∧ Pl.opened v c dx 0 ≤ 60 := by unfold Pl.opened; rw [if_pos h1]; exact decl_bd v c.y
    obtain ⟨o0, o1⟩ := hO
    have H1 := Lib.hid h1
    have HK := Lib.hid k1
    clear h1 k1
    go_enter Tryz.func37, Tryz.ntmps37
    go_wp2_with (first
      | (go_at_call 81; refine (opened_b _ _ v c _ _ _ (hl.up (by go_grown)) hm).mono ?_; rintro e w1 ⟨rfl, hx1⟩; have kb1a : w1.heap[w.heap.size]? = some (.cells _ _ (0, 0)) := (hx1.block _ (by first | omega | (simp; done) | (simp; omega))).trans (heap_alloc_new _ _); obtain ⟨hc1a, hf1a⟩ := blk_cells kb1a; have hsz1 := hx1.size; (try simp at hsz1); have hb1 : Below w.heap.size w w1 := Below.trans (by go_grown) (hx1.mono (by go_size)); have hsz1w : w.heap.size ≤ w1.heap.size := hb1.size; clear hx1)
      | (go_at_call 83; refine (both_b c _ _ _ HK.out o0 o1 j0 j1 j2).mono ?_; rintro e w3 ⟨rfl, hx3⟩; have hb3 : Below w.heap.size w w3 := Below.trans (by go_grown) (hx3.mono (by go_size)); clear hx3; have hsz3 : w.heap.size ≤ w3.heap.size := hb3.size))
    go_returns
    exact ⟨by rw [HE.out, H1.out, hR.out]; try rfl, by go_grown⟩
  · have h1' : (Pl.stepE v c dx 0 != 0) = true := by simp [h1]
    have hR : Hid (Pl.com v [c] dx = (0, 0, false)) := by unfold Hid; rw [HC.out, if_neg h1]
    clear h1
    go_enter Tryz.func37, Tryz.ntmps37
    go_wp2_with (first
      | (go_at_call 81; refine (opened_b _ _ v c _ _ _ (hl.up (by go_grown)) hm).mono ?_; rintro e w1 ⟨rfl, hx1⟩; have kb1a : w1.heap[w.heap.size]? = some (.cells _ _ (0, 0)) := (hx1.block _ (by first | omega | (simp; done) | (simp; omega))).trans (heap_alloc_new _ _); obtain ⟨hc1a, hf1a⟩ := blk_cells kb1a; have hsz1 := hx1.size; (try simp at hsz1); have hb1 : Below w.heap.size w w1 := Below.trans (by go_grown) (hx1.mono (by go_size)); have hsz1w : w.heap.size ≤ w1.heap.size := hb1.size; clear hx1))
    go_returns
    exact ⟨by rw [HE.out, hR.out]; try rfl, by go_grown⟩
end Go.Proofs.YthncpapejijloaaGreatDoor
