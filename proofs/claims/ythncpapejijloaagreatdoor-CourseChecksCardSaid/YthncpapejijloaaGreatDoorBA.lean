/- Walks of the reference: Misfit. -/
import Derived.Test.YthncpapejijloaaGreatDoorProg
import Derived.WalkKit
import Derived.WalkLawsBesides
import Derived.WalkSpells
import Derived.Handy
import Derived.Lib.Hide
import Derived.Great.BuildSlice
import Derived.Deep.QuietTactic
import Derived.BigQuiet
import Derived.Deep.RegionHeld3
import Derived.Deep.DeepCutAuto
import Derived.Test.YthncpapejijloaaGreatDoorAE
import Derived.Test.YthncpapejijloaaGreatDoorPlA
namespace Go.Proofs.YthncpapejijloaaGreatDoor
open Go.RowKit

theorem squared_b (dx dy : Int) (w : World) (h0 : -100000 ≤ dx) (h1 : dx ≤ 100000) (h2 : -100000 ≤ dy) (h3 : dy ≤ 100000) :
    Calls Tryz.prog 123 #[.int .i64 dx, .int .i64 dy] w fun e w' => e = .returned (.int .i64 (100000000 * (dx * dx + dy * dy))) ∧ w = w' := by
  have a0 := Pl.sq_nonneg dx
  have a1 := (Pl.mul_abs_of h0 h1 h0 h1).2
  have b0 := Pl.sq_nonneg dy
  have b1 := (Pl.mul_abs_of h2 h3 h2 h3).2
  go_enter Tryz.func123, Tryz.ntmps123
  go_wp2
  go_ret
  exact ⟨rfl, rfl⟩
theorem sector_h (b n l y x s east lo hi : Int) (w : World) (hlo : Hid (Pl.mid b east - n = lo)) (hhi : Hid (Pl.mid b east + n = hi)) (hb0 : 0 ≤ b) (hb1 : b ≤ 359) (hn0 : 0 ≤ n) (hn1 : n ≤ 30) (he0 : -60 ≤ east) (he1 : east ≤ 60) :
    Calls Tryz.prog 104 #[.agg #[.int .i64 b, .int .i64 n, .int .i64 l, .int .i64 y, .int .i64 x, .int .i64 s], .int .i64 east] w fun e w' => e = .returned (.tuple #[.int .i64 lo, .int .i64 hi]) ∧ Below w.heap.size w w' := by
  have h := sector_b b n l y x s east w hb0 hb1 hn0 hn1 he0 he1
  rw [hlo.out, hhi.out] at h
  exact h
set_option maxHeartbeats 2000000 in
theorem misfit_b (b n l y x s east dx dy lo hi : Int) (w : World) (hlo : Hid (Pl.mid b east - n = lo)) (hhi : Hid (Pl.mid b east + n = hi)) (ho : Pl.courseOk b n l y x s = true) (he0 : -60 ≤ east) (he1 : east ≤ 60) (hd0 : 1 ≤ dx) (hd1 : dx ≤ 100000) (hy0 : -100000 ≤ dy) (hy1 : dy ≤ 100000) :
    Calls Tryz.prog 111 #[.agg #[.int .i64 b, .int .i64 n, .int .i64 l, .int .i64 y, .int .i64 x, .int .i64 s], .int .i64 east, .int .i64 dx, .int .i64 dy] w fun e w' => e = .returned (.int .u8 (Pl.misfit lo hi dx (Pl.near l x s) (Pl.far l x s) dy)) ∧ Below w.heap.size w w' := by
  obtain ⟨⟨g0, g1⟩, ⟨g2, g3⟩, ⟨g4, g5⟩, ⟨g6, g7⟩, ⟨g8, g9⟩, g10, g11⟩ := Pl.Crs.ok_iff (c := ⟨b, n, l, y, x, s⟩) ho
  clear ho
  simp only [] at g0 g1 g2 g3 g4 g5 g6 g7 g8 g9 g10 g11
  have hm := Pl.mid_bd b east
  have r0 : -120 ≤ lo := by have := hlo.out; omega
  have r1 : hi ≤ 300 := by have := hhi.out; omega
  clear hm
  obtain ⟨⟨l0, l1⟩, l2, l3⟩ := Pl.len_bd g4 g5 g8 g9 g10 g11
  obtain ⟨p0, p1⟩ := Pl.mul_le_of l0 l1 l0 l1
  obtain ⟨p2, p3⟩ := Pl.mul_le_of l2 l3 l2 l3
  obtain ⟨s0, s1⟩ := Pl.sin_bd lo
  obtain ⟨c0, c1⟩ := Pl.cos_bd lo
  obtain ⟨s2, s3⟩ := Pl.sin_bd hi
  obtain ⟨c2, c3⟩ := Pl.cos_bd hi
  obtain ⟨q0, q1⟩ := Pl.mul_abs_of hy0 hy1 s0 s1
  obtain ⟨q2, q3⟩ := Pl.mul_abs_of (show -100000 ≤ dx by omega) hd1 c0 c1
  obtain ⟨q4, q5⟩ := Pl.mul_abs_of hy0 hy1 s2 s3
  obtain ⟨q6, q7⟩ := Pl.mul_abs_of (show -100000 ≤ dx by omega) hd1 c2 c3
  go_enter Tryz.func111, Tryz.ntmps111
  go_wp2_with (first
    | (go_at_call 104; refine (sector_h _ _ _ _ _ _ _ lo hi _ hlo hhi g0 g1 g2 g3 he0 he1).mono ?_; rintro e w1 ⟨rfl, hx1⟩; have kb1a : w1.heap[w.heap.size]? = some (.cells _ _ (0, 0)) := (hx1.block _ (by first | omega | (simp; done) | (simp; omega))).trans (heap_alloc_new _ _); obtain ⟨hc1a, hf1a⟩ := blk_cells kb1a; have hsz1 := hx1.size; (try simp at hsz1); have hb1 : Below w.heap.size w w1 := Below.trans (by go_grown) (hx1.mono (by go_size)); have hsz1w : w.heap.size ≤ w1.heap.size := hb1.size; clear hx1)
    | (go_at_call 24; refine (sin_b _ _).mono ?_; rintro e w2 ⟨rfl, hx2⟩; have hb2 : Below w.heap.size w w2 := Below.trans (by go_grown) (hx2.mono (by go_size)); clear hx2; have hsz2 : w.heap.size ≤ w2.heap.size := hb2.size)
    | (go_at_call 26; refine (cos_b _ _).mono ?_; rintro e w2 ⟨rfl, hx2⟩; have hb2 : Below w.heap.size w w2 := Below.trans (by go_grown) (hx2.mono (by go_size)); clear hx2; have hsz2 : w.heap.size ≤ w2.heap.size := hb2.size)
    | (go_at_call 123; refine (squared_b _ _ _ (by omega) hd1 hy0 hy1).mono ?_; rintro e w' ⟨rfl, rfl⟩))
  all_goals go_ret
  all_goals exact ⟨ret_int (by clear hlo hhi p0 p1 p2 p3 q0 q1 q2 q3 q4 q5 q6 q7 s0 s1 s2 s3 c0 c1 c2 c3; grind [Pl.misfit, Pl.near, Pl.far]), by go_grown⟩
end Go.Proofs.YthncpapejijloaaGreatDoor

namespace Go.Proofs.YthncpapejijloaaGreatDoor
open Go.RowKit

set_option maxHeartbeats 1000000 in
theorem either_b (c : Pl.Crs) (east dx dy : Int) (w : World) (ho : c.ok = true) (he0 : -60 ≤ east) (he1 : east ≤ 60) (h0 : dx ≠ 0) (hd0 : -100000 ≤ dx) (hd1 : dx ≤ 100000) (hy0 : -100000 ≤ dy) (hy1 : dy ≤ 100000) :
    Calls Tryz.prog 82 #[.agg #[.int .i64 c.b, .int .i64 c.n, .int .i64 c.l, .int .i64 c.y, .int .i64 c.x, .int .i64 c.s], .int .i64 east, .int .i64 dx, .int .i64 dy] w fun e w' => e = .returned (.int .u8 (Pl.fitD c east dx dy)) ∧ Below w.heap.size w w' := by
  obtain ⟨⟨g0, g1⟩, _⟩ := c.ok_iff ho
  have hK := Lib.hid ho; clear ho
  by_cases hd : dx < 0
  · have hR : Hid (Pl.fitD c east dx dy = Pl.misfit (Pl.mid ((c.b + 180) % 360) east - c.n) (Pl.mid ((c.b + 180) % 360) east + c.n) (-dx) (Pl.near c.l c.x c.s) (Pl.far c.l c.x c.s) (-dy)) := by unfold Hid Pl.fitD; rw [if_pos hd]; rfl
    go_enter Tryz.func82, Tryz.ntmps82
    go_wp2_with (first
      | (go_at_call 22; refine (norm_b _ _).mono ?_; rintro e w' ⟨rfl, rfl⟩)
      | (go_at_call 111; refine (misfit_b _ _ _ _ _ _ _ _ _ _ _ _ rfl rfl (Pl.Crs.back_ok hK.out) he0 he1 (by omega) (by omega) (by omega) (by omega)).mono ?_; rintro e w2 ⟨rfl, hx2⟩; have hb2 : Below w.heap.size w w2 := Below.trans (by go_grown) (hx2.mono (by go_size)); clear hx2; have hsz2 : w.heap.size ≤ w2.heap.size := hb2.size))
    go_ret
    exact ⟨by rw [hR.out]; rfl, by go_grown⟩
  · have hR : Hid (Pl.fitD c east dx dy = Pl.misfit (Pl.mid c.b east - c.n) (Pl.mid c.b east + c.n) dx (Pl.near c.l c.x c.s) (Pl.far c.l c.x c.s) dy) := by unfold Hid Pl.fitD; rw [if_neg hd]; rfl
    go_enter Tryz.func82, Tryz.ntmps82
    go_wp2_with (first
      | (go_at_call 111; refine (misfit_b _ _ _ _ _ _ _ _ _ _ _ _ rfl rfl hK.out he0 he1 (by omega) (by omega) (by omega) (by omega)).mono ?_; rintro e w2 ⟨rfl, hx2⟩; have hb2 : Below w.heap.size w w2 := Below.trans (by go_grown) (hx2.mono (by go_size)); clear hx2; have hsz2 : w.heap.size ≤ w2.heap.size := hb2.size))
    go_ret
    exact ⟨by rw [hR.out]; rfl, by go_grown⟩

/-- The errors of one course: in the order of the reference. -/
theorem sectorE (v : List (Int × Int)) (c : Pl.Crs) : Pl.commonE v [c] = if Pl.vars v ≠ 0 then Pl.vars v else if c.ok = true then (if (Pl.decl v c.y).2 = true then 0 else 20) else 1 := by
  unfold Pl.commonE; simp only [List.all_cons, List.all_nil, Bool.and_true]
set_option maxHeartbeats 1000000 in
theorem Sector_b (A : Option Addr) (cp : Nat) (v : List (Int × Int)) (c : Pl.Crs) (w : World) (hl : Vars w w.heap.size A v) (hm : v.length ≤ maxLen) :
    Calls Tryz.prog 66 #[.slice A v.length cp, .agg #[.int .i64 c.b, .int .i64 c.n, .int .i64 c.l, .int .i64 c.y, .int .i64 c.x, .int .i64 c.s]] w fun e w' => e = .returned (.tuple #[.int .i64 (Pl.secR v c).1, .int .i64 (Pl.secR v c).2, .int .i64 (Pl.commonE v [c])]) ∧ Below w.heap.size w w' := by
  have hE := Lib.hid (sectorE v c)
  obtain ⟨d0, d1⟩ := decl_bd v c.y
  by_cases hv : Pl.vars v = 0
  · have hv' : (Pl.vars v == 0) = true := by simp [hv]
    have H0 := Lib.hid hv; clear hv
    by_cases hok : c.ok = true
    · obtain ⟨⟨g0, g1⟩, ⟨g2, g3⟩, _⟩ := c.ok_iff hok
      have he : Pl.err (Pl.courseOk c.b c.n c.l c.y c.x c.s) = 0 := by unfold Pl.Crs.ok at hok; rw [hok]; rfl
      have HE := Lib.hid he; clear he
      have H1 := Lib.hid hok; clear hok
      by_cases hk : (Pl.decl v c.y).2 = true
      · have hc0 : Hid (Pl.commonE v [c] = 0) := by unfold Hid; rw [hE.out, if_neg (by simp [H0.out]), if_pos H1.out, if_pos hk]
        have hR : Hid (Pl.secR v c = (Pl.mid c.b (Pl.decl v c.y).1 - c.n, Pl.mid c.b (Pl.decl v c.y).1 + c.n)) := by unfold Hid Pl.secR; rw [if_pos hc0.out]; rfl
        clear hE
        go_enter Tryz.func66, Tryz.ntmps66
        go_wp2_with (first
          | (go_at_call 71; refine (vars_b _ _ v _ (hl.up (by go_grown)) hm).mono ?_; rintro e w1 ⟨rfl, hx1⟩; have kb1a : w1.heap[w.heap.size]? = some (.cells _ _ (0, 0)) := (hx1.block _ (by first | omega | (simp; done) | (simp; omega))).trans (heap_alloc_new _ _); obtain ⟨hc1a, hf1a⟩ := blk_cells kb1a; have hsz1 := hx1.size; (try simp at hsz1); have hb1 : Below w.heap.size w w1 := Below.trans (by go_grown) (hx1.mono (by go_size)); have hsz1w : w.heap.size ≤ w1.heap.size := hb1.size; clear hx1)
          | (go_at_call 69; refine (course_b _ _ _ _ _ _ _).mono ?_; rintro e w2 ⟨rfl, hx2⟩; rw [HE.out]; have kb2 := (hx2.block w.heap.size (by omega)).trans kb1a; obtain ⟨hc2, hf2⟩ := blk_cells kb2; have hlt2 := (Array.getElem?_eq_some_iff.1 kb2).1; have hb2 : Below w.heap.size w w2 := Below.trans (by go_grown) (hx2.mono (by go_size)); have hsz2 := hb2.size; clear hx2 hc1a hf1a)
          | (go_at_call 64; refine (decl_b _ _ v _ _ (hl.up (by go_grown)) hm).mono ?_; rintro e w3 ⟨rfl, hx3⟩; have kb3a : w3.heap[w.heap.size]? = some (.cells _ _ (0, 0)) := (hx3.block _ (by first | omega | (simp; done) | (simp; omega))).trans (kb2); obtain ⟨hc3a, hf3a⟩ := blk_cells kb3a; have hsz3 := hx3.size; (try simp at hsz3); have hb3 : Below w.heap.size w w3 := Below.trans (by go_grown) (hx3.mono (by go_size)); have hsz3w : w.heap.size ≤ w3.heap.size := hb3.size; clear hx3)
          | (go_at_call 104; refine (sector_b _ _ _ _ _ _ _ _ g0 g1 g2 g3 d0 d1).mono ?_; rintro e w4 ⟨rfl, hx4⟩; have hb4 : Below w.heap.size w w4 := Below.trans (by go_grown) (hx4.mono (by go_size)); clear hx4; have hsz4 : w.heap.size ≤ w4.heap.size := hb4.size))
        go_ret3
        exact ⟨by rw [hc0.out, hR.out]; try rfl, by go_grown⟩
      · have hk' : (Pl.decl v c.y).2 = false := by simpa using hk
        have hc0 : Hid (Pl.commonE v [c] = 20) := by unfold Hid; rw [hE.out, if_neg (by simp [H0.out]), if_pos H1.out, if_neg hk]
        have hR : Hid (Pl.secR v c = (0, 0)) := by unfold Hid Pl.secR; rw [if_neg (by rw [hc0.out]; decide)]
        clear hE hk
        go_enter Tryz.func66, Tryz.ntmps66
        go_wp2_with (first
          | (go_at_call 71; refine (vars_b _ _ v _ (hl.up (by go_grown)) hm).mono ?_; rintro e w1 ⟨rfl, hx1⟩; have kb1a : w1.heap[w.heap.size]? = some (.cells _ _ (0, 0)) := (hx1.block _ (by first | omega | (simp; done) | (simp; omega))).trans (heap_alloc_new _ _); obtain ⟨hc1a, hf1a⟩ := blk_cells kb1a; have hsz1 := hx1.size; (try simp at hsz1); have hb1 : Below w.heap.size w w1 := Below.trans (by go_grown) (hx1.mono (by go_size)); have hsz1w : w.heap.size ≤ w1.heap.size := hb1.size; clear hx1)
          | (go_at_call 69; refine (course_b _ _ _ _ _ _ _).mono ?_; rintro e w2 ⟨rfl, hx2⟩; rw [HE.out]; have kb2 := (hx2.block w.heap.size (by omega)).trans kb1a; obtain ⟨hc2, hf2⟩ := blk_cells kb2; have hlt2 := (Array.getElem?_eq_some_iff.1 kb2).1; have hb2 : Below w.heap.size w w2 := Below.trans (by go_grown) (hx2.mono (by go_size)); have hsz2 := hb2.size; clear hx2 hc1a hf1a)
          | (go_at_call 64; refine (decl_b _ _ v _ _ (hl.up (by go_grown)) hm).mono ?_; rintro e w3 ⟨rfl, hx3⟩; have kb3a : w3.heap[w.heap.size]? = some (.cells _ _ (0, 0)) := (hx3.block _ (by first | omega | (simp; done) | (simp; omega))).trans (kb2); obtain ⟨hc3a, hf3a⟩ := blk_cells kb3a; have hsz3 := hx3.size; (try simp at hsz3); have hb3 : Below w.heap.size w w3 := Below.trans (by go_grown) (hx3.mono (by go_size)); have hsz3w : w.heap.size ≤ w3.heap.size := hb3.size; clear hx3))
        go_ret3
        exact ⟨by rw [hc0.out, hR.out]; try rfl, by go_grown⟩
    · have he : Pl.err (Pl.courseOk c.b c.n c.l c.y c.x c.s) = 1 := by unfold Pl.Crs.ok at hok; simp only [Bool.not_eq_true] at hok; rw [hok]; rfl
      have HE := Lib.hid he; clear he
      have hc0 : Hid (Pl.commonE v [c] = 1) := by unfold Hid; rw [hE.out, if_neg (by simp [H0.out]), if_neg hok]
      have hR : Hid (Pl.secR v c = (0, 0)) := by unfold Hid Pl.secR; rw [if_neg (by rw [hc0.out]; decide)]
      clear hE hok
      go_enter Tryz.func66, Tryz.ntmps66
      go_wp2_with (first
        | (go_at_call 71; refine (vars_b _ _ v _ (hl.up (by go_grown)) hm).mono ?_; rintro e w1 ⟨rfl, hx1⟩; have kb1a : w1.heap[w.heap.size]? = some (.cells _ _ (0, 0)) := (hx1.block _ (by first | omega | (simp; done) | (simp; omega))).trans (heap_alloc_new _ _); obtain ⟨hc1a, hf1a⟩ := blk_cells kb1a; have hsz1 := hx1.size; (try simp at hsz1); have hb1 : Below w.heap.size w w1 := Below.trans (by go_grown) (hx1.mono (by go_size)); have hsz1w : w.heap.size ≤ w1.heap.size := hb1.size; clear hx1)
        | (go_at_call 69; refine (course_b _ _ _ _ _ _ _).mono ?_; rintro e w2 ⟨rfl, hx2⟩; rw [HE.out]; have hb2 : Below w.heap.size w w2 := Below.trans (by go_grown) (hx2.mono (by go_size)); have hsz2 := hb2.size; clear hx2))
      go_ret3
      exact ⟨by rw [hc0.out, hR.out]; try rfl, by go_grown⟩
  · have hv' : (Pl.vars v == 0) = false := by simp [hv]
    have hv2 : (Pl.vars v != 0) = true := by simp [hv]
    have hc0 : Hid (Pl.commonE v [c] = Pl.vars v) := by unfold Hid; rw [hE.out, if_pos hv]
    have hR : Hid (Pl.secR v c = (0, 0)) := by unfold Hid Pl.secR; rw [if_neg (by rw [hc0.out]; exact hv)]
    clear hE hv
    go_enter Tryz.func66, Tryz.ntmps66
    go_wp2_with (first
      | (go_at_call 71; refine (vars_b _ _ v _ (hl.up (by go_grown)) hm).mono ?_; rintro e w1 ⟨rfl, hx1⟩; have kb1a : w1.heap[w.heap.size]? = some (.cells _ _ (0, 0)) := (hx1.block _ (by first | omega | (simp; done) | (simp; omega))).trans (heap_alloc_new _ _); obtain ⟨hc1a, hf1a⟩ := blk_cells kb1a; have hsz1 := hx1.size; (try simp at hsz1); have hb1 : Below w.heap.size w w1 := Below.trans (by go_grown) (hx1.mono (by go_size)); have hsz1w : w.heap.size ≤ w1.heap.size := hb1.size; clear hx1))
    go_ret3
    exact ⟨by rw [hc0.out, hR.out]; try rfl, by go_grown⟩
set_option maxHeartbeats 1000000 in
theorem opened_b (A : Option Addr) (cp : Nat) (v : List (Int × Int)) (c : Pl.Crs) (dx dy : Int) (w : World) (hl : Vars w w.heap.size A v) (hm : v.length ≤ maxLen) :
    Calls Tryz.prog 81 #[.slice A v.length cp, .agg #[.int .i64 c.b, .int .i64 c.n, .int .i64 c.l, .int .i64 c.y, .int .i64 c.x, .int .i64 c.s], .int .i64 dx, .int .i64 dy] w fun e w' => e = .returned (.tuple #[.int .i64 (Pl.opened v c dx dy), .int .i64 (Pl.stepE v c dx dy)]) ∧ Below w.heap.size w w' := by
  by_cases h1 : Pl.commonE v [c] = 0
  · have h1' : (Pl.commonE v [c] != 0) = false := by simp [h1]
    by_cases h2 : Pl.stepOk dx dy = true
    · obtain ⟨j0, j1, j2, j3, j4⟩ := Pl.stepOk_iff h2
      have hE : Hid (Pl.stepE v c dx dy = 0) := by unfold Hid Pl.stepE; rw [if_neg (by simp [h1]), h2]; rfl
      have hR : Hid (Pl.opened v c dx dy = (Pl.decl v c.y).1) := by unfold Hid Pl.opened; rw [if_pos hE.out]
      have j0' : (dx == 0) = false := by simpa using j0
      clear h1 h2
      go_enter Tryz.func81, Tryz.ntmps81
      go_wp2_with (first
        | (go_at_call 66; refine (Sector_b _ _ v c _ (hl.up (by go_grown)) hm).mono ?_; rintro e w1 ⟨rfl, hx1⟩; have kb1a : w1.heap[w.heap.size]? = some (.cells _ _ (0, 0)) := (hx1.block _ (by first | omega | (simp; done) | (simp; omega))).trans (heap_alloc_new _ _); obtain ⟨hc1a, hf1a⟩ := blk_cells kb1a; have hsz1 := hx1.size; (try simp at hsz1); have hb1 : Below w.heap.size w w1 := Below.trans (by go_grown) (hx1.mono (by go_size)); have hsz1w : w.heap.size ≤ w1.heap.size := hb1.size; clear hx1)
        | (go_at_call 64; refine (decl_b _ _ v _ _ (hl.up (by go_grown)) hm).mono ?_; rintro e w3 ⟨rfl, hx3⟩; have hb3 : Below w.heap.size w w3 := Below.trans (by go_grown) (hx3.mono (by go_size)); clear hx3; have hsz3 : w.heap.size ≤ w3.heap.size := hb3.size))
      go_ret2
      exact ⟨by rw [hE.out, hR.out]; try rfl, by go_grown⟩
    · have hE : Hid (Pl.stepE v c dx dy = 1) := by unfold Hid Pl.stepE; rw [if_neg (by simp [h1])]; simp only [Bool.not_eq_true] at h2; rw [h2]; rfl
      have hR : Hid (Pl.opened v c dx dy = 0) := by unfold Hid Pl.opened; rw [if_neg (by rw [hE.out]; decide)]
      have h3 : dx = 0 ∨ dx < -100000 ∨ 100000 < dx ∨ dy < -100000 ∨ 100000 < dy := by unfold Pl.stepOk at h2; simp only [decide_eq_true_eq] at h2; omega
      clear h1 h2
      go_enter Tryz.func81, Tryz.ntmps81
      go_wp2_with (first
        | (go_at_call 66; refine (Sector_b _ _ v c _ (hl.up (by go_grown)) hm).mono ?_; rintro e w1 ⟨rfl, hx1⟩; have kb1a : w1.heap[w.heap.size]? = some (.cells _ _ (0, 0)) := (hx1.block _ (by first | omega | (simp; done) | (simp; omega))).trans (heap_alloc_new _ _); obtain ⟨hc1a, hf1a⟩ := blk_cells kb1a; have hsz1 := hx1.size; (try simp at hsz1); have hb1 : Below w.heap.size w w1 := Below.trans (by go_grown) (hx1.mono (by go_size)); have hsz1w : w.heap.size ≤ w1.heap.size := hb1.size; clear hx1)
        | (go_at_call 64; refine (decl_b _ _ v _ _ (hl.up (by go_grown)) hm).mono ?_; rintro e w3 ⟨rfl, hx3⟩; have hb3 : Below w.heap.size w w3 := Below.trans (by go_grown) (hx3.mono (by go_size)); clear hx3; have hsz3 : w.heap.size ≤ w3.heap.size := hb3.size))
      all_goals first
        | (exfalso; omega)
        | (go_ret2; exact ⟨by rw [hE.out, hR.out]; try rfl, by go_grown⟩)
  · have h1' : (Pl.commonE v [c] != 0) = true := by simp [h1]
    have hE : Hid (Pl.stepE v c dx dy = Pl.commonE v [c]) := by unfold Hid Pl.stepE; rw [if_pos h1]
    have hR : Hid (Pl.opened v c dx dy = 0) := by unfold Hid Pl.opened; rw [if_neg (by rw [hE.out]; exact h1)]
    clear h1
    go_enter Tryz.func81, Tryz.ntmps81
    go_wp2_with (first
      | (go_at_call 66; refine (Sector_b _ _ v c _ (hl.up (by go_grown)) hm).mono ?_; rintro e w1 ⟨rfl, hx1⟩; have kb1a : w1.heap[w.heap.size]? = some (.cells _ _ (0, 0)) := (hx1.block _ (by first | omega | (simp; done) | (simp; omega))).trans (heap_alloc_new _ _); obtain ⟨hc1a, hf1a⟩ := blk_cells kb1a; have hsz1 := hx1.size; (try simp at hsz1); have hb1 : Below w.heap.size w w1 := Below.trans (by go_grown) (hx1.mono (by go_size)); have hsz1w : w.heap.size ≤ w1.heap.size := hb1.size; clear hx1))
    go_ret2
    exact ⟨by rw [hE.out, hR.out]; try rfl, by go_grown⟩
theorem stepE_ok {v : List (Int × Int)} {c : Pl.Crs} {dx dy : Int} (h : Pl.stepE v c dx dy = 0) : c.ok = true ∧ dx ≠ 0 ∧ -100000 ≤ dx ∧ dx ≤ 100000 ∧ -100000 ≤ dy ∧ dy ≤ 100000 := by
  obtain ⟨h1, h2⟩ := Pl.stepE_zero h
  obtain ⟨_, k1, _⟩ := Pl.commonE_one h1
  exact ⟨k1, Pl.stepOk_iff h2⟩
theorem Misfit_b (A : Option Addr) (cp : Nat) (v : List (Int × Int)) (c : Pl.Crs) (dx dy : Int) (w : World) (hl : Vars w w.heap.size A v) (hm : v.length ≤ maxLen) :
    Calls Tryz.prog 34 #[.slice A v.length cp, .agg #[.int .i64 c.b, .int .i64 c.n, .int .i64 c.l, .int .i64 c.y, .int .i64 c.x, .int .i64 c.s], .int .i64 dx, .int .i64 dy] w fun e w' => e = .returned (.tuple #[.int .u8 (Pl.fitR v c dx dy), .int .i64 (Pl.stepE v c dx dy)]) ∧ Below w.heap.size w w' := by
  by_cases h1 : Pl.stepE v c dx dy = 0
  · obtain ⟨k1, j0, j1, j2, j3, j4⟩ := stepE_ok h1
    have h1' : (Pl.stepE v c dx dy != 0) = false := by simp [h1]
    have hR : Hid (Pl.fitR v c dx dy = Pl.fitD c (Pl.opened v c dx dy) dx dy) := by unfold Hid Pl.fitR Pl.opened; rw [if_pos h1, if_pos h1]; rfl
    have hO : -60 ≤ Pl.opened v c dx dy ∧ Pl.opened v c dx dy ≤ 60 := by unfold Pl.opened; rw [if_pos h1]; exact decl_bd v c.y
    obtain ⟨o0, o1⟩ := hO
    have H1 := Lib.hid h1
    have HK := Lib.hid k1
    clear h1 k1
    go_enter Tryz.func34, Tryz.ntmps34
    go_wp2_with (first
      | (go_at_call 81; refine (opened_b _ _ v c _ _ _ (hl.up (by go_grown)) hm).mono ?_; rintro e w1 ⟨rfl, hx1⟩; have kb1a : w1.heap[w.heap.size]? = some (.cells _ _ (0, 0)) := (hx1.block _ (by first | omega | (simp; done) | (simp; omega))).trans (heap_alloc_new _ _); obtain ⟨hc1a, hf1a⟩ := blk_cells kb1a; have hsz1 := hx1.size; (try simp at hsz1); have hb1 : Below w.heap.size w w1 := Below.trans (by go_grown) (hx1.mono (by go_size)); have hsz1w : w.heap.size ≤ w1.heap.size := hb1.size; clear hx1)
      | (go_at_call 82; refine (either_b c _ _ _ _ HK.out o0 o1 j0 j1 j2 j3 j4).mono ?_; rintro e w3 ⟨rfl, hx3⟩; have hb3 : Below w.heap.size w w3 := Below.trans (by go_grown) (hx3.mono (by go_size)); clear hx3; have hsz3 : w.heap.size ≤ w3.heap.size := hb3.size))
    go_ret2
    exact ⟨by rw [H1.out, hR.out]; try rfl, by go_grown⟩
  · have h1' : (Pl.stepE v c dx dy != 0) = true := by simp [h1]
    have hR : Hid (Pl.fitR v c dx dy = 0) := by unfold Hid Pl.fitR; rw [if_neg h1]
    clear h1
    go_enter Tryz.func34, Tryz.ntmps34
    go_wp2_with (first
      | (go_at_call 81; refine (opened_b _ _ v c _ _ _ (hl.up (by go_grown)) hm).mono ?_; rintro e w1 ⟨rfl, hx1⟩; have kb1a : w1.heap[w.heap.size]? = some (.cells _ _ (0, 0)) := (hx1.block _ (by first | omega | (simp; done) | (simp; omega))).trans (heap_alloc_new _ _); obtain ⟨hc1a, hf1a⟩ := blk_cells kb1a; have hsz1 := hx1.size; (try simp at hsz1); have hb1 : Below w.heap.size w w1 := Below.trans (by go_grown) (hx1.mono (by go_size)); have hsz1w : w.heap.size ≤ w1.heap.size := hb1.size; clear hx1))
    go_ret2
    exact ⟨by rw [hR.out]; try rfl, by go_grown⟩
end Go.Proofs.YthncpapejijloaaGreatDoor
