/- Walks: Common, Interval, Needed, Reverse. -/
import Derived.Test.YthncpapejijloaaGreatDoorProg
import Derived.WalkKit
import Derived.WalkLawsBesides
import Derived.WalkSpells
import Derived.Handy
import Derived.Lib.Hide
import Derived.Great.BuildSlice
import Derived.Deep.QuietTactic
import Derived.BigQuiet
import Derived.Deep.RegionHeld3
import Derived.Deep.DeepCutAuto
import Derived.Test.YthncpapejijloaaGreatDoorAD
import Derived.Test.YthncpapejijloaaGreatDoorPlA
namespace Go.Proofs.YthncpapejijloaaGreatDoor
open Go.RowKit

theorem ivlC_a (A : Option Addr) (cp : Nat) (v : List (Int × Int)) (b n l y x s dx : Int) (c : Pl.Crs) (w : World) (hc : c = ⟨b, n, l, y, x, s⟩) (hl : Vars w w.heap.size A v) (hm : v.length ≤ maxLen) (hok : c.ok = true) (h0 : dx ≠ 0) (h1 : -100000 ≤ dx) (h2 : dx ≤ 100000) :
    Calls Tryz.prog 84 #[.slice A v.length cp, .agg #[.int .i64 b, .int .i64 n, .int .i64 l, .int .i64 y, .int .i64 x, .int .i64 s], .int .i64 dx] w fun e w' => e = .returned (.tuple #[.int .i64 (Pl.ivlC v c dx).1, .int .i64 (Pl.ivlC v c dx).2.1, .bool (Pl.ivlC v c dx).2.2]) ∧ Below w.heap.size w w' := by
  obtain ⟨⟨g0, g1⟩, _⟩ := c.ok_iff hok
  have hK := Lib.hid hok; clear hok
  by_cases hd : dx < 0
  · obtain ⟨b0, b1, b2, b3⟩ := Pl.ivl_bd (Pl.mid ((b + 180) % 360) (Pl.decl v y).1 - n) (Pl.mid ((b + 180) % 360) (Pl.decl v y).1 + n) (-dx) (Pl.near l x s) (Pl.far l x s)
    have hR : Hid (Pl.ivlC v c dx = Pl.flip (Pl.ivl (c.back.lo v) (c.back.hi v) (-dx) c.back.ne c.back.fa)) := by unfold Hid Pl.ivlC; rw [if_pos hd]; rfl
    have hq := Lib.hid (Pl.Crs.qok (v := v) (dx := -dx) (Pl.Crs.back_ok hK.out) (by omega) (by omega))
    subst hc
    go_enter Tryz.func84, Tryz.ntmps84
    go_wp2_with (first
      | (go_at_call 78; refine (turned_neg _ _ _ _ _ _ _ _ _ (by omega) (by omega) (by omega) hd (by omega) (by omega)).mono ?_; rintro e w2 ⟨rfl, hx2⟩; have hb2 : Below w.heap.size w w2 := Below.trans (by go_grown) (hx2.mono (by go_size)); clear hx2; have hsz2 : w.heap.size ≤ w2.heap.size := hb2.size)
      | (go_at_call 79; refine (asked_a _ _ v _ _ _ _ _ _ _ _ ?_ hm ?_).mono ?_; (exact hl.up (by go_grown)); (exact Pl.Crs.back_ok hK.out); rintro e w3 ⟨rfl, hx3⟩; have hb3 : Below w.heap.size w w3 := Below.trans (by go_grown) (hx3.mono (by go_size)); clear hx3; have hsz3 : w.heap.size ≤ w3.heap.size := hb3.size)
      | (go_at_call 113; refine (ivl_a _ _ _ _ _ _ ?_).mono ?_; (exact hq.out); rintro e w4 ⟨rfl, hx4⟩; have hb4 : Below w.heap.size w w4 := Below.trans (by go_grown) (hx4.mono (by go_size)); clear hx4; have hsz4 : w.heap.size ≤ w4.heap.size := hb4.size))
    go_ret3
    exact ⟨by rw [hR.out]; rfl, by go_grown⟩
  · have hR : Hid (Pl.ivlC v c dx = Pl.ivl (c.lo v) (c.hi v) dx c.ne c.fa) := by unfold Hid Pl.ivlC; rw [if_neg hd]; rfl
    have hq := Lib.hid (Pl.Crs.qok (v := v) (dx := dx) hK.out (by omega) (by omega))
    subst hc
    go_enter Tryz.func84, Tryz.ntmps84
    go_wp2_with (first
      | (go_at_call 78; refine (turned_pos _ _ _ _ _ _ _ _ _ (by omega)).mono ?_; rintro e w2 ⟨rfl, hx2⟩; have hb2 : Below w.heap.size w w2 := Below.trans (by go_grown) (hx2.mono (by go_size)); clear hx2; have hsz2 : w.heap.size ≤ w2.heap.size := hb2.size)
      | (go_at_call 79; refine (asked_a _ _ v _ _ _ _ _ _ _ _ ?_ hm ?_).mono ?_; (exact hl.up (by go_grown)); (exact hK.out); rintro e w3 ⟨rfl, hx3⟩; have hb3 : Below w.heap.size w w3 := Below.trans (by go_grown) (hx3.mono (by go_size)); clear hx3; have hsz3 : w.heap.size ≤ w3.heap.size := hb3.size)
      | (go_at_call 113; refine (ivl_a _ _ _ _ _ _ ?_).mono ?_; (exact hq.out); rintro e w4 ⟨rfl, hx4⟩; have hb4 : Below w.heap.size w w4 := Below.trans (by go_grown) (hx4.mono (by go_size)); clear hx4; have hsz4 : w.heap.size ≤ w4.heap.size := hb4.size))
    go_ret3
    exact ⟨by rw [hR.out]; rfl, by go_grown⟩

/-- The four results of Common and Interval. -/
def comV (r : Int × Int × Bool) (e : Int) : Value := .tuple #[.int .i64 r.1, .int .i64 r.2.1, .bool r.2.2, .int .i64 e]
set_option maxHeartbeats 1000000 in
theorem com_a (A A' : Option Addr) (cp c' : Nat) (v : List (Int × Int)) (cs : List Pl.Crs) (dx : Int) (w : World) (hl : Vars w w.heap.size A v) (hm : v.length ≤ maxLen) (hcs : Crss w w.heap.size A' cs) (hm' : cs.length ≤ maxLen) :
    Calls Tryz.prog 40 #[.slice A v.length cp, .slice A' cs.length c', .int .i64 dx] w fun e w' => e = .returned (comV (Pl.com v cs dx) (Pl.comE v cs dx)) ∧ Below w.heap.size w w' := by
  have hmm := hm'
  unfold maxLen at hm'
  by_cases h40 : 40 < cs.length
  · have hE : Hid (Pl.comE v cs dx = 2) := by unfold Hid Pl.comE; rw [if_pos h40]
    have hR : Hid (Pl.com v cs dx = (0, 0, false)) := by unfold Hid Pl.com; rw [if_neg (by rw [hE.out]; decide)]
    go_enter Tryz.func40, Tryz.ntmps40
    go_wp2
    go_returns
    exact ⟨by rw [hE.out, hR.out]; rfl, by go_grown⟩
  by_cases h00 : cs.length = 0
  · have hE : Hid (Pl.comE v cs dx = 5) := by unfold Hid Pl.comE; rw [if_neg h40, if_pos h00]
    have hR : Hid (Pl.com v cs dx = (0, 0, false)) := by unfold Hid Pl.com; rw [if_neg (by rw [hE.out]; decide)]
    go_enter Tryz.func40, Tryz.ntmps40
    go_wp2
    go_returns
    exact ⟨by rw [hE.out, hR.out]; rfl, by go_grown⟩
  by_cases h1 : Pl.commonE v cs = 0
  · have h1' : (Pl.commonE v cs != 0) = false := by simp [h1]
    by_cases h2 : Pl.stepOk dx 0 = true
    · obtain ⟨j0, j1, j2, _⟩ := Pl.stepOk_iff h2
      have h2' : (Pl.err (Pl.stepOk dx 0) != 0) = false := by rw [h2]; rfl
      have hE : Hid (Pl.comE v cs dx = 0) := by unfold Hid Pl.comE; rw [if_neg h40, if_neg h00, if_neg (by simp [h1]), h2]; rfl
      have hR : Hid (Pl.com v cs dx = Pl.comGo v dx (-100000) 100000 cs) := by unfold Hid Pl.com; rw [if_pos hE.out]
      have hA := Lib.hid (Pl.commonE_all h1)
      clear h1 h2
      go_enter Tryz.func40, Tryz.ntmps40
      go_wp2_with (first
        | (go_at_call 76; refine (common_a _ _ _ _ v cs _ (hl.up (by go_grown)) hm (hcs.up (by go_grown)) hmm).mono ?_; rintro e w1 ⟨rfl, hx1⟩; have hb1 : Below w.heap.size w w1 := Below.trans (by go_grown) (hx1.mono (by go_size)); clear hx1; have hsz1 : w.heap.size ≤ w1.heap.size := hb1.size)
        | (go_at_call 77; refine (step_a _ _ _).mono ?_; rintro e w' ⟨rfl, rfl⟩))
      go_loopw [6, 7, 38] (fun a b i wr => ∃ (k : Nat) (lo hi : Int), k ≤ cs.length ∧ i = .int .i64 k ∧ a = .int .i64 lo ∧ b = .int .i64 hi ∧ Hid (Pl.com v cs dx = Pl.comGo v dx lo hi (cs.drop k)) ∧ Below w.heap.size w wr) (fun _ _ i _ => cs.length - (intOf i).toNat)
      case atStart => exact ⟨0, -100000, 100000, by omega, rfl, rfl, rfl, hR, by go_grown⟩
      case round =>
        obtain ⟨k, lo, hi, hk, rfl, rfl, rfl, hg, hb⟩ := hrel
        have hsz := hb.size
        by_cases hlt : k < cs.length
        · obtain ⟨b, off, rfl, hbB, q0, q1, q2, q3, q4, q5⟩ := Crss.at6 (hcs.below hb) hlt
          have hg2 := Lib.hid (Pl.comGo_drop (v := v) (dx := dx) (lo := lo) (hi := hi) hlt)
          go_wp2_with (go_at_call 84; refine (ivlC_a _ _ v _ _ _ _ _ _ _ cs[k] _ rfl (hl.up (by go_grown)) hm (Pl.all_mem hA.out.2.1 hlt) j0 j1 j2).mono ?_; rintro e w2 ⟨rfl, hx2⟩; have hb2 : Below w.heap.size w w2 := Below.trans (by go_grown) (hx2.mono (by go_size)); clear hx2; have hsz2 : w.heap.size ≤ w2.heap.size := hb2.size)
          all_goals first
            | (go_returns; exact ⟨by rw [hE.out, hg.out, hg2.out, if_pos (by clear hg hg2 hE hR hA q0 q1 q2 q3 q4 q5 hl hcs; grind)]; rfl, by go_grown⟩)
            | (go_roundw
               case rel => exact ⟨k + 1, max lo (Pl.ivlC v cs[k] dx).1, min hi (Pl.ivlC v cs[k] dx).2.1, by omega, by go_num, congrArg (Value.int .i64) (by clear hg hg2 hE hR hA q0 q1 q2 q3 q4 q5 hl hcs; grind), congrArg (Value.int .i64) (by clear hg hg2 hE hR hA q0 q1 q2 q3 q4 q5 hl hcs; grind), by unfold Hid; rw [hg.out, hg2.out, if_neg (by clear hg hg2 hE hR hA q0 q1 q2 q3 q4 q5 hl hcs; grind)], by go_grown⟩
               case measure => first | (simp [intOf]; done) | (simp [intOf]; omega))
        · obtain rfl : k = cs.length := by omega
          go_wp2
          go_returns
          exact ⟨by rw [hE.out, hg.out, List.drop_length]; rfl, by go_grown⟩
    · have h2' : (Pl.err (Pl.stepOk dx 0) != 0) = true := by simp only [Bool.not_eq_true] at h2; rw [h2]; rfl
      have hE : Hid (Pl.comE v cs dx = Pl.err (Pl.stepOk dx 0)) := by unfold Hid Pl.comE; rw [if_neg h40, if_neg h00, if_neg (by simp [h1])]
      have hR : Hid (Pl.com v cs dx = (0, 0, false)) := by unfold Hid Pl.com; rw [if_neg (by rw [hE.out]; simpa using h2')]
      clear h1 h2
      go_enter Tryz.func40, Tryz.ntmps40
      go_wp2_with (first
        | (go_at_call 76; refine (common_a _ _ _ _ v cs _ (hl.up (by go_grown)) hm (hcs.up (by go_grown)) hmm).mono ?_; rintro e w1 ⟨rfl, hx1⟩; have hb1 : Below w.heap.size w w1 := Below.trans (by go_grown) (hx1.mono (by go_size)); clear hx1; have hsz1 : w.heap.size ≤ w1.heap.size := hb1.size)
        | (go_at_call 77; refine (step_a _ _ _).mono ?_; rintro e w' ⟨rfl, rfl⟩))
      go_returns
      exact ⟨by rw [hE.out, hR.out]; rfl, by go_grown⟩
  · have h1' : (Pl.commonE v cs != 0) = true := by simp [h1]
    have hE : Hid (Pl.comE v cs dx = Pl.commonE v cs) := by unfold Hid Pl.comE; rw [if_neg h40, if_neg h00, if_pos h1]
    have hR : Hid (Pl.com v cs dx = (0, 0, false)) := by unfold Hid Pl.com; rw [if_neg (by rw [hE.out]; exact h1)]
    clear h1
    go_enter Tryz.func40, Tryz.ntmps40
    go_wp2_with (go_at_call 76; refine (common_a _ _ _ _ v cs _ (hl.up (by go_grown)) hm (hcs.up (by go_grown)) hmm).mono ?_; rintro e w1 ⟨rfl, hx1⟩; have hb1 : Below w.heap.size w w1 := Below.trans (by go_grown) (hx1.mono (by go_size)); clear hx1; have hsz1 : w.heap.size ≤ w1.heap.size := hb1.size)
    go_returns
    exact ⟨by rw [hE.out, hR.out]; rfl, by go_grown⟩
end Go.Proofs.YthncpapejijloaaGreatDoor

namespace Go.Proofs.YthncpapejijloaaGreatDoor
open Go.RowKit

theorem com1_a (A : Option Addr) (cp c' b : Nat) (v : List (Int × Int)) (c : Pl.Crs) (dx : Int) (w : World) (hl : Vars w w.heap.size A v) (hm : v.length ≤ maxLen) (h : w.heap[b]? = some (.cells #[.int .i64 c.b, .int .i64 c.n, .int .i64 c.l, .int .i64 c.y, .int .i64 c.x, .int .i64 c.s] 29 (0, 0))) :
    Calls Tryz.prog 40 #[.slice A v.length cp, .slice (some ⟨b, 0, none⟩) 1 c', .int .i64 dx] w fun e w' => e = .returned (.tuple #[.int .i64 (Pl.com v [c] dx).1, .int .i64 (Pl.com v [c] dx).2.1, .bool (Pl.com v [c] dx).2.2, .int .i64 (Pl.comE v [c] dx)]) ∧ Below w.heap.size w w' := by
  have hb : b < w.heap.size := (Array.getElem?_eq_some_iff.1 h).1
  exact com_a A (some ⟨b, 0, none⟩) cp c' v [c] dx w hl hm (Crss.single c hb h) (by simp [maxLen])
theorem Interval_a (A : Option Addr) (cp : Nat) (v : List (Int × Int)) (c : Pl.Crs) (dx : Int) (w : World) (hl : Vars w w.heap.size A v) (hm : v.length ≤ maxLen) :
    Calls Tryz.prog 36 #[.slice A v.length cp, .agg #[.int .i64 c.b, .int .i64 c.n, .int .i64 c.l, .int .i64 c.y, .int .i64 c.x, .int .i64 c.s], .int .i64 dx] w fun e w' => e = .returned (.tuple #[.int .i64 (Pl.com v [c] dx).1, .int .i64 (Pl.com v [c] dx).2.1, .bool (Pl.com v [c] dx).2.2, .int .i64 (Pl.comE v [c] dx)]) ∧ Below w.heap.size w w' := by
  go_enter Tryz.func36, Tryz.ntmps36
  go_wp2_with (go_at_call 40; refine (com1_a _ _ _ _ v c _ _ ?_ hm ?_).mono ?_; (exact hl.up (by go_grown)); (exact heap_at (by simp)); rintro e w1 ⟨rfl, hx1⟩; have hb1 : Below w.heap.size w w1 := Below.trans (by go_grown) (hx1.mono (by go_size)); clear hx1; have hsz1 : w.heap.size ≤ w1.heap.size := hb1.size)
  go_returns
  exact ⟨rfl, by go_grown⟩
theorem Reverse_ok (c : Pl.Crs) (w : World) (h : c.ok = true) : Calls Tryz.prog 42 #[.agg #[.int .i64 c.b, .int .i64 c.n, .int .i64 c.l, .int .i64 c.y, .int .i64 c.x, .int .i64 c.s]] w fun e w' => e = .returned (.tuple #[.agg #[.int .i64 ((c.b + 180) % 360), .int .i64 c.n, .int .i64 c.l, .int .i64 c.y, .int .i64 c.x, .int .i64 c.s], .int .i64 0]) ∧ Below w.heap.size w w' := by
  obtain ⟨⟨g0, g1⟩, _⟩ := c.ok_iff h
  have he : (Pl.err (Pl.courseOk c.b c.n c.l c.y c.x c.s) != 0) = false := by unfold Pl.Crs.ok at h; rw [h]; rfl
  have H := Lib.hid h; clear h
  go_enter Tryz.func42, Tryz.ntmps42
  go_wp2_with (first
    | (go_at_call 43; refine (course_a _ _ _ _ _ _ _).mono ?_; rintro e w1 ⟨rfl, hx1⟩; have kb1a : w1.heap[w.heap.size]? = some (.cells _ _ (0, 0)) := (hx1.block _ (by first | omega | (simp; done) | (simp; omega))).trans (heap_alloc2_old _ _ _); obtain ⟨hc1a, hf1a⟩ := blk_cells kb1a; have kb1b : w1.heap[w.heap.size + 1]? = some (.cells _ _ (0, 0)) := (hx1.block _ (by first | omega | (simp; done) | (simp; omega))).trans (heap_alloc2_new _ _ _); obtain ⟨hc1b, hf1b⟩ := blk_cells kb1b; have hsz1 := hx1.size; (try simp at hsz1); have hb1 : Below w.heap.size w w1 := Below.trans (by go_grown) (hx1.mono (by go_size)); have hsz1w : w.heap.size ≤ w1.heap.size := hb1.size; clear hx1)
    | (go_at_call 85; refine (back_a _ _ _ _ _ _ _ (by omega) (by omega)).mono ?_; rintro e w2 ⟨rfl, hx2⟩; have kb2a : w2.heap[w.heap.size + 1]? = some (.cells _ _ (0, 0)) := (hx2.block _ (by first | omega | (simp; done) | (simp; omega))).trans (kb1b); obtain ⟨hc2a, hf2a⟩ := blk_cells kb2a; have hsz2 := hx2.size; (try simp at hsz2); have hb2 : Below w.heap.size w w2 := Below.trans (by go_grown) (hx2.mono (by go_size)); have hsz2w : w.heap.size ≤ w2.heap.size := hb2.size; clear hx2))
  refine bodyPost_ret (v := .tuple #[.agg #[.int .i64 ((c.b + 180) % 360), .int .i64 c.n, .int .i64 c.l, .int .i64 c.y, .int .i64 c.x, .int .i64 c.s], .int .i64 0]) (by simp [results, Tryz.results42, go_sem, hc2a]) rfl ⟨rfl, by go_grown⟩
theorem Reverse_no (c : Pl.Crs) (w : World) (h : c.ok = false) : Calls Tryz.prog 42 #[.agg #[.int .i64 c.b, .int .i64 c.n, .int .i64 c.l, .int .i64 c.y, .int .i64 c.x, .int .i64 c.s]] w fun e w' => e = .returned (.tuple #[.agg #[.int .i64 0, .int .i64 0, .int .i64 0, .int .i64 0, .int .i64 0, .int .i64 0], .int .i64 1]) ∧ Below w.heap.size w w' := by
  have he : (Pl.err (Pl.courseOk c.b c.n c.l c.y c.x c.s) != 0) = true := by unfold Pl.Crs.ok at h; rw [h]; rfl
  have he1 : Hid (Pl.err (Pl.courseOk c.b c.n c.l c.y c.x c.s) = 1) := by unfold Pl.Crs.ok at h; rw [h]; rfl
  clear h
  go_enter Tryz.func42, Tryz.ntmps42
  go_wp2_with (first
    | (go_at_call 43; refine (course_a _ _ _ _ _ _ _).mono ?_; rintro e w1 ⟨rfl, hx1⟩; have kb1a : w1.heap[w.heap.size]? = some (.cells _ _ (0, 0)) := (hx1.block _ (by first | omega | (simp; done) | (simp; omega))).trans (heap_alloc2_old _ _ _); obtain ⟨hc1a, hf1a⟩ := blk_cells kb1a; have kb1b : w1.heap[w.heap.size + 1]? = some (.cells _ _ (0, 0)) := (hx1.block _ (by first | omega | (simp; done) | (simp; omega))).trans (heap_alloc2_new _ _ _); obtain ⟨hc1b, hf1b⟩ := blk_cells kb1b; have hsz1 := hx1.size; (try simp at hsz1); have hb1 : Below w.heap.size w w1 := Below.trans (by go_grown) (hx1.mono (by go_size)); have hsz1w : w.heap.size ≤ w1.heap.size := hb1.size; clear hx1))
  refine bodyPost_ret (v := .tuple #[.agg #[.int .i64 0, .int .i64 0, .int .i64 0, .int .i64 0, .int .i64 0, .int .i64 0], .int .i64 (Pl.err (Pl.courseOk c.b c.n c.l c.y c.x c.s))]) (by simp [results, Tryz.results42, go_sem, hc1b]) rfl ⟨by rw [he1.out], by go_grown⟩
set_option maxHeartbeats 1000000 in
theorem Needed_a (A : Option Addr) (cp : Nat) (v : List (Int × Int)) (c : Pl.Crs) (dx dy : Int) (w : World) (hl : Vars w w.heap.size A v) (hm : v.length ≤ maxLen) :
    Calls Tryz.prog 38 #[.slice A v.length cp, .agg #[.int .i64 c.b, .int .i64 c.n, .int .i64 c.l, .int .i64 c.y, .int .i64 c.x, .int .i64 c.s], .int .i64 dx, .int .i64 dy] w fun e w' => e = .returned (.tuple #[.int .i64 (Pl.need v c dx dy).1, .bool (Pl.need v c dx dy).2, .int .i64 (Pl.stepE v c dx dy)]) ∧ Below w.heap.size w w' := by
  by_cases h1 : Pl.stepE v c dx dy = 0
  · have h1' : (Pl.stepE v c dx dy != 0) = false := by simp [h1]
    have H1 := Lib.hid h1
    have hR : Hid (Pl.need v c dx dy = Pl.needGo v c dx dy 31 0) := by unfold Hid Pl.need; rw [if_pos h1]
    clear h1
    go_enter Tryz.func38, Tryz.ntmps38
    go_wp2_with (go_at_call 33; refine (Misfit_a _ _ v c _ _ _ (hl.up (by go_grown)) hm).mono ?_; rintro e w1 ⟨rfl, hx1⟩; have kb1a : w1.heap[w.heap.size]? = some (.cells _ _ (0, 0)) := (hx1.block _ (by first | omega | (simp; done) | (simp; omega))).trans (heap_alloc_new _ _); obtain ⟨hc1a, hf1a⟩ := blk_cells kb1a; have hsz1 := hx1.size; (try simp at hsz1); have hb1 : Below w.heap.size w w1 := Below.trans (by go_grown) (hx1.mono (by go_size)); have hsz1w : w.heap.size ≤ w1.heap.size := hb1.size; clear hx1)
    go_loopw [27] (fun i wr => ∃ (k : Nat) (m : Int), k ≤ 31 ∧ i = .int .i64 k ∧ wr.heap[w.heap.size]? = some (.cells #[.int .i64 c.b, .int .i64 m, .int .i64 c.l, .int .i64 c.y, .int .i64 c.x, .int .i64 c.s] 29 (0, 0)) ∧ Hid (Pl.need v c dx dy = Pl.needGo v c dx dy (31 - k) k) ∧ Below w.heap.size w wr) (fun i _ => 31 - (intOf i).toNat)
    case atStart => exact ⟨0, c.n, by omega, rfl, kb1a, hR, by go_grown⟩
    case round =>
      obtain ⟨k, m, hk, rfl, kb, hg, hb⟩ := hrel
      have hsz := hb.size
      obtain ⟨hc7, hf7⟩ := blk_cells kb
      have hB := Lib.hid kb; clear kb
      have hlt := (Array.getElem?_eq_some_iff.1 hB.out).1
      by_cases h31 : k < 31
      · have hS := Lib.hid (heap_setCell_same wr w.heap.size 1 _ _ (.int .i64 (k : Int)) hB.out)
        have hstep : Hid (Pl.needGo v c dx dy (31 - k) k = if Pl.fits v (c.withN k) dx dy then ((k : Int), true) else Pl.needGo v c dx dy (31 - (k + 1)) (k + 1)) := by
          unfold Hid; rw [show 31 - k = (31 - (k + 1)) + 1 by omega]; rfl
        by_cases hfit : Pl.fits v (c.withN k) dx dy = true
        · have hfit2 : (Pl.stepE v (c.withN k) dx dy = 0 ∧ Pl.fitR v (c.withN k) dx dy = 0) := by unfold Pl.fits at hfit; simpa using hfit
          have hD : Hid (decide (Pl.stepE v (c.withN k) dx dy = 0 ∧ Pl.fitR v (c.withN k) dx dy = 0) = true) := by unfold Hid; simpa using hfit2
          have HF := Lib.hid hfit; clear hfit hfit2
          go_wp2_with (go_at_call 35; refine (Fits_a _ _ v (c.withN k) _ _ _ (hl.up (by go_grown)) hm).mono ?_; rintro e w1 ⟨rfl, hx1⟩; rw [hD.out]; have hb1 : Below w.heap.size w w1 := Below.trans (by go_grown) (hx1.mono (by go_size)); clear hx1)
          go_ret3
          exact ⟨by rw [hg.out, hstep.out, HF.out, H1.out]; rfl, by go_grown⟩
        · have hfit2 : ¬ (Pl.stepE v (c.withN k) dx dy = 0 ∧ Pl.fitR v (c.withN k) dx dy = 0) := by unfold Pl.fits at hfit; simpa using hfit
          have hD : Hid (decide (Pl.stepE v (c.withN k) dx dy = 0 ∧ Pl.fitR v (c.withN k) dx dy = 0) = false) := by unfold Hid; exact decide_eq_false hfit2
          have HF := Lib.hid hfit; clear hfit hfit2
          go_wp2_with (go_at_call 35; refine (Fits_a _ _ v (c.withN k) _ _ _ (hl.up (by go_grown)) hm).mono ?_; rintro e w1 ⟨rfl, hx1⟩; rw [hD.out]; have kb1 := Lib.hid ((hx1.block _ (by go_size)).trans hS.out); have hb1 : Below w.heap.size w w1 := Below.trans (by go_grown) (hx1.mono (by go_size)); clear hx1)
          go_roundw
          case rel => exact ⟨k + 1, k, by omega, by go_num, kb1.out, by unfold Hid; rw [hg.out, hstep.out, if_neg HF.out], by go_grown⟩
          case measure => first | (simp [intOf]; done) | (simp [intOf]; omega)
      · obtain rfl : k = 31 := by omega
        go_wp2
        go_ret3
        exact ⟨by rw [hg.out, H1.out]; rfl, by go_grown⟩
  · have h1' : (Pl.stepE v c dx dy != 0) = true := by simp [h1]
    have hR : Hid (Pl.need v c dx dy = (0, false)) := by unfold Hid Pl.need; rw [if_neg h1]
    clear h1
    go_enter Tryz.func38, Tryz.ntmps38
    go_wp2_with (go_at_call 33; refine (Misfit_a _ _ v c _ _ _ (hl.up (by go_grown)) hm).mono ?_; rintro e w1 ⟨rfl, hx1⟩; have hb1 : Below w.heap.size w w1 := Below.trans (by go_grown) (hx1.mono (by go_size)); clear hx1; have hsz1 : w.heap.size ≤ w1.heap.size := hb1.size)
    go_ret3
    exact ⟨by rw [hR.out]; rfl, by go_grown⟩
end Go.Proofs.YthncpapejijloaaGreatDoor
