/- Walks: Bounds and Sector of both; fractions, True of both. -/
import Derived.Test.YthncpapejijloaaGreatDoorProg
import Derived.WalkKit
import Derived.WalkLawsBesides
import Derived.WalkSpells
import Derived.Handy
import Derived.Lib.Hide
import Derived.Great.BuildSlice
import Derived.Deep.QuietTactic
import Derived.BigQuiet
import Derived.Deep.RegionHeld3
import Derived.Deep.DeepCutAuto
import Derived.Test.YthncpapejijloaaGreatDoorBC
import Derived.Test.YthncpapejijloaaGreatDoorLx
namespace Go.Proofs.YthncpapejijloaaGreatDoor
open Go.RowKit

theorem IntervalB_h     (A : Option Addr) (cp : Nat) (v : List (Int × Int)) (c : Pl.Crs) (dx lo hi E : Int) (ok : Bool) (w : World) (hC : Hid (Pl.com v [c] dx = (lo, hi, ok))) (hE : Hid (Pl.comE v [c] dx = E)) (hl : Vars w w.heap.size A v) (hm : v.length ≤ maxLen) :
    Calls Tryz.prog 37 #[.slice A v.length cp, .agg #[.int .i64 c.b, .int .i64 c.n, .int .i64 c.l, .int .i64 c.y, .int .i64 c.x, .int .i64 c.s], .int .i64 dx] w fun e w' => e = .returned (.tuple #[.int .i64 lo, .int .i64 hi, .bool ok, .int .i64 E]) ∧ Below w.heap.size w w' := by
  have h := Interval_b A cp v c dx w hl hm
  rw [hC.out, hE.out] at h
  exact h
/-- What Bounds hands back: two bounds in a block of its own. -/
def BndPost (p q hi lo r : Int) (w : World) (e : Ending) (w' : World) : Prop :=
  ∃ g, e = .returned (.tuple #[.slice (some ⟨g, 0, none⟩) 2 2, .int .i64 0]) ∧ w'.heap[g]? = some (.cells #[.int .i64 p, .int .i64 q, .int .i64 hi, .int .i64 r, .int .i64 q, .int .i64 p, .int .i64 (-lo), .int .i64 r] 60 (0, 0)) ∧ w.heap.size ≤ g ∧ Below w.heap.size w w'
theorem Bounds_yes_a     (A : Option Addr) (cp : Nat) (v : List (Int × Int)) (c : Pl.Crs) (dx p q r lo hi : Int) (w : World) (hC : Hid (Pl.com v [c] dx = (lo, hi, true))) (hE : Hid (Pl.comE v [c] dx = 0)) (h0 : -100000 ≤ lo) (h1 : lo ≤ 100000) (hl : Vars w w.heap.size A v) (hm : v.length ≤ maxLen) :
    Calls Tryz.prog 55 #[.slice A v.length cp, .agg #[.int .i64 c.b, .int .i64 c.n, .int .i64 c.l, .int .i64 c.y, .int .i64 c.x, .int .i64 c.s], .int .i64 dx, .int .i64 p, .int .i64 q, .int .i64 r] w (BndPost p q hi lo r w) := by
  go_enter Tryz.func55, Tryz.ntmps55
  go_wp2_with (go_at_call 36; refine (Interval_h _ _ v c _ _ _ _ _ _ hC hE (hl.up (by go_grown)) hm).mono ?_; rintro e w1 ⟨rfl, hx1⟩; have hb1 : Below w.heap.size w w1 := Below.trans (by go_grown) (hx1.mono (by go_size)); clear hx1; have hsz1 : w.heap.size ≤ w1.heap.size := hb1.size)
  go_ret2
  exact ⟨w1.heap.size, rfl, heap_alloc_new _ _, hsz1, by go_grown⟩
theorem Bounds_err_a     (A : Option Addr) (cp : Nat) (v : List (Int × Int)) (c : Pl.Crs) (dx p q r E : Int) (w : World) (hC : Hid (Pl.com v [c] dx = (0, 0, false))) (hE : Hid (Pl.comE v [c] dx = E)) (hn : E ≠ 0) (hl : Vars w w.heap.size A v) (hm : v.length ≤ maxLen) :
    Calls Tryz.prog 55 #[.slice A v.length cp, .agg #[.int .i64 c.b, .int .i64 c.n, .int .i64 c.l, .int .i64 c.y, .int .i64 c.x, .int .i64 c.s], .int .i64 dx, .int .i64 p, .int .i64 q, .int .i64 r] w fun e w' => e = .returned (.tuple #[.slice none 0 0, .int .i64 E]) ∧ Below w.heap.size w w' := by
  have hn' : (E != 0) = true := by simpa using hn
  clear hn
  go_enter Tryz.func55, Tryz.ntmps55
  go_wp2_with (go_at_call 36; refine (Interval_h _ _ v c _ _ _ _ _ _ hC hE (hl.up (by go_grown)) hm).mono ?_; rintro e w1 ⟨rfl, hx1⟩; have hb1 : Below w.heap.size w w1 := Below.trans (by go_grown) (hx1.mono (by go_size)); clear hx1; have hsz1 : w.heap.size ≤ w1.heap.size := hb1.size)
  go_ret2
  exact ⟨rfl, by go_grown⟩
theorem Bounds_none_a     (A : Option Addr) (cp : Nat) (v : List (Int × Int)) (c : Pl.Crs) (dx p q r lo hi : Int) (w : World) (hC : Hid (Pl.com v [c] dx = (lo, hi, false))) (hE : Hid (Pl.comE v [c] dx = 0)) (hl : Vars w w.heap.size A v) (hm : v.length ≤ maxLen) :
    Calls Tryz.prog 55 #[.slice A v.length cp, .agg #[.int .i64 c.b, .int .i64 c.n, .int .i64 c.l, .int .i64 c.y, .int .i64 c.x, .int .i64 c.s], .int .i64 dx, .int .i64 p, .int .i64 q, .int .i64 r] w fun e w' => e = .returned (.tuple #[.slice none 0 0, .int .i64 5]) ∧ Below w.heap.size w w' := by
  go_enter Tryz.func55, Tryz.ntmps55
  go_wp2_with (go_at_call 36; refine (Interval_h _ _ v c _ _ _ _ _ _ hC hE (hl.up (by go_grown)) hm).mono ?_; rintro e w1 ⟨rfl, hx1⟩; have hb1 : Below w.heap.size w w1 := Below.trans (by go_grown) (hx1.mono (by go_size)); clear hx1; have hsz1 : w.heap.size ≤ w1.heap.size := hb1.size)
  go_ret2
  exact ⟨rfl, by go_grown⟩
theorem Bounds_yes_b     (A : Option Addr) (cp : Nat) (v : List (Int × Int)) (c : Pl.Crs) (dx p q r lo hi : Int) (w : World) (hC : Hid (Pl.com v [c] dx = (lo, hi, true))) (hE : Hid (Pl.comE v [c] dx = 0)) (h0 : -100000 ≤ lo) (h1 : lo ≤ 100000) (hl : Vars w w.heap.size A v) (hm : v.length ≤ maxLen) :
    Calls Tryz.prog 56 #[.slice A v.length cp, .agg #[.int .i64 c.b, .int .i64 c.n, .int .i64 c.l, .int .i64 c.y, .int .i64 c.x, .int .i64 c.s], .int .i64 dx, .int .i64 p, .int .i64 q, .int .i64 r] w (BndPost p q hi lo r w) := by
  go_enter Tryz.func56, Tryz.ntmps56
  go_wp2_with (go_at_call 37; refine (IntervalB_h _ _ v c _ _ _ _ _ _ hC hE (hl.up (by go_grown)) hm).mono ?_; rintro e w1 ⟨rfl, hx1⟩; have hb1 : Below w.heap.size w w1 := Below.trans (by go_grown) (hx1.mono (by go_size)); clear hx1; have hsz1 : w.heap.size ≤ w1.heap.size := hb1.size)
  go_ret2
  exact ⟨w1.heap.size, rfl, heap_alloc_new _ _, hsz1, by go_grown⟩
theorem Bounds_err_b     (A : Option Addr) (cp : Nat) (v : List (Int × Int)) (c : Pl.Crs) (dx p q r E : Int) (w : World) (hC : Hid (Pl.com v [c] dx = (0, 0, false))) (hE : Hid (Pl.comE v [c] dx = E)) (hn : E ≠ 0) (hl : Vars w w.heap.size A v) (hm : v.length ≤ maxLen) :
    Calls Tryz.prog 56 #[.slice A v.length cp, .agg #[.int .i64 c.b, .int .i64 c.n, .int .i64 c.l, .int .i64 c.y, .int .i64 c.x, .int .i64 c.s], .int .i64 dx, .int .i64 p, .int .i64 q, .int .i64 r] w fun e w' => e = .returned (.tuple #[.slice none 0 0, .int .i64 E]) ∧ Below w.heap.size w w' := by
  have hn' : (E != 0) = true := by simpa using hn
  clear hn
  go_enter Tryz.func56, Tryz.ntmps56
  go_wp2_with (go_at_call 37; refine (IntervalB_h _ _ v c _ _ _ _ _ _ hC hE (hl.up (by go_grown)) hm).mono ?_; rintro e w1 ⟨rfl, hx1⟩; have hb1 : Below w.heap.size w w1 := Below.trans (by go_grown) (hx1.mono (by go_size)); clear hx1; have hsz1 : w.heap.size ≤ w1.heap.size := hb1.size)
  go_ret2
  exact ⟨rfl, by go_grown⟩
theorem Bounds_none_b     (A : Option Addr) (cp : Nat) (v : List (Int × Int)) (c : Pl.Crs) (dx p q r lo hi : Int) (w : World) (hC : Hid (Pl.com v [c] dx = (lo, hi, false))) (hE : Hid (Pl.comE v [c] dx = 0)) (hl : Vars w w.heap.size A v) (hm : v.length ≤ maxLen) :
    Calls Tryz.prog 56 #[.slice A v.length cp, .agg #[.int .i64 c.b, .int .i64 c.n, .int .i64 c.l, .int .i64 c.y, .int .i64 c.x, .int .i64 c.s], .int .i64 dx, .int .i64 p, .int .i64 q, .int .i64 r] w fun e w' => e = .returned (.tuple #[.slice none 0 0, .int .i64 5]) ∧ Below w.heap.size w w' := by
  go_enter Tryz.func56, Tryz.ntmps56
  go_wp2_with (go_at_call 37; refine (IntervalB_h _ _ v c _ _ _ _ _ _ hC hE (hl.up (by go_grown)) hm).mono ?_; rintro e w1 ⟨rfl, hx1⟩; have hb1 : Below w.heap.size w w1 := Below.trans (by go_grown) (hx1.mono (by go_size)); clear hx1; have hsz1 : w.heap.size ≤ w1.heap.size := hb1.size)
  go_ret2
  exact ⟨rfl, by go_grown⟩
theorem Sector_a (A : Option Addr) (cp : Nat) (v : List (Int × Int)) (c : Pl.Crs) (w : World) (hl : Vars w w.heap.size A v) (hm : v.length ≤ maxLen) :
    Calls Tryz.prog 65 #[.slice A v.length cp, .agg #[.int .i64 c.b, .int .i64 c.n, .int .i64 c.l, .int .i64 c.y, .int .i64 c.x, .int .i64 c.s]] w fun e w' => e = .returned (.tuple #[.int .i64 (Pl.secR v c).1, .int .i64 (Pl.secR v c).2, .int .i64 (Pl.commonE v [c])]) ∧ Below w.heap.size w w' := by
  by_cases h1 : Pl.commonE v [c] = 0
  · have h1' : (Pl.commonE v [c] != 0) = false := by simp [h1]
    obtain ⟨k0, k1, k2⟩ := Pl.commonE_one h1
    obtain ⟨⟨g0, g1⟩, ⟨g2, g3⟩, _⟩ := c.ok_iff k1
    have hR : Hid (Pl.secR v c = (Pl.mid c.b (Pl.decl v c.y).1 - c.n, Pl.mid c.b (Pl.decl v c.y).1 + c.n)) := by unfold Hid Pl.secR; rw [if_pos h1]; rfl
    have H1 := Lib.hid h1
    clear h1 k0 k1 k2
    go_enter Tryz.func65, Tryz.ntmps65
    go_wp2_with (first
      | (go_at_call 76; refine (common1_a _ _ _ _ v c _ ?_ hm ?_).mono ?_; (exact hl.up (by go_grown)); (exact heap_at (by simp)); rintro e w1 ⟨rfl, hx1⟩; have kb1a : w1.heap[w.heap.size]? = some (.cells _ _ (0, 0)) := (hx1.block _ (by first | omega | (simp; done) | (simp; omega))).trans (heap_alloc2_old _ _ _); obtain ⟨hc1a, hf1a⟩ := blk_cells kb1a; have hsz1 := hx1.size; (try simp at hsz1); have hb1 : Below w.heap.size w w1 := Below.trans (by go_grown) (hx1.mono (by go_size)); have hsz1w : w.heap.size ≤ w1.heap.size := hb1.size; clear hx1)
      | (go_at_call 103; refine (sector_a _ _ v _ _ _ _ _ _ _ (hl.up (by go_grown)) hm g0 g1 g2 g3).mono ?_; rintro e w3 ⟨rfl, hx3⟩; have hb3 : Below w.heap.size w w3 := Below.trans (by go_grown) (hx3.mono (by go_size)); clear hx3; have hsz3 : w.heap.size ≤ w3.heap.size := hb3.size))
    go_ret3
    exact ⟨by rw [H1.out, hR.out]; try rfl, by go_grown⟩
  · have h1' : (Pl.commonE v [c] != 0) = true := by simp [h1]
    have hR : Hid (Pl.secR v c = (0, 0)) := by unfold Hid Pl.secR; rw [if_neg h1]
    clear h1
    go_enter Tryz.func65, Tryz.ntmps65
    go_wp2_with (first
      | (go_at_call 76; refine (common1_a _ _ _ _ v c _ ?_ hm ?_).mono ?_; (exact hl.up (by go_grown)); (exact heap_at (by simp)); rintro e w1 ⟨rfl, hx1⟩; have kb1a : w1.heap[w.heap.size]? = some (.cells _ _ (0, 0)) := (hx1.block _ (by first | omega | (simp; done) | (simp; omega))).trans (heap_alloc2_old _ _ _); obtain ⟨hc1a, hf1a⟩ := blk_cells kb1a; have hsz1 := hx1.size; (try simp at hsz1); have hb1 : Below w.heap.size w w1 := Below.trans (by go_grown) (hx1.mono (by go_size)); have hsz1w : w.heap.size ≤ w1.heap.size := hb1.size; clear hx1))
    go_ret3
    exact ⟨by rw [hR.out]; try rfl, by go_grown⟩

/-! ### Fractions -/
theorem gcd_step (x y : Nat) : Nat.gcd y (x % y) = Nat.gcd x y := by
  rw [Nat.gcd_comm y (x % y), ← Nat.gcd_rec, Nat.gcd_comm]
theorem divisor_a (x y : Nat) (w : World) (hx : x ≤ 2000000000) (hy : y ≤ 2000000000) :
    Calls Tryz.prog 100 #[.int .i64 x, .int .i64 y] w fun e w' => e = .returned (.int .i64 (Nat.gcd x y : Nat)) ∧ Below w.heap.size w w' := by
  go_enter Tryz.func100, Tryz.ntmps100
  go_wp2
  go_loopw [0, 1] (fun a b wr => ∃ p q : Nat, p ≤ 2000000000 ∧ q ≤ 2000000000 ∧ a = .int .i64 p ∧ b = .int .i64 q ∧ Hid (Nat.gcd p q = Nat.gcd x y) ∧ Below w.heap.size w wr) (fun _ b _ => (intOf b).toNat)
  case atStart => exact ⟨x, y, hx, hy, rfl, rfl, rfl, by go_grown⟩
  case round =>
    obtain ⟨p, q, hp, hq, rfl, rfl, hg, hb⟩ := hrel
    have hsz := hb.size
    by_cases h0 : q = 0
    · subst h0
      go_wp2
      go_ret
      exact ⟨by rw [← hg.out]; simp, by go_grown⟩
    · have hmod : p % q < q := Nat.mod_lt _ (by omega)
      have hn : ¬ ((q : Int) = 0) := by omega
      have hq1 : 1 ≤ q := by omega
      go_wp2
      all_goals (refine wp_region_quiet_lit (by kernel_rfl) (by kernel_rfl) ?_)
      repeat (any_goals (first | go_big_quiet_step (fail) | quiet_step (fail) | (refine wpQuiet_step (fun K hK => ?_); go_simp; split <;> (refine hK _ ?_; clear hK K))))
      all_goals (refine wpQuiet_nil ?_; intro wq hw'; obtain ⟨nq, hw''⟩ := hw'; have hbq : Below w.heap.size w wq := by rw [hw'']; exact below_drewN (by go_grown) nq)
      all_goals subst hw''
      all_goals go_wp2
      go_roundw
      case rel => exact ⟨q, p % q, hq, by omega, rfl, by simp, by unfold Hid; rw [gcd_step]; exact hg.out, by go_grown⟩
      case measure => simp [intOf]; omega
end Go.Proofs.YthncpapejijloaaGreatDoor
