/- Walks: fractions, True of both. -/
import Derived.Test.YthncpapejijloaaGreatDoorProg
import Derived.WalkKit
import Derived.WalkLawsBesides
import Derived.WalkSpells
import Derived.Handy
import Derived.Lib.Hide
import Derived.Great.BuildSlice
import Derived.Deep.QuietTactic
import Derived.BigQuiet
import Derived.Deep.RegionHeld3
import Derived.Deep.DeepCutAuto
import Derived.Test.YthncpapejijloaaGreatDoorBD
namespace Go.Proofs.YthncpapejijloaaGreatDoor
open Go.RowKit

/-- A length over 10000, in lowest terms. -/
def fr1 (m : Nat) : Int := (m : Int) / (Nat.gcd m 10000 : Nat)
def fr2 (m : Nat) : Int := 10000 / (Nat.gcd m 10000 : Nat)
theorem gcd_bd (m : Nat) : 1 ≤ Nat.gcd m 10000 ∧ Nat.gcd m 10000 ≤ 10000 := ⟨Nat.gcd_pos_of_pos_right _ (by omega), Nat.gcd_le_right _ (by omega)⟩
theorem divisor_h (m : Nat) (d : Nat) (w : World) (hm : m ≤ 2000000000) (h : Hid (Nat.gcd m 10000 = d)) :
    Calls Tryz.prog 100 #[.int .i64 m, .int .i64 10000] w fun e w' => e = .returned (.int .i64 (d : Nat)) ∧ Below w.heap.size w w' := by
  have := divisor_a m 10000 w hm (by omega)
  rw [h.out] at this
  exact this
set_option maxRecDepth 100000 in
set_option maxHeartbeats 1000000 in
theorem true1_a (m : Nat) (w : World) (h0 : 1 ≤ m) (h1 : m ≤ 2000000000) : Calls Tryz.prog 99 #[.int .i64 m] w fun e w' => e = .returned (.agg #[.int .i64 (fr1 m), .int .i64 (fr2 m)]) ∧ Below w.heap.size w w' := by
  obtain ⟨d0, d1⟩ := gcd_bd m
  obtain ⟨d, hd⟩ : ∃ d, Nat.gcd m 10000 = d := ⟨_, rfl⟩
  rw [hd] at d0 d1
  have HD := Lib.hid hd
  have F1 : Hid (fr1 m = (m : Int) / (d : Int)) := by unfold Hid fr1; rw [hd]
  have F2 : Hid (fr2 m = 10000 / (d : Int)) := by unfold Hid fr2; rw [hd]
  clear hd
  have q0 : 0 ≤ (m : Int) / (d : Int) := Int.ediv_nonneg (by omega) (by omega)
  have q1 : (m : Int) / (d : Int) ≤ (m : Int) := Int.ediv_le_self _ (by omega)
  have q2 : 0 ≤ 10000 / (d : Int) := Int.ediv_nonneg (by omega) (by omega)
  have q3 : 10000 / (d : Int) ≤ 10000 := Int.ediv_le_self _ (by omega)
  have hn : ¬ ((d : Int) = 0) := by omega
  go_enter Tryz.func99, Tryz.ntmps99
  go_wp2_with (go_at_call 100; refine (divisor_h m d _ h1 HD).mono ?_; rintro e w1 ⟨rfl, hx1⟩; have kb1a : w1.heap[w.heap.size]? = some (.cells _ _ (0, 0)) := (hx1.block _ (by first | omega | (simp; done) | (simp; omega))).trans (heap_alloc_new _ _); obtain ⟨hc1a, hf1a⟩ := blk_cells kb1a; have hsz1 := hx1.size; (try simp at hsz1); have hb1 : Below w.heap.size w w1 := Below.trans (by go_grown) (hx1.mono (by go_size)); have hsz1w : w.heap.size ≤ w1.heap.size := hb1.size; clear hx1)
  obtain ⟨hc1a, hf1a⟩ := blk_cells kb1a
  go_region
  go_wp2
  refine bodyPost_ret (v := .agg #[.int .i64 ((m : Int) / (d : Int)), .int .i64 (10000 / (d : Int))]) (by simp [results, Tryz.results99, go_sem, hc1a]) rfl ⟨by rw [F1.out, F2.out], by go_grown⟩
set_option maxRecDepth 100000 in
set_option maxHeartbeats 1000000 in
theorem fraction_b (m : Nat) (w : World) (h0 : 1 ≤ m) (h1 : m ≤ 2000000000) : Calls Tryz.prog 102 #[.int .i64 m, .int .i64 10000] w fun e w' => e = .returned (.agg #[.int .i64 (fr1 m), .int .i64 (fr2 m)]) ∧ Below w.heap.size w w' := by
  obtain ⟨d0, d1⟩ := gcd_bd m
  obtain ⟨d, hd⟩ : ∃ d, Nat.gcd m 10000 = d := ⟨_, rfl⟩
  rw [hd] at d0 d1
  have HD := Lib.hid hd
  have F1 : Hid (fr1 m = (m : Int) / (d : Int)) := by unfold Hid fr1; rw [hd]
  have F2 : Hid (fr2 m = 10000 / (d : Int)) := by unfold Hid fr2; rw [hd]
  clear hd
  have q0 : 0 ≤ (m : Int) / (d : Int) := Int.ediv_nonneg (by omega) (by omega)
  have q1 : (m : Int) / (d : Int) ≤ (m : Int) := Int.ediv_le_self _ (by omega)
  have q2 : 0 ≤ 10000 / (d : Int) := Int.ediv_nonneg (by omega) (by omega)
  have q3 : 10000 / (d : Int) ≤ 10000 := Int.ediv_le_self _ (by omega)
  have hn : ¬ ((d : Int) = 0) := by omega
  have kz := heap_alloc_new w (.cells #[.int .i64 0, .int .i64 0] 65)
  go_enter Tryz.func102, Tryz.ntmps102
  go_wp2
  go_loopw [5, 6] (fun a b wr => ∃ p q : Nat, p ≤ 2000000000 ∧ q ≤ 2000000000 ∧ a = .int .i64 p ∧ b = .int .i64 q ∧ Hid (Nat.gcd p q = Nat.gcd m 10000) ∧ wr.heap[w.heap.size]? = some (.cells #[.int .i64 0, .int .i64 0] 65 (0, 0)) ∧ Below w.heap.size w wr) (fun _ b _ => (intOf b).toNat)
  case atStart => exact ⟨m, 10000, by omega, by omega, rfl, rfl, rfl, kz, by go_grown⟩
  case round =>
    obtain ⟨p, q, hp, hq, rfl, rfl, hg, kw, hb⟩ := hrel
    have hsz := hb.size
    by_cases h0 : q = 0
    · subst h0
      have hpd : p = d := by rw [← HD.out, ← hg.out]; simp
      subst hpd
      obtain ⟨hc, hf⟩ := blk_cells kw
      go_wp2
      go_region
      all_goals go_wp2
      refine bodyPost_ret (v := .agg #[.int .i64 ((m : Int) / (p : Int)), .int .i64 (10000 / (p : Int))]) (by simp [results, Tryz.results102, go_sem, hc]) rfl ⟨by rw [F1.out, F2.out], by go_grown⟩
    · have hmod : p % q < q := Nat.mod_lt _ (by omega)
      have hn' : ¬ ((q : Int) = 0) := by omega
      have hq1 : 1 ≤ q := by omega
      have KW := Lib.hid kw; clear kw
      go_wp2
      go_roundw
      case rel => exact ⟨q, p % q, hq, by omega, rfl, by simp, by unfold Hid; rw [gcd_step]; exact hg.out, KW.out, by go_grown⟩
      case measure => simp [intOf]; omega
end Go.Proofs.YthncpapejijloaaGreatDoor
