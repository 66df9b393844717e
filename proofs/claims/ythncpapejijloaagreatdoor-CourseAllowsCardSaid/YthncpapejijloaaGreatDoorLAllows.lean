/- Walk of the law of what bounds allow. -/
import Derived.Test.YthncpapejijloaaGreatDoorProg
import Derived.WalkKit
import Derived.WalkLawsBesides
import Derived.WalkSpells
import Derived.Handy
import Derived.Lib.Hide
import Derived.Great.BuildSlice
import Derived.Deep.QuietTactic
import Derived.BigQuiet
import Derived.Deep.RegionHeld3
import Derived.Deep.DeepCutAuto
import Derived.Test.YthncpapejijloaaGreatDoorBD
namespace Go.Proofs.YthncpapejijloaaGreatDoor
open Go.RowKit

theorem Pl.comE_not5 (v : List (Int × Int)) (c : Pl.Crs) (dx : Int) : Pl.comE v [c] dx ≠ 5 := by
  rw [Pl.comE_one]
  unfold Pl.stepE Pl.commonE Pl.vars Pl.err
  repeat' split
  all_goals omega
set_option maxRecDepth 100000 in
set_option maxHeartbeats 4000000 in
theorem courseAllows_w     (A : Option Addr) (cp : Nat) (v : List (Int × Int)) (c : Pl.Crs) (dx dy r : Int)     (w : World) (hE : Env w) (hl : Vars w w.heap.size A v) (hm : v.length ≤ maxLen) :
    Calls Tryz.prog 17 #[.slice A v.length cp, .agg #[.int .i64 c.b, .int .i64 c.n, .int .i64 c.l, .int .i64 c.y, .int .i64 c.x, .int .i64 c.s], .int .i64 dx, .int .i64 dy, .int .i64 r] w fun e w' => e = .returned (.bool true) ∧ Below w.heap.size w w' := by
  have h8 : 8 ≤ w.heap.size := hE.size
  have hall : Below w.heap.size w w := Below.refl _ _
  have hsz : w.heap.size ≤ w.heap.size := Nat.le_refl _
  have kb := heap_alloc_new w (.cells #[.int .i64 c.b, .int .i64 c.n, .int .i64 c.l, .int .i64 c.y, .int .i64 c.x, .int .i64 c.s] 29)
  have hall : Below w.heap.size w (w.alloc (.cells #[.int .i64 c.b, .int .i64 c.n, .int .i64 c.l, .int .i64 c.y, .int .i64 c.x, .int .i64 c.s] 29)) := hall.alloc (Nat.le_refl _) _
  by_cases h60 : v.length ≤ 60
  · by_cases hy : -100000 ≤ dy ∧ dy ≤ 100000
    · obtain ⟨y0, y1⟩ := hy
      obtain ⟨lo, hi, ok, hcom⟩ : ∃ lo hi ok, Pl.com v [c] dx = (lo, hi, ok) := ⟨_, _, _, rfl⟩
      obtain ⟨b0, b1, b2⟩ := Pl.com_one_bd v c dx
      rw [hcom] at b0 b1 b2
      simp only [] at b0 b1 b2
      obtain ⟨X, hX⟩ : ∃ X, decide (Pl.stepE v c dx dy = 0 ∧ Pl.fitR v c dx dy = 0) = X := ⟨_, rfl⟩
      by_cases he : Pl.comE v [c] dx = 0
      · have hz : Pl.stepE v c dx 0 = 0 := by rw [← Pl.comE_one]; exact he
        have hzy : Pl.stepE v c dx dy = 0 := by rw [Pl.stepE_any y0 y1]; exact hz
        have key := Pl.fits_exact hz y0 y1
        rw [hcom, hX] at key
        have HK := Lib.hid key
        have HX := Lib.hid hX
        have HC := Lib.hid hcom
        have HE := Lib.hid he
        have HZ := Lib.hid hzy
        clear key hX hcom he hz hzy
        cases ok with
        | true =>
          go_enter Tryz.func17, Tryz.ntmps17
          go_wp2_with (go_at_call 32; refine (few_yes _ _ _ _ h60).mono ?_; rintro e w' ⟨rfl, rfl⟩)
          (go_at_call 55; refine (Bounds_yes_a _ _ v c _ _ _ _ lo hi _ HC HE (by omega) (by omega) (hl.up (by go_grown)) hm).mono ?_; rintro e w1 ⟨g1, rfl, k1, hg1, hx⟩; have kb := (hx.block (w.heap.size) (by first | exact (Array.getElem?_eq_some_iff.1 kb).1 | omega | (simp; done) | (simp; omega))).trans (by first | exact kb | exact (Below.heap_alloc _ _ _ (Array.getElem?_eq_some_iff.1 kb).1).trans kb); obtain ⟨hckb, hfkb⟩ := blk_cells kb; have hltkb := (Array.getElem?_eq_some_iff.1 kb).1; have hall : Below w.heap.size w w1 := Below.trans (by go_grown) (hx.mono (by go_size)); have hsz : w.heap.size ≤ w1.heap.size := hall.size; clear hx)
          go_wp2_with fail
          (go_at_call 35; refine (Fits_hh _ _ v c _ _ X 0 _ HX HZ (hl.up (by go_grown)) hm).mono ?_; rintro e w2 ⟨rfl, hx⟩; have kb := (hx.block (w.heap.size) (by first | exact (Array.getElem?_eq_some_iff.1 kb).1 | omega | (simp; done) | (simp; omega))).trans (by first | exact kb | exact (Below.heap_alloc _ _ _ (Array.getElem?_eq_some_iff.1 kb).1).trans kb); obtain ⟨hckb, hfkb⟩ := blk_cells kb; have hltkb := (Array.getElem?_eq_some_iff.1 kb).1; have k1 := (hx.block (g1) (by first | exact (Array.getElem?_eq_some_iff.1 k1).1 | omega | (simp; done) | (simp; omega))).trans (by first | exact k1 | exact (Below.heap_alloc _ _ _ (Array.getElem?_eq_some_iff.1 k1).1).trans k1); obtain ⟨hck1, hfk1⟩ := blk_cells k1; have hltk1 := (Array.getElem?_eq_some_iff.1 k1).1; have hall : Below w.heap.size w w2 := Below.trans (by go_grown) (hx.mono (by go_size)); have hsz : w.heap.size ≤ w2.heap.size := hall.size; clear hx)
          go_wp2
          go_loopw [16, 17] (fun a i wr => ∃ (k : Nat) (B : Bool), k ≤ 2 ∧ i = .int .i64 k ∧ a = .bool B ∧ Hid (B = ((k == 0 || decide (dy ≤ hi)) && (k != 2 || decide (lo ≤ dy)))) ∧ wr.heap[g1]? = some (.cells #[.int .i64 1, .int .i64 2, .int .i64 hi, .int .i64 r, .int .i64 2, .int .i64 1, .int .i64 (-lo), .int .i64 r] 60 (0, 0)) ∧ wr.heap[w2.heap.size]? = some (.cells #[.int .i64 0, .int .i64 5, .int .i64 (5 + dy)] 3 (0, 0)) ∧ Below w.heap.size w wr) (fun _ i _ => 2 - (intOf i).toNat)
          case atStart => exact ⟨0, true, by omega, rfl, rfl, by unfold Hid; simp, (Below.heap_alloc _ _ _ (Array.getElem?_eq_some_iff.1 k1).1).trans k1, heap_alloc_new _ _, by go_grown⟩
          case round =>
            obtain ⟨k, B, hk, rfl, rfl, hg, m1, m2, hb⟩ := hrel
            have hsz2 := hb.size
            clear hckb hfkb kb
            obtain ⟨hc1, hf1⟩ := blk_cells m1
            obtain ⟨hc2, hf2⟩ := blk_cells m2
            have hlt1 := (Array.getElem?_eq_some_iff.1 m1).1
            have hlt2 := (Array.getElem?_eq_some_iff.1 m2).1
            have M1 := Lib.hid m1
            have M2 := Lib.hid m2
            clear m1 m2
            obtain rfl | rfl | rfl : k = 0 ∨ k = 1 ∨ k = 2 := by omega
            · have hB3 : B = true := by have := hg.out; simpa using this
              subst hB3
              go_wp2
              all_goals (refine wp_region_quiet_lit (by kernel_rfl) (by kernel_rfl) ?_)
              repeat (any_goals (first | go_big_quiet_step (fail) | quiet_step (fail) | (refine wpQuiet_step (fun K hK => ?_); go_simp; split <;> (refine hK _ ?_; clear hK K))))
              all_goals (refine wpQuiet_nil ?_; intro wq hw'; obtain ⟨nq, hw''⟩ := hw'; have hbq : Below w.heap.size w wq := by rw [hw'']; exact below_drewN (by go_grown) nq)
              all_goals subst hw''
              all_goals go_wp2
              all_goals (refine wp_region_quiet_lit (by kernel_rfl) (by kernel_rfl) ?_)
              repeat (any_goals (first | go_big_quiet_step (fail) | quiet_step (fail) | (refine wpQuiet_step (fun K hK => ?_); go_simp; split <;> (refine hK _ ?_; clear hK K))))
              all_goals (refine wpQuiet_nil ?_; intro wq hw'; obtain ⟨nq, hw''⟩ := hw'; have hbq : Below w.heap.size w wq := by rw [hw'']; exact below_drewN (by go_grown) nq)
              all_goals subst hw''
              all_goals go_wp2
              go_roundw
              case rel => exact ⟨1, decide (dy ≤ hi), by omega, rfl, by first | rfl | exact congrArg Value.bool (by rw [decide_eq_decide]; omega), by unfold Hid; simp, M1.out, M2.out, by first | (go_grown; done) | exact below_drewN hb _⟩
              case measure => first | (simp [intOf]; done) | (simp [intOf]; omega)
            · have hB2 : B = decide (dy ≤ hi) := by have := hg.out; simpa using this
              by_cases hdy : dy ≤ hi
              · have hB3 : B = true := by rw [hB2]; simpa using hdy
                clear hB2
                subst hB3
                go_wp2
                all_goals (refine wp_region_quiet_lit (by kernel_rfl) (by kernel_rfl) ?_)
                repeat (any_goals (first | go_big_quiet_step (fail) | quiet_step (fail) | (refine wpQuiet_step (fun K hK => ?_); go_simp; split <;> (refine hK _ ?_; clear hK K))))
                all_goals (refine wpQuiet_nil ?_; intro wq hw'; obtain ⟨nq, hw''⟩ := hw'; have hbq : Below w.heap.size w wq := by rw [hw'']; exact below_drewN (by go_grown) nq)
                all_goals subst hw''
                all_goals go_wp2
                all_goals (refine wp_region_quiet_lit (by kernel_rfl) (by kernel_rfl) ?_)
                repeat (any_goals (first | go_big_quiet_step (fail) | quiet_step (fail) | (refine wpQuiet_step (fun K hK => ?_); go_simp; split <;> (refine hK _ ?_; clear hK K))))
                all_goals (refine wpQuiet_nil ?_; intro wq hw'; obtain ⟨nq, hw''⟩ := hw'; have hbq : Below w.heap.size w wq := by rw [hw'']; exact below_drewN (by go_grown) nq)
                all_goals subst hw''
                all_goals go_wp2
                go_roundw
                case rel => exact ⟨2, decide (lo ≤ dy), by omega, rfl, by first | rfl | exact congrArg Value.bool (by rw [decide_eq_decide]; omega), by unfold Hid; simp [hdy], M1.out, M2.out, by first | (go_grown; done) | exact below_drewN hb _⟩
                case measure => first | (simp [intOf]; done) | (simp [intOf]; omega)
              · have hB3 : B = false := by rw [hB2]; simpa using hdy
                clear hB2
                subst hB3
                go_wp2
                all_goals (refine wp_region_quiet_lit (by kernel_rfl) (by kernel_rfl) ?_)
                repeat (any_goals (first | go_big_quiet_step (fail) | quiet_step (fail) | (refine wpQuiet_step (fun K hK => ?_); go_simp; split <;> (refine hK _ ?_; clear hK K))))
                all_goals (refine wpQuiet_nil ?_; intro wq hw'; obtain ⟨nq, hw''⟩ := hw'; have hbq : Below w.heap.size w wq := by rw [hw'']; exact below_drewN (by go_grown) nq)
                all_goals subst hw''
                all_goals go_wp2
                all_goals (refine wp_region_quiet_lit (by kernel_rfl) (by kernel_rfl) ?_)
                repeat (any_goals (first | go_big_quiet_step (fail) | quiet_step (fail) | (refine wpQuiet_step (fun K hK => ?_); go_simp; split <;> (refine hK _ ?_; clear hK K))))
                all_goals (refine wpQuiet_nil ?_; intro wq hw'; obtain ⟨nq, hw''⟩ := hw'; have hbq : Below w.heap.size w wq := by rw [hw'']; exact below_drewN (by go_grown) nq)
                all_goals subst hw''
                all_goals go_wp2
                go_roundw
                case rel => exact ⟨2, false, by omega, rfl, by first | rfl | simp, by unfold Hid; simp; omega, M1.out, M2.out, by first | (go_grown; done) | exact below_drewN hb _⟩
                case measure => first | (simp [intOf]; done) | (simp [intOf]; omega)
            · have hall : Below w.heap.size w wr := hb
              have hX2 : B = X := by have h1 := hg.out; have h2 := HK.out; simp at h1 h2; rw [h1, h2, Bool.and_comm]
              subst hX2
              go_wp2_with (go_at_call 27; refine (measured_a _ (hE.up hall)).mono ?_; rintro e w1 ⟨rfl, hx⟩; have hall : Below w.heap.size w w1 := Below.trans (by go_grown) (hx.mono (by go_size)); have hsz : w.heap.size ≤ w1.heap.size := hall.size; clear hx)
              all_goals go_ret
              all_goals exact ⟨by first | rfl | simp, hall⟩
        | false =>
          have hXf : X = false := by have := HK.out; simpa using this
          subst hXf
          go_enter Tryz.func17, Tryz.ntmps17
          go_wp2_with (go_at_call 32; refine (few_yes _ _ _ _ h60).mono ?_; rintro e w' ⟨rfl, rfl⟩)
          (go_at_call 55; refine (Bounds_none_a _ _ v c _ _ _ _ lo hi _ HC HE (hl.up (by go_grown)) hm).mono ?_; rintro e w1 ⟨rfl, hx⟩; have kb := (hx.block (w.heap.size) (by first | exact (Array.getElem?_eq_some_iff.1 kb).1 | omega | (simp; done) | (simp; omega))).trans (by first | exact kb | exact (Below.heap_alloc _ _ _ (Array.getElem?_eq_some_iff.1 kb).1).trans kb); obtain ⟨hckb, hfkb⟩ := blk_cells kb; have hltkb := (Array.getElem?_eq_some_iff.1 kb).1; have hall : Below w.heap.size w w1 := Below.trans (by go_grown) (hx.mono (by go_size)); have hsz : w.heap.size ≤ w1.heap.size := hall.size; clear hx)
          go_wp2_with fail
          (go_at_call 35; refine (Fits_hh _ _ v c _ _ false 0 _ HX HZ (hl.up (by go_grown)) hm).mono ?_; rintro e w2 ⟨rfl, hx⟩; have kb := (hx.block (w.heap.size) (by first | exact (Array.getElem?_eq_some_iff.1 kb).1 | omega | (simp; done) | (simp; omega))).trans (by first | exact kb | exact (Below.heap_alloc _ _ _ (Array.getElem?_eq_some_iff.1 kb).1).trans kb); obtain ⟨hckb, hfkb⟩ := blk_cells kb; have hltkb := (Array.getElem?_eq_some_iff.1 kb).1; have hall : Below w.heap.size w w2 := Below.trans (by go_grown) (hx.mono (by go_size)); have hsz : w.heap.size ≤ w2.heap.size := hall.size; clear hx)
          go_wp2_with (go_at_call 27; refine (measured_a _ (hE.up hall)).mono ?_; rintro e w1 ⟨rfl, hx⟩; have hall : Below w.heap.size w w1 := Below.trans (by go_grown) (hx.mono (by go_size)); have hsz : w.heap.size ≤ w1.heap.size := hall.size; clear hx)
          all_goals go_ret
          all_goals exact ⟨by first | rfl | simp, hall⟩
      · have hcom0 := Pl.com_no he
        obtain ⟨E, hEE⟩ : ∃ E, Pl.comE v [c] dx = E := ⟨_, rfl⟩
        have hne : E ≠ 0 := by rw [← hEE]; exact he
        have h5 : E ≠ 5 := by rw [← hEE]; exact Pl.comE_not5 v c dx
        have hf : Pl.stepE v c dx dy = E := by rw [Pl.stepE_any y0 y1, ← Pl.comE_one]; exact hEE
        have n0 : (E != 0) = true := by simpa using hne
        have n5 : (E == 5) = false := by simpa using h5
        have HX := Lib.hid hX
        have HC := Lib.hid hcom0
        have HE := Lib.hid hEE
        have HF := Lib.hid hf
        clear hcom he hcom0 hEE hf hX h5
        go_enter Tryz.func17, Tryz.ntmps17
        go_wp2_with (go_at_call 32; refine (few_yes _ _ _ _ h60).mono ?_; rintro e w' ⟨rfl, rfl⟩)
        (go_at_call 55; refine (Bounds_err_a _ _ v c _ _ _ _ E _ HC HE hne (hl.up (by go_grown)) hm).mono ?_; rintro e w1 ⟨rfl, hx⟩; have kb := (hx.block (w.heap.size) (by first | exact (Array.getElem?_eq_some_iff.1 kb).1 | omega | (simp; done) | (simp; omega))).trans (by first | exact kb | exact (Below.heap_alloc _ _ _ (Array.getElem?_eq_some_iff.1 kb).1).trans kb); obtain ⟨hckb, hfkb⟩ := blk_cells kb; have hltkb := (Array.getElem?_eq_some_iff.1 kb).1; have hall : Below w.heap.size w w1 := Below.trans (by go_grown) (hx.mono (by go_size)); have hsz : w.heap.size ≤ w1.heap.size := hall.size; clear hx)
        go_wp2_with fail
        (go_at_call 35; refine (Fits_hh _ _ v c _ _ X E _ HX HF (hl.up (by go_grown)) hm).mono ?_; rintro e w2 ⟨rfl, hx⟩; have kb := (hx.block (w.heap.size) (by first | exact (Array.getElem?_eq_some_iff.1 kb).1 | omega | (simp; done) | (simp; omega))).trans (by first | exact kb | exact (Below.heap_alloc _ _ _ (Array.getElem?_eq_some_iff.1 kb).1).trans kb); obtain ⟨hckb, hfkb⟩ := blk_cells kb; have hltkb := (Array.getElem?_eq_some_iff.1 kb).1; have hall : Below w.heap.size w w2 := Below.trans (by go_grown) (hx.mono (by go_size)); have hsz : w.heap.size ≤ w2.heap.size := hall.size; clear hx)
        go_wp2_with (go_at_call 27; refine (measured_a _ (hE.up hall)).mono ?_; rintro e w1 ⟨rfl, hx⟩; have hall : Below w.heap.size w w1 := Below.trans (by go_grown) (hx.mono (by go_size)); have hsz : w.heap.size ≤ w1.heap.size := hall.size; clear hx)
        all_goals go_ret
        all_goals exact ⟨by first | rfl | simp, hall⟩
    · have hd' : dy < -100000 ∨ 100000 < dy := by omega
      clear hy
      go_enter Tryz.func17, Tryz.ntmps17
      go_wp2_with (first
        | (go_at_call 32; refine (few_yes _ _ _ _ h60).mono ?_; rintro e w' ⟨rfl, rfl⟩)
        | (go_at_call 27; refine (measured_a _ (hE.up hall)).mono ?_; rintro e w1 ⟨rfl, hx⟩; have hall : Below w.heap.size w w1 := Below.trans (by go_grown) (hx.mono (by go_size)); have hsz : w.heap.size ≤ w1.heap.size := hall.size; clear hx))
      all_goals first
        | (exfalso; omega)
        | (go_ret; exact ⟨rfl, hall⟩)
  · go_enter Tryz.func17, Tryz.ntmps17
    go_wp2_with (first
      | (go_at_call 32; refine (few_no _ _ _ _ h60 hm).mono ?_; rintro e w' ⟨rfl, rfl⟩)
      | (go_at_call 27; refine (measured_a _ (hE.up hall)).mono ?_; rintro e w1 ⟨rfl, hx⟩; have hall : Below w.heap.size w w1 := Below.trans (by go_grown) (hx.mono (by go_size)); have hsz : w.heap.size ≤ w1.heap.size := hall.size; clear hx))
    all_goals go_ret
    all_goals exact ⟨rfl, hall⟩
end Go.Proofs.YthncpapejijloaaGreatDoor
