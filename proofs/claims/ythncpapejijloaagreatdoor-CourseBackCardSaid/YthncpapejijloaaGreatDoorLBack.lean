/- Walk of the law of the way back. -/
import Derived.Test.YthncpapejijloaaGreatDoorProg
import Derived.WalkKit
import Derived.WalkLawsBesides
import Derived.WalkSpells
import Derived.Handy
import Derived.Lib.Hide
import Derived.Great.BuildSlice
import Derived.Deep.QuietTactic
import Derived.BigQuiet
import Derived.Deep.RegionHeld3
import Derived.Deep.DeepCutAuto
import Derived.Test.YthncpapejijloaaGreatDoorLx
import Derived.Test.YthncpapejijloaaGreatDoorBC
namespace Go.Proofs.YthncpapejijloaaGreatDoor
open Go.RowKit

set_option maxRecDepth 100000 in
set_option maxHeartbeats 4000000 in
theorem courseBack_w     (A : Option Addr) (cp : Nat) (v : List (Int × Int)) (c : Pl.Crs) (dx dy : Int)     (w : World) (hE : Env w) (hl : Vars w w.heap.size A v) (hm : v.length ≤ maxLen) :
    Calls Tryz.prog 11 #[.slice A v.length cp, .agg #[.int .i64 c.b, .int .i64 c.n, .int .i64 c.l, .int .i64 c.y, .int .i64 c.x, .int .i64 c.s], .int .i64 dx, .int .i64 dy] w fun e w' => e = .returned (.bool true) ∧ Below w.heap.size w w' := by
  have h8 : 8 ≤ w.heap.size := hE.size
  have hall : Below w.heap.size w w := Below.refl _ _
  have hsz : w.heap.size ≤ w.heap.size := Nat.le_refl _
  have kb := heap_alloc_new w (.cells #[.int .i64 c.b, .int .i64 c.n, .int .i64 c.l, .int .i64 c.y, .int .i64 c.x, .int .i64 c.s] 29)
  have hall : Below w.heap.size w (w.alloc (.cells #[.int .i64 c.b, .int .i64 c.n, .int .i64 c.l, .int .i64 c.y, .int .i64 c.x, .int .i64 c.s] 29)) := hall.alloc (Nat.le_refl _) _
  by_cases h60 : v.length ≤ 60
  · by_cases hd : -100000 ≤ dx ∧ dx ≤ 100000 ∧ -100000 ≤ dy ∧ dy ≤ 100000
    · obtain ⟨d0, d1, d2, d3⟩ := hd
      by_cases hok : c.ok = true
      · obtain ⟨X, hX⟩ : ∃ X, decide (Pl.stepE v c dx dy = 0 ∧ Pl.fitR v c dx dy = 0) = X := ⟨_, rfl⟩
        obtain ⟨E, hEE⟩ : ∃ E, Pl.stepE v c dx dy = E := ⟨_, rfl⟩
        have H1 := Lib.hid hX
        have H2 := Lib.hid hEE
        have H3 : Hid (decide (Pl.stepE v c.back (-dx) (-dy) = 0 ∧ Pl.fitR v c.back (-dx) (-dy) = 0) = X) := by unfold Hid; rw [Pl.stepE_back hok, Pl.fitR_back hok]; exact hX
        have H4 : Hid (Pl.stepE v c.back (-dx) (-dy) = E) := by unfold Hid; rw [Pl.stepE_back hok]; exact hEE
        have hbk := Pl.Crs.back_ok hok
        have hbb : (c.back.b + 180) % 360 = c.b := by have := congrArg Pl.Crs.b (Pl.back_back hok); exact this
        have HB := Lib.hid hbb
        have HO := Lib.hid hok
        have HK := Lib.hid hbk
        clear hX hEE hok hbb hbk
        go_enter Tryz.func11, Tryz.ntmps11
        go_wp2_with (first
          | (go_at_call 32; refine (few_yes _ _ _ _ h60).mono ?_; rintro e w' ⟨rfl, rfl⟩))
        (go_at_call 42; refine (Reverse_ok c _ HO.out).mono ?_; rintro e w1 ⟨rfl, hx⟩; have kb := (hx.block (w.heap.size) (by first | exact (Array.getElem?_eq_some_iff.1 kb).1 | omega | (simp; done) | (simp; omega))).trans (by first | exact kb | exact (Below.heap_alloc _ _ _ (Array.getElem?_eq_some_iff.1 kb).1).trans kb); obtain ⟨hckb, hfkb⟩ := blk_cells kb; have hltkb := (Array.getElem?_eq_some_iff.1 kb).1; have hall : Below w.heap.size w w1 := Below.trans (by go_grown) (hx.mono (by go_size)); have hsz : w.heap.size ≤ w1.heap.size := hall.size; clear hx)
        go_wp2_with fail
        have kr := heap_alloc_new w1 (.cells #[.int .i64 ((c.b + 180) % 360), .int .i64 c.n, .int .i64 c.l, .int .i64 c.y, .int .i64 c.x, .int .i64 c.s] 29)
        have kb := (Below.heap_alloc w1 (.cells #[.int .i64 ((c.b + 180) % 360), .int .i64 c.n, .int .i64 c.l, .int .i64 c.y, .int .i64 c.x, .int .i64 c.s] 29) _ (Array.getElem?_eq_some_iff.1 kb).1).trans kb
        (go_at_call 42; refine (Reverse_ok c.back _ HK.out).mono ?_; rintro e w2 ⟨rfl, hx⟩; rw [HB.out])
        have kb := (hx.block w.heap.size (Array.getElem?_eq_some_iff.1 kb).1).trans kb
        have kr := (hx.block w1.heap.size (Array.getElem?_eq_some_iff.1 kr).1).trans kr
        have hall : Below w.heap.size w w2 := Below.trans (by go_grown) (hx.mono (by go_size))
        have hsz := hall.size
        have hltb := (Array.getElem?_eq_some_iff.1 kb).1
        have hltr := (Array.getElem?_eq_some_iff.1 kr).1
        clear hx hckb hfkb
        obtain ⟨hckb, hfkb⟩ := blk_cells kb
        obtain ⟨hckr, hfkr⟩ := blk_cells kr
        go_wp2_with fail
        have kx := heap_alloc_new w2 (.cells #[.int .i64 c.b, .int .i64 c.n, .int .i64 c.l, .int .i64 c.y, .int .i64 c.x, .int .i64 c.s] 29)
        have kb := (Below.heap_alloc w2 (.cells #[.int .i64 c.b, .int .i64 c.n, .int .i64 c.l, .int .i64 c.y, .int .i64 c.x, .int .i64 c.s] 29) _ (Array.getElem?_eq_some_iff.1 kb).1).trans kb
        have kr := (Below.heap_alloc w2 (.cells #[.int .i64 c.b, .int .i64 c.n, .int .i64 c.l, .int .i64 c.y, .int .i64 c.x, .int .i64 c.s] 29) _ (Array.getElem?_eq_some_iff.1 kr).1).trans kr
        (go_at_call 35; refine (Fits_hh _ _ v c _ _ X E _ H1 H2 (hl.up (by go_grown)) hm).mono ?_; rintro e w3 ⟨rfl, hx⟩; have kb := (hx.block (w.heap.size) (by first | exact (Array.getElem?_eq_some_iff.1 kb).1 | omega | (simp; done) | (simp; omega))).trans (by first | exact kb | exact (Below.heap_alloc _ _ _ (Array.getElem?_eq_some_iff.1 kb).1).trans kb); obtain ⟨hckb, hfkb⟩ := blk_cells kb; have hltkb := (Array.getElem?_eq_some_iff.1 kb).1; have kr := (hx.block (w1.heap.size) (by first | exact (Array.getElem?_eq_some_iff.1 kr).1 | omega | (simp; done) | (simp; omega))).trans (by first | exact kr | exact (Below.heap_alloc _ _ _ (Array.getElem?_eq_some_iff.1 kr).1).trans kr); obtain ⟨hckr, hfkr⟩ := blk_cells kr; have hltkr := (Array.getElem?_eq_some_iff.1 kr).1; have kx := (hx.block (w2.heap.size) (by first | exact (Array.getElem?_eq_some_iff.1 kx).1 | omega | (simp; done) | (simp; omega))).trans (by first | exact kx | exact (Below.heap_alloc _ _ _ (Array.getElem?_eq_some_iff.1 kx).1).trans kx); obtain ⟨hckx, hfkx⟩ := blk_cells kx; have hltkx := (Array.getElem?_eq_some_iff.1 kx).1; have hall : Below w.heap.size w w3 := Below.trans (by go_grown) (hx.mono (by go_size)); have hsz : w.heap.size ≤ w3.heap.size := hall.size; clear hx)
        go_wp2_with fail
        (go_at_call 35; refine (Fits_hh _ _ v c.back _ _ X E _ H3 H4 (hl.up (by go_grown)) hm).mono ?_; rintro e w4 ⟨rfl, hx⟩; have kb := (hx.block (w.heap.size) (by first | exact (Array.getElem?_eq_some_iff.1 kb).1 | omega | (simp; done) | (simp; omega))).trans (by first | exact kb | exact (Below.heap_alloc _ _ _ (Array.getElem?_eq_some_iff.1 kb).1).trans kb); obtain ⟨hckb, hfkb⟩ := blk_cells kb; have hltkb := (Array.getElem?_eq_some_iff.1 kb).1; have kr := (hx.block (w1.heap.size) (by first | exact (Array.getElem?_eq_some_iff.1 kr).1 | omega | (simp; done) | (simp; omega))).trans (by first | exact kr | exact (Below.heap_alloc _ _ _ (Array.getElem?_eq_some_iff.1 kr).1).trans kr); obtain ⟨hckr, hfkr⟩ := blk_cells kr; have hltkr := (Array.getElem?_eq_some_iff.1 kr).1; have kx := (hx.block (w2.heap.size) (by first | exact (Array.getElem?_eq_some_iff.1 kx).1 | omega | (simp; done) | (simp; omega))).trans (by first | exact kx | exact (Below.heap_alloc _ _ _ (Array.getElem?_eq_some_iff.1 kx).1).trans kx); obtain ⟨hckx, hfkx⟩ := blk_cells kx; have hltkx := (Array.getElem?_eq_some_iff.1 kx).1; have hall : Below w.heap.size w w4 := Below.trans (by go_grown) (hx.mono (by go_size)); have hsz : w.heap.size ≤ w4.heap.size := hall.size; clear hx)
        go_wp2_with fail
        (go_at_call 27; refine (measured_a _ (hE.up hall)).mono ?_; rintro e w5 ⟨rfl, hx⟩; have kb := (hx.block (w.heap.size) (by first | exact (Array.getElem?_eq_some_iff.1 kb).1 | omega | (simp; done) | (simp; omega))).trans (by first | exact kb | exact (Below.heap_alloc _ _ _ (Array.getElem?_eq_some_iff.1 kb).1).trans kb); obtain ⟨hckb, hfkb⟩ := blk_cells kb; have hltkb := (Array.getElem?_eq_some_iff.1 kb).1; have kx := (hx.block (w2.heap.size) (by first | exact (Array.getElem?_eq_some_iff.1 kx).1 | omega | (simp; done) | (simp; omega))).trans (by first | exact kx | exact (Below.heap_alloc _ _ _ (Array.getElem?_eq_some_iff.1 kx).1).trans kx); obtain ⟨hckx, hfkx⟩ := blk_cells kx; have hltkx := (Array.getElem?_eq_some_iff.1 kx).1; have hall : Below w.heap.size w w5 := Below.trans (by go_grown) (hx.mono (by go_size)); have hsz : w.heap.size ≤ w5.heap.size := hall.size; clear hx)
        go_wp2
        go_ret
        exact ⟨by first | rfl | simp, hall⟩
      · have hf : c.ok = false := by simpa using hok
        have HE2 := Lib.hid (bad_err hok)
        have HF := Lib.hid hf
        clear hok hf
        go_enter Tryz.func11, Tryz.ntmps11
        go_wp2_with (first
          | (go_at_call 32; refine (few_yes _ _ _ _ h60).mono ?_; rintro e w' ⟨rfl, rfl⟩))
        (go_at_call 42; refine (Reverse_no c _ HF.out).mono ?_; rintro e w1 ⟨rfl, hx⟩; have kb := (hx.block (w.heap.size) (by first | exact (Array.getElem?_eq_some_iff.1 kb).1 | omega | (simp; done) | (simp; omega))).trans (by first | exact kb | exact (Below.heap_alloc _ _ _ (Array.getElem?_eq_some_iff.1 kb).1).trans kb); obtain ⟨hckb, hfkb⟩ := blk_cells kb; have hltkb := (Array.getElem?_eq_some_iff.1 kb).1; have hall : Below w.heap.size w w1 := Below.trans (by go_grown) (hx.mono (by go_size)); have hsz : w.heap.size ≤ w1.heap.size := hall.size; clear hx)
        go_wp2_with fail
        have kr := heap_alloc_new w1 (.cells #[.int .i64 0, .int .i64 0, .int .i64 0, .int .i64 0, .int .i64 0, .int .i64 0] 29)
        have kb := (Below.heap_alloc w1 (.cells #[.int .i64 0, .int .i64 0, .int .i64 0, .int .i64 0, .int .i64 0, .int .i64 0] 29) _ (Array.getElem?_eq_some_iff.1 kb).1).trans kb
        (go_at_call 27; refine (measured_a _ (hE.up (by go_grown))).mono ?_; rintro e w5 ⟨rfl, hx⟩; have kb := (hx.block (w.heap.size) (by first | exact (Array.getElem?_eq_some_iff.1 kb).1 | omega | (simp; done) | (simp; omega))).trans (by first | exact kb | exact (Below.heap_alloc _ _ _ (Array.getElem?_eq_some_iff.1 kb).1).trans kb); obtain ⟨hckb, hfkb⟩ := blk_cells kb; have hltkb := (Array.getElem?_eq_some_iff.1 kb).1; have kr := (hx.block (w1.heap.size) (by first | exact (Array.getElem?_eq_some_iff.1 kr).1 | omega | (simp; done) | (simp; omega))).trans (by first | exact kr | exact (Below.heap_alloc _ _ _ (Array.getElem?_eq_some_iff.1 kr).1).trans kr); obtain ⟨hckr, hfkr⟩ := blk_cells kr; have hltkr := (Array.getElem?_eq_some_iff.1 kr).1; have hall : Below w.heap.size w w5 := Below.trans (by go_grown) (hx.mono (by go_size)); have hsz : w.heap.size ≤ w5.heap.size := hall.size; clear hx)
        go_wp2_with fail
        (go_at_call 43; refine (course_a _ _ _ _ _ _ _).mono ?_; rintro e w6 ⟨rfl, hx⟩; rw [HE2.out])
        have kr := (hx.block w1.heap.size (Array.getElem?_eq_some_iff.1 kr).1).trans kr
        have hall : Below w.heap.size w w6 := Below.trans (by go_grown) (hx.mono (by go_size))
        obtain ⟨hckr, hfkr⟩ := blk_cells kr
        clear hx
        go_wp2
        go_ret
        exact ⟨by first | rfl | simp, hall⟩
    · have hd' : dx < -100000 ∨ 100000 < dx ∨ dy < -100000 ∨ 100000 < dy := by omega
      clear hd
      go_enter Tryz.func11, Tryz.ntmps11
      go_wp2_with (first
        | (go_at_call 32; refine (few_yes _ _ _ _ h60).mono ?_; rintro e w' ⟨rfl, rfl⟩)
        | (go_at_call 27; refine (measured_a _ (hE.up hall)).mono ?_; rintro e w1 ⟨rfl, hx⟩; have hall : Below w.heap.size w w1 := Below.trans (by go_grown) (hx.mono (by go_size)); have hsz : w.heap.size ≤ w1.heap.size := hall.size; clear hx))
      all_goals first
        | (exfalso; omega)
        | (go_ret; exact ⟨rfl, hall⟩)
  · go_enter Tryz.func11, Tryz.ntmps11
    go_wp2_with (first
      | (go_at_call 32; refine (few_no _ _ _ _ h60 hm).mono ?_; rintro e w' ⟨rfl, rfl⟩)
      | (go_at_call 27; refine (measured_a _ (hE.up hall)).mono ?_; rintro e w1 ⟨rfl, hx⟩; have hall : Below w.heap.size w w1 := Below.trans (by go_grown) (hx.mono (by go_size)); have hsz : w.heap.size ≤ w1.heap.size := hall.size; clear hx))
    all_goals go_ret
    all_goals exact ⟨rfl, hall⟩
end Go.Proofs.YthncpapejijloaaGreatDoor
