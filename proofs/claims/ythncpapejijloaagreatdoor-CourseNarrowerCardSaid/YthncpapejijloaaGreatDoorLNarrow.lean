/- Walk of the law of narrower courses. -/
import Derived.Test.YthncpapejijloaaGreatDoorProg
import Derived.WalkKit
import Derived.WalkLawsBesides
import Derived.WalkSpells
import Derived.Handy
import Derived.Lib.Hide
import Derived.Great.BuildSlice
import Derived.Deep.QuietTactic
import Derived.BigQuiet
import Derived.Deep.RegionHeld3
import Derived.Deep.DeepCutAuto
import Derived.Test.YthncpapejijloaaGreatDoorLx
import Derived.Test.YthncpapejijloaaGreatDoorBC
namespace Go.Proofs.YthncpapejijloaaGreatDoor
open Go.RowKit

/-- Narrower, the result named. -/
theorem Narrower_h (a b : Pl.Crs) (B : Bool) (w : World) (hB : Hid (Pl.narrower a b = B)) : Calls Tryz.prog 53 #[.agg #[.int .i64 a.b, .int .i64 a.n, .int .i64 a.l, .int .i64 a.y, .int .i64 a.x, .int .i64 a.s], .agg #[.int .i64 b.b, .int .i64 b.n, .int .i64 b.l, .int .i64 b.y, .int .i64 b.x, .int .i64 b.s]] w fun e w' => e = .returned (.bool B) ∧ Below w.heap.size w w' := by
  have h := Narrower_a a b w
  rw [hB.out] at h
  exact h
set_option maxRecDepth 100000 in
set_option maxHeartbeats 4000000 in
theorem courseNarrower_w     (A : Option Addr) (cp : Nat) (v : List (Int × Int)) (a b : Pl.Crs) (dx dy : Int)     (w : World) (hE : Env w) (hl : Vars w w.heap.size A v) (hm : v.length ≤ maxLen) :
    Calls Tryz.prog 15 #[.slice A v.length cp, .agg #[.int .i64 a.b, .int .i64 a.n, .int .i64 a.l, .int .i64 a.y, .int .i64 a.x, .int .i64 a.s], .agg #[.int .i64 b.b, .int .i64 b.n, .int .i64 b.l, .int .i64 b.y, .int .i64 b.x, .int .i64 b.s], .int .i64 dx, .int .i64 dy] w fun e w' => e = .returned (.bool true) ∧ Below w.heap.size w w' := by
  have h8 : 8 ≤ w.heap.size := hE.size
  have hall : Below w.heap.size w w := Below.refl _ _
  have hsz : w.heap.size ≤ w.heap.size := Nat.le_refl _
  have ka := heap_alloc2_old w (.cells #[.int .i64 a.b, .int .i64 a.n, .int .i64 a.l, .int .i64 a.y, .int .i64 a.x, .int .i64 a.s] 29) (.cells #[.int .i64 b.b, .int .i64 b.n, .int .i64 b.l, .int .i64 b.y, .int .i64 b.x, .int .i64 b.s] 29)
  have kb := heap_alloc2_new w (.cells #[.int .i64 a.b, .int .i64 a.n, .int .i64 a.l, .int .i64 a.y, .int .i64 a.x, .int .i64 a.s] 29) (.cells #[.int .i64 b.b, .int .i64 b.n, .int .i64 b.l, .int .i64 b.y, .int .i64 b.x, .int .i64 b.s] 29)
  have hall : Below w.heap.size w ((w.alloc (.cells #[.int .i64 a.b, .int .i64 a.n, .int .i64 a.l, .int .i64 a.y, .int .i64 a.x, .int .i64 a.s] 29)).alloc (.cells #[.int .i64 b.b, .int .i64 b.n, .int .i64 b.l, .int .i64 b.y, .int .i64 b.x, .int .i64 b.s] 29)) := (hall.alloc (Nat.le_refl _) _).alloc (by simp) _
  by_cases h60 : v.length ≤ 60
  · by_cases hn : Pl.narrower a b = true
    · obtain ⟨E, hEE⟩ : ∃ E, Pl.stepE v a dx dy = E := ⟨_, rfl⟩
      have hEb : Pl.stepE v b dx dy = E := by rw [← Pl.narrower_E hn]; exact hEE
      obtain ⟨X, hX⟩ : ∃ X, decide (Pl.stepE v a dx dy = 0 ∧ Pl.fitR v a dx dy = 0) = X := ⟨_, rfl⟩
      obtain ⟨Y, hY⟩ : ∃ Y, decide (Pl.stepE v b dx dy = 0 ∧ Pl.fitR v b dx dy = 0) = Y := ⟨_, rfl⟩
      have hXY : X = true → Y = true := by
        rw [← hX, ← hY]
        simp only [decide_eq_true_eq]
        rintro ⟨p, q⟩
        exact ⟨by rw [← Pl.narrower_E hn]; exact p, Pl.narrower_fit hn p q⟩
      obtain ⟨p, q, some, hp⟩ : ∃ p q some, Pl.com v [a] dx = (p, q, some) := ⟨_, _, _, rfl⟩
      obtain ⟨r, s, more, hr⟩ : ∃ r s more, Pl.com v [b] dx = (r, s, more) := ⟨_, _, _, rfl⟩
      obtain ⟨G, hG⟩ : ∃ G, Pl.comE v [a] dx = G := ⟨_, rfl⟩
      have hGb : Pl.comE v [b] dx = G := by rw [← Pl.narrower_com hn]; exact hG
      have hI : some = true → more = true ∧ r ≤ p ∧ q ≤ s := by
        intro h
        have := Pl.narrower_ivl (v := v) (dx := dx) hn (by rw [hp]; exact h)
        rw [hp, hr] at this
        exact this
      have H0 := Lib.hid hn; have H1 := Lib.hid hEE; have H2 := Lib.hid hEb; have H3 := Lib.hid hX; have H4 := Lib.hid hY
      have H5 := Lib.hid hp; have H6 := Lib.hid hr; have H7 := Lib.hid hG; have H8 := Lib.hid hGb
      clear hn hEE hEb hX hY hp hr hG hGb
      have hXY' : (X = false) ∨ (X = true ∧ Y = true) := by
        cases X with
        | false => exact .inl rfl
        | true => exact .inr ⟨rfl, hXY rfl⟩
      have hI' : (some = false) ∨ (some = true ∧ more = true ∧ r ≤ p ∧ q ≤ s) := by
        cases some with
        | false => exact .inl rfl
        | true => exact .inr ⟨rfl, hI rfl⟩
      clear hXY hI
      rcases hXY' with rfl | ⟨rfl, rfl⟩ <;> rcases hI' with rfl | ⟨rfl, rfl, i0, i1⟩
      all_goals
        go_enter Tryz.func15, Tryz.ntmps15
        go_wp2_with (first
          | (go_at_call 32; refine (few_yes _ _ _ _ h60).mono ?_; rintro e w' ⟨rfl, rfl⟩)
          | (go_at_call 53; refine (Narrower_h a b true _ H0).mono ?_; rintro e w1 ⟨rfl, hx⟩; have ka := (hx.block (w.heap.size) (by first | exact (Array.getElem?_eq_some_iff.1 ka).1 | omega | (simp; done) | (simp; omega))).trans (by first | exact ka | exact (Below.heap_alloc _ _ _ (Array.getElem?_eq_some_iff.1 ka).1).trans ka); obtain ⟨hcka, hfka⟩ := blk_cells ka; have hltka := (Array.getElem?_eq_some_iff.1 ka).1; have kb := (hx.block (w.heap.size + 1) (by first | exact (Array.getElem?_eq_some_iff.1 kb).1 | omega | (simp; done) | (simp; omega))).trans (by first | exact kb | exact (Below.heap_alloc _ _ _ (Array.getElem?_eq_some_iff.1 kb).1).trans kb); obtain ⟨hckb, hfkb⟩ := blk_cells kb; have hltkb := (Array.getElem?_eq_some_iff.1 kb).1; have hall : Below w.heap.size w w1 := Below.trans (by go_grown) (hx.mono (by go_size)); have hsz : w.heap.size ≤ w1.heap.size := hall.size; clear hx))
        (go_at_call 35; refine (Fits_hh _ _ v a _ _ _ E _ H3 H1 (hl.up (by go_grown)) hm).mono ?_; rintro e w2 ⟨rfl, hx⟩; have ka := (hx.block (w.heap.size) (by first | exact (Array.getElem?_eq_some_iff.1 ka).1 | omega | (simp; done) | (simp; omega))).trans (by first | exact ka | exact (Below.heap_alloc _ _ _ (Array.getElem?_eq_some_iff.1 ka).1).trans ka); obtain ⟨hcka, hfka⟩ := blk_cells ka; have hltka := (Array.getElem?_eq_some_iff.1 ka).1; have kb := (hx.block (w.heap.size + 1) (by first | exact (Array.getElem?_eq_some_iff.1 kb).1 | omega | (simp; done) | (simp; omega))).trans (by first | exact kb | exact (Below.heap_alloc _ _ _ (Array.getElem?_eq_some_iff.1 kb).1).trans kb); obtain ⟨hckb, hfkb⟩ := blk_cells kb; have hltkb := (Array.getElem?_eq_some_iff.1 kb).1; have hall : Below w.heap.size w w2 := Below.trans (by go_grown) (hx.mono (by go_size)); have hsz : w.heap.size ≤ w2.heap.size := hall.size; clear hx)
        go_wp2_with fail
        (go_at_call 35; refine (Fits_hh _ _ v b _ _ _ E _ H4 H2 (hl.up (by go_grown)) hm).mono ?_; rintro e w3 ⟨rfl, hx⟩; have ka := (hx.block (w.heap.size) (by first | exact (Array.getElem?_eq_some_iff.1 ka).1 | omega | (simp; done) | (simp; omega))).trans (by first | exact ka | exact (Below.heap_alloc _ _ _ (Array.getElem?_eq_some_iff.1 ka).1).trans ka); obtain ⟨hcka, hfka⟩ := blk_cells ka; have hltka := (Array.getElem?_eq_some_iff.1 ka).1; have kb := (hx.block (w.heap.size + 1) (by first | exact (Array.getElem?_eq_some_iff.1 kb).1 | omega | (simp; done) | (simp; omega))).trans (by first | exact kb | exact (Below.heap_alloc _ _ _ (Array.getElem?_eq_some_iff.1 kb).1).trans kb); obtain ⟨hckb, hfkb⟩ := blk_cells kb; have hltkb := (Array.getElem?_eq_some_iff.1 kb).1; have hall : Below w.heap.size w w3 := Below.trans (by go_grown) (hx.mono (by go_size)); have hsz : w.heap.size ≤ w3.heap.size := hall.size; clear hx)
        go_wp2_with fail
        (go_at_call 36; refine (Interval_h _ _ v a _ _ _ _ _ _ H5 H7 (hl.up (by go_grown)) hm).mono ?_; rintro e w4 ⟨rfl, hx⟩; have ka := (hx.block (w.heap.size) (by first | exact (Array.getElem?_eq_some_iff.1 ka).1 | omega | (simp; done) | (simp; omega))).trans (by first | exact ka | exact (Below.heap_alloc _ _ _ (Array.getElem?_eq_some_iff.1 ka).1).trans ka); obtain ⟨hcka, hfka⟩ := blk_cells ka; have hltka := (Array.getElem?_eq_some_iff.1 ka).1; have kb := (hx.block (w.heap.size + 1) (by first | exact (Array.getElem?_eq_some_iff.1 kb).1 | omega | (simp; done) | (simp; omega))).trans (by first | exact kb | exact (Below.heap_alloc _ _ _ (Array.getElem?_eq_some_iff.1 kb).1).trans kb); obtain ⟨hckb, hfkb⟩ := blk_cells kb; have hltkb := (Array.getElem?_eq_some_iff.1 kb).1; have hall : Below w.heap.size w w4 := Below.trans (by go_grown) (hx.mono (by go_size)); have hsz : w.heap.size ≤ w4.heap.size := hall.size; clear hx)
        go_wp2_with fail
        (go_at_call 36; refine (Interval_h _ _ v b _ _ _ _ _ _ H6 H8 (hl.up (by go_grown)) hm).mono ?_; rintro e w5 ⟨rfl, hx⟩; have ka := (hx.block (w.heap.size) (by first | exact (Array.getElem?_eq_some_iff.1 ka).1 | omega | (simp; done) | (simp; omega))).trans (by first | exact ka | exact (Below.heap_alloc _ _ _ (Array.getElem?_eq_some_iff.1 ka).1).trans ka); obtain ⟨hcka, hfka⟩ := blk_cells ka; have hltka := (Array.getElem?_eq_some_iff.1 ka).1; have kb := (hx.block (w.heap.size + 1) (by first | exact (Array.getElem?_eq_some_iff.1 kb).1 | omega | (simp; done) | (simp; omega))).trans (by first | exact kb | exact (Below.heap_alloc _ _ _ (Array.getElem?_eq_some_iff.1 kb).1).trans kb); obtain ⟨hckb, hfkb⟩ := blk_cells kb; have hltkb := (Array.getElem?_eq_some_iff.1 kb).1; have hall : Below w.heap.size w w5 := Below.trans (by go_grown) (hx.mono (by go_size)); have hsz : w.heap.size ≤ w5.heap.size := hall.size; clear hx)
        go_wp2_with (go_at_call 27; refine (measured_a _ (hE.up hall)).mono ?_; rintro e w1 ⟨rfl, hx⟩; have hall : Below w.heap.size w w1 := Below.trans (by go_grown) (hx.mono (by go_size)); have hsz : w.heap.size ≤ w1.heap.size := hall.size; clear hx)
        all_goals go_ret
        all_goals exact ⟨by first | rfl | (simp; done) | (simp; omega) | (simp [*]; done) | (simp [*]; omega), hall⟩
    · have hn' : Pl.narrower a b = false := by simpa using hn
      have H0 := Lib.hid hn'
      clear hn hn'
      go_enter Tryz.func15, Tryz.ntmps15
      go_wp2_with (first
        | (go_at_call 32; refine (few_yes _ _ _ _ h60).mono ?_; rintro e w' ⟨rfl, rfl⟩)
        | (go_at_call 53; refine (Narrower_h a b false _ H0).mono ?_; rintro e w1 ⟨rfl, hx⟩; have ka := (hx.block (w.heap.size) (by first | exact (Array.getElem?_eq_some_iff.1 ka).1 | omega | (simp; done) | (simp; omega))).trans (by first | exact ka | exact (Below.heap_alloc _ _ _ (Array.getElem?_eq_some_iff.1 ka).1).trans ka); obtain ⟨hcka, hfka⟩ := blk_cells ka; have hltka := (Array.getElem?_eq_some_iff.1 ka).1; have kb := (hx.block (w.heap.size + 1) (by first | exact (Array.getElem?_eq_some_iff.1 kb).1 | omega | (simp; done) | (simp; omega))).trans (by first | exact kb | exact (Below.heap_alloc _ _ _ (Array.getElem?_eq_some_iff.1 kb).1).trans kb); obtain ⟨hckb, hfkb⟩ := blk_cells kb; have hltkb := (Array.getElem?_eq_some_iff.1 kb).1; have hall : Below w.heap.size w w1 := Below.trans (by go_grown) (hx.mono (by go_size)); have hsz : w.heap.size ≤ w1.heap.size := hall.size; clear hx)
        | (go_at_call 27; refine (measured_a _ (hE.up hall)).mono ?_; rintro e w1 ⟨rfl, hx⟩; have hall : Below w.heap.size w w1 := Below.trans (by go_grown) (hx.mono (by go_size)); have hsz : w.heap.size ≤ w1.heap.size := hall.size; clear hx))
      go_ret
      exact ⟨rfl, hall⟩
  · go_enter Tryz.func15, Tryz.ntmps15
    go_wp2_with (first
      | (go_at_call 32; refine (few_no _ _ _ _ h60 hm).mono ?_; rintro e w' ⟨rfl, rfl⟩)
      | (go_at_call 27; refine (measured_a _ (hE.up hall)).mono ?_; rintro e w1 ⟨rfl, hx⟩; have hall : Below w.heap.size w w1 := Below.trans (by go_grown) (hx.mono (by go_size)); have hsz : w.heap.size ≤ w1.heap.size := hall.size; clear hx))
    go_ret
    exact ⟨rfl, hall⟩
end Go.Proofs.YthncpapejijloaaGreatDoor
