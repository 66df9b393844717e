/- Walk of the law that an interval is exact. -/
import Derived.Test.YthncpapejijloaaGreatDoorProg
import Derived.WalkKit
import Derived.WalkLawsBesides
import Derived.WalkSpells
import Derived.Handy
import Derived.Lib.Hide
import Derived.Great.BuildSlice
import Derived.Deep.QuietTactic
import Derived.BigQuiet
import Derived.Deep.RegionHeld3
import Derived.Deep.DeepCutAuto
import Derived.Test.YthncpapejijloaaGreatDoorLx
namespace Go.Proofs.YthncpapejijloaaGreatDoor
open Go.RowKit

set_option maxRecDepth 100000 in
set_option maxHeartbeats 4000000 in
theorem courseExact_w     (A : Option Addr) (cp : Nat) (v : List (Int × Int)) (c : Pl.Crs) (dx dy : Int)     (w : World) (hE : Env w) (hl : Vars w w.heap.size A v) (hm : v.length ≤ maxLen) :
    Calls Tryz.prog 9 #[.slice A v.length cp, .agg #[.int .i64 c.b, .int .i64 c.n, .int .i64 c.l, .int .i64 c.y, .int .i64 c.x, .int .i64 c.s], .int .i64 dx, .int .i64 dy] w fun e w' => e = .returned (.bool true) ∧ Below w.heap.size w w' := by
  have h8 : 8 ≤ w.heap.size := hE.size
  have hall : Below w.heap.size w w := Below.refl _ _
  have hsz : w.heap.size ≤ w.heap.size := Nat.le_refl _
  have kb := heap_alloc_new w (.cells #[.int .i64 c.b, .int .i64 c.n, .int .i64 c.l, .int .i64 c.y, .int .i64 c.x, .int .i64 c.s] 29)
  have hall : Below w.heap.size w (w.alloc (.cells #[.int .i64 c.b, .int .i64 c.n, .int .i64 c.l, .int .i64 c.y, .int .i64 c.x, .int .i64 c.s] 29)) := hall.alloc (Nat.le_refl _) _
  by_cases h60 : v.length ≤ 60
  · obtain ⟨lo, hi, ok, hcom⟩ : ∃ lo hi ok, Pl.com v [c] dx = (lo, hi, ok) := ⟨_, _, _, rfl⟩
    obtain ⟨b0, b1, b2⟩ := Pl.com_one_bd v c dx
    rw [hcom] at b0 b1 b2
    simp only [] at b0 b1 b2
    have hno : ok = false → lo = 0 ∧ hi = 0 := by
      intro h
      have := Pl.com_one_no (v := v) (c := c) (dx := dx) (by rw [hcom]; exact h)
      rwa [hcom] at this
    by_cases he : Pl.comE v [c] dx = 0
    · by_cases hy : -100000 ≤ dy ∧ dy ≤ 100000
      · obtain ⟨y0, y1⟩ := hy
        have hz : Pl.stepE v c dx 0 = 0 := by rw [← Pl.comE_one]; exact he
        have key : ∀ y, -100000 ≤ y → y ≤ 100000 → decide (Pl.stepE v c dx y = 0 ∧ Pl.fitR v c dx y = 0) = (ok && decide (lo ≤ y) && decide (y ≤ hi)) := by
          intro y h0 h1
          have := Pl.fits_exact hz h0 h1
          rwa [hcom] at this
        have kez : ∀ y, -100000 ≤ y → y ≤ 100000 → Pl.stepE v c dx y = 0 := fun y h0 h1 => by rw [Pl.stepE_any h0 h1]; exact hz
        have HK := Lib.hid key
        have HZ := Lib.hid kez
        have HC := Lib.hid hcom
        have HE := Lib.hid he
        clear key kez hcom he hz
        have hno' : (ok = true) ∨ (ok = false ∧ lo = 0 ∧ hi = 0) := by
          cases ok with
          | true => exact .inl rfl
          | false => exact .inr ⟨rfl, hno rfl⟩
        clear hno
        rcases hno' with rfl | ⟨rfl, rfl, rfl⟩
        all_goals
          go_enter Tryz.func9, Tryz.ntmps9
          go_wp2_with (first
            | (go_at_call 32; refine (few_yes _ _ _ _ h60).mono ?_; rintro e w' ⟨rfl, rfl⟩)
            | (go_at_call 36; refine (Interval_h _ _ v c _ _ _ _ _ _ HC HE (hl.up (by go_grown)) hm).mono ?_; rintro e w1 ⟨rfl, hx⟩; have kb := (hx.block w.heap.size (by first | omega | (simp; done) | (simp; omega))).trans kb; obtain ⟨hcb, hfb⟩ := blk_cells kb; have hall : Below w.heap.size w w1 := Below.trans (by go_grown) (hx.mono (by go_size)); have hsz : w.heap.size < w1.heap.size := (Array.getElem?_eq_some_iff.1 kb).1; clear hx))
          go_loopw [14] (fun i wr => ∃ (k : Nat) (l : List Int), k ≤ 6 ∧ i = .int .i64 k ∧ l.length = 6 ∧ wr.heap[w1.heap.size]? = some (.cells (l.map (Value.int .i64)).toArray 3 (0, 0)) ∧ wr.heap[w.heap.size]? = some (.cells #[.int .i64 c.b, .int .i64 c.n, .int .i64 c.l, .int .i64 c.y, .int .i64 c.x, .int .i64 c.s] 29 (0, 0)) ∧ Below w.heap.size w wr) (fun i _ => 6 - (intOf i).toNat)
          case atStart => exact ⟨0, [_, _, _, _, _, _], by omega, rfl, rfl, heap_alloc_new _ _, (Below.heap_alloc _ _ _ (Array.getElem?_eq_some_iff.1 kb).1).trans kb, by go_grown⟩
          case round =>
            obtain ⟨k, l, hk, rfl, hlen, kg, kc, hb⟩ := hrel
            have hsz2 := hb.size
            clear hcb hfb kb
            obtain ⟨hcc, hfc⟩ := blk_cells kc
            have hltc := (Array.getElem?_eq_some_iff.1 kc).1
            have hltg := (Array.getElem?_eq_some_iff.1 kg).1
            by_cases hlt : k < 6
            · have hyc := ints_cell kg (show k < l.length by omega)
              obtain ⟨y, hy⟩ : ∃ y, l[k] = y := ⟨_, rfl⟩
              rw [hy] at hyc
              clear hy
              have HL := Lib.hid hlen; clear hlen
              by_cases hr : -100000 ≤ y ∧ y ≤ 100000
              · obtain ⟨r0, r1⟩ := hr
                obtain ⟨B, hB⟩ : ∃ B, decide (Pl.stepE v c dx y = 0 ∧ Pl.fitR v c dx y = 0) = B := ⟨_, rfl⟩
                have hBk := HK.out y r0 r1
                rw [hB] at hBk
                have HB := Lib.hid hB
                have HY := Lib.hid (HZ.out y r0 r1)
                clear hB
                have HBk := Lib.hid hBk
                clear hBk
                go_wp2_with (go_at_call 35; refine (Fits_hh _ _ v c _ _ B 0 _ HB HY (hl.up (by go_grown)) hm).mono ?_; rintro e w3 ⟨rfl, hx⟩; have kc := (hx.block (w.heap.size) (by first | exact (Array.getElem?_eq_some_iff.1 kc).1 | omega | (simp; done) | (simp; omega))).trans (by first | exact kc | exact (Below.heap_alloc _ _ _ (Array.getElem?_eq_some_iff.1 kc).1).trans kc); obtain ⟨hckc, hfkc⟩ := blk_cells kc; have hltkc := (Array.getElem?_eq_some_iff.1 kc).1; have kg := (hx.block (w1.heap.size) (by first | exact (Array.getElem?_eq_some_iff.1 kg).1 | omega | (simp; done) | (simp; omega))).trans (by first | exact kg | exact (Below.heap_alloc _ _ _ (Array.getElem?_eq_some_iff.1 kg).1).trans kg); obtain ⟨hckg, hfkg⟩ := blk_cells kg; have hltkg := (Array.getElem?_eq_some_iff.1 kg).1; have hall : Below w.heap.size w w3 := Below.trans (by go_grown) (hx.mono (by go_size)); have hsz : w.heap.size ≤ w3.heap.size := hall.size; clear hx)
                all_goals first
                  | (go_roundw
                     case rel => exact ⟨k + 1, l, by omega, by go_num, HL.out, kg, kc, by go_grown⟩
                     case measure => first | (simp [intOf]; done) | (simp [intOf]; omega))
                  | (exfalso; have hBk := HBk.out; simp_all; done)
                  | (exfalso; have hBk := HBk.out; simp_all; omega)
              · have hr' : y < -100000 ∨ 100000 < y := by omega
                go_wp2
                all_goals first
                  | (exfalso; omega)
                  | (go_roundw
                     case rel => exact ⟨k + 1, l, by omega, by go_num, HL.out, kg, kc, by go_grown⟩
                     case measure => first | (simp [intOf]; done) | (simp [intOf]; omega))
            · have hall : Below w.heap.size w wr := hb
              go_wp2_with (go_at_call 27; refine (measured_a _ (hE.up hall)).mono ?_; rintro e w1 ⟨rfl, hx⟩; have hall : Below w.heap.size w w1 := Below.trans (by go_grown) (hx.mono (by go_size)); have hsz : w.heap.size ≤ w1.heap.size := hall.size; clear hx)
              go_ret
              exact ⟨rfl, hall⟩
      · have HC := Lib.hid hcom
        have HE := Lib.hid he
        clear hcom he hno
        have hy' : dy < -100000 ∨ 100000 < dy := by omega
        clear hy
        go_enter Tryz.func9, Tryz.ntmps9
        go_wp2_with (first
          | (go_at_call 32; refine (few_yes _ _ _ _ h60).mono ?_; rintro e w' ⟨rfl, rfl⟩)
          | (go_at_call 36; refine (Interval_h _ _ v c _ _ _ _ _ _ HC HE (hl.up (by go_grown)) hm).mono ?_; rintro e w1 ⟨rfl, hx⟩; have kb := (hx.block w.heap.size (by first | omega | (simp; done) | (simp; omega))).trans kb; obtain ⟨hcb, hfb⟩ := blk_cells kb; have hall : Below w.heap.size w w1 := Below.trans (by go_grown) (hx.mono (by go_size)); have hsz : w.heap.size < w1.heap.size := (Array.getElem?_eq_some_iff.1 kb).1; clear hx)
          | (go_at_call 27; refine (measured_a _ (hE.up hall)).mono ?_; rintro e w1 ⟨rfl, hx⟩; have hall : Below w.heap.size w w1 := Below.trans (by go_grown) (hx.mono (by go_size)); have hsz : w.heap.size ≤ w1.heap.size := hall.size; clear hx))
        all_goals first
          | (exfalso; omega)
          | (go_ret; exact ⟨by first | rfl | (simp; omega), hall⟩)
    · have HC := Lib.hid hcom
      obtain ⟨E, hEE⟩ : ∃ E, Pl.comE v [c] dx = E := ⟨_, rfl⟩
      have he1 : (E != 0) = true := by rw [← hEE]; simp [he]
      have HE := Lib.hid hEE
      clear hcom hno he hEE
      go_enter Tryz.func9, Tryz.ntmps9
      go_wp2_with (first
        | (go_at_call 32; refine (few_yes _ _ _ _ h60).mono ?_; rintro e w' ⟨rfl, rfl⟩)
        | (go_at_call 36; refine (Interval_h _ _ v c _ _ _ _ _ _ HC HE (hl.up (by go_grown)) hm).mono ?_; rintro e w1 ⟨rfl, hx⟩; have kb := (hx.block w.heap.size (by first | omega | (simp; done) | (simp; omega))).trans kb; obtain ⟨hcb, hfb⟩ := blk_cells kb; have hall : Below w.heap.size w w1 := Below.trans (by go_grown) (hx.mono (by go_size)); have hsz : w.heap.size < w1.heap.size := (Array.getElem?_eq_some_iff.1 kb).1; clear hx)
        | (go_at_call 27; refine (measured_a _ (hE.up hall)).mono ?_; rintro e w1 ⟨rfl, hx⟩; have hall : Below w.heap.size w w1 := Below.trans (by go_grown) (hx.mono (by go_size)); have hsz : w.heap.size ≤ w1.heap.size := hall.size; clear hx))
      all_goals go_ret
      all_goals exact ⟨by first | rfl | simp [*], hall⟩
  · go_enter Tryz.func9, Tryz.ntmps9
    go_wp2_with (first
      | (go_at_call 32; refine (few_no _ _ _ _ h60 hm).mono ?_; rintro e w' ⟨rfl, rfl⟩)
      | (go_at_call 27; refine (measured_a _ (hE.up hall)).mono ?_; rintro e w1 ⟨rfl, hx⟩; have hall : Below w.heap.size w w1 := Below.trans (by go_grown) (hx.mono (by go_size)); have hsz : w.heap.size ≤ w1.heap.size := hall.size; clear hx))
    go_ret
    exact ⟨rfl, hall⟩
end Go.Proofs.YthncpapejijloaaGreatDoor
