/- Walk of the law that a wider needle lets more fit. -/
import Derived.Test.YthncpapejijloaaGreatDoorProg
import Derived.WalkKit
import Derived.WalkLawsBesides
import Derived.WalkSpells
import Derived.Handy
import Derived.Lib.Hide
import Derived.Great.BuildSlice
import Derived.Deep.QuietTactic
import Derived.BigQuiet
import Derived.Deep.RegionHeld3
import Derived.Deep.DeepCutAuto
import Derived.Test.YthncpapejijloaaGreatDoorLx
namespace Go.Proofs.YthncpapejijloaaGreatDoor
open Go.RowKit

set_option maxRecDepth 100000 in
set_option maxHeartbeats 4000000 in
theorem courseWider_w     (A : Option Addr) (cp : Nat) (v : List (Int × Int)) (c : Pl.Crs) (dx dy : Int)     (w : World) (hE : Env w) (hl : Vars w w.heap.size A v) (hm : v.length ≤ maxLen) :
    Calls Tryz.prog 10 #[.slice A v.length cp, .agg #[.int .i64 c.b, .int .i64 c.n, .int .i64 c.l, .int .i64 c.y, .int .i64 c.x, .int .i64 c.s], .int .i64 dx, .int .i64 dy] w fun e w' => e = .returned (.bool true) ∧ Below w.heap.size w w' := by
  have h8 : 8 ≤ w.heap.size := hE.size
  have hall : Below w.heap.size w w := Below.refl _ _
  have hsz : w.heap.size ≤ w.heap.size := Nat.le_refl _
  have kb := heap_alloc_new w (.cells #[.int .i64 c.b, .int .i64 c.n, .int .i64 c.l, .int .i64 c.y, .int .i64 c.x, .int .i64 c.s] 29)
  have hall : Below w.heap.size w (w.alloc (.cells #[.int .i64 c.b, .int .i64 c.n, .int .i64 c.l, .int .i64 c.y, .int .i64 c.x, .int .i64 c.s] 29)) := hall.alloc (Nat.le_refl _) _
  by_cases h60 : v.length ≤ 60
  · by_cases he : Pl.stepE v c dx dy = 0
    · obtain ⟨n, is, hn⟩ : ∃ n is, Pl.need v c dx dy = (n, is) := ⟨_, _, rfl⟩
      obtain ⟨s1, s2, s3, s4⟩ := Pl.need_spec he
      rw [hn] at s1 s2 s3 s4
      simp only [] at s1 s2 s3 s4
      have HN := Lib.hid hn
      have HS := Lib.hid s1
      have HE := Lib.hid he
      have hno' : (is = true) ∨ (is = false ∧ n = 0) := by
        cases is with
        | true => exact .inl rfl
        | false => exact .inr ⟨rfl, s2 rfl⟩
      clear hn s1 s2 he
      rcases hno' with rfl | ⟨rfl, rfl⟩
      all_goals
        go_enter Tryz.func10, Tryz.ntmps10
        go_wp2_with (first
          | (go_at_call 32; refine (few_yes _ _ _ _ h60).mono ?_; rintro e w' ⟨rfl, rfl⟩)
          | (go_at_call 38; refine (Needed_a _ _ v c _ _ _ (hl.up (by go_grown)) hm).mono ?_; rintro e w1 ⟨rfl, hx⟩; rw [HN.out, HE.out]; have kb := (hx.block w.heap.size (by first | omega | (simp; done) | (simp; omega))).trans kb; obtain ⟨hcb, hfb⟩ := blk_cells kb; have hall : Below w.heap.size w w1 := Below.trans (by go_grown) (hx.mono (by go_size)); have hsz : w.heap.size < w1.heap.size := (Array.getElem?_eq_some_iff.1 kb).1; clear hx))
        go_loopw [12] (fun i wr => ∃ (k : Nat), k ≤ 31 ∧ i = .int .i64 k ∧ wr.heap[w.heap.size]? = some (.cells #[.int .i64 c.b, .int .i64 c.n, .int .i64 c.l, .int .i64 c.y, .int .i64 c.x, .int .i64 c.s] 29 (0, 0)) ∧ Below w.heap.size w wr) (fun i _ => 31 - (intOf i).toNat)
        case atStart => exact ⟨0, by omega, rfl, kb, by go_grown⟩
        case round =>
          obtain ⟨k, hk, rfl, kc, hb⟩ := hrel
          have hsz2 := hb.size
          clear hcb hfb kb
          obtain ⟨hcc, hfc⟩ := blk_cells kc
          have hltc := (Array.getElem?_eq_some_iff.1 kc).1
          by_cases hlt : k < 31
          · obtain ⟨B, hB⟩ : ∃ B, decide (Pl.stepE v (c.withN k) dx dy = 0 ∧ Pl.fitR v (c.withN k) dx dy = 0) = B := ⟨_, rfl⟩
            have hBk := HS.out k (by omega)
            have hBf : Pl.fits v (c.withN k) dx dy = B := by unfold Pl.fits; exact hB
            rw [hBf] at hBk
            have HB := Lib.hid hB
            have HY := Lib.hid (Pl.withN_step HE.out (show k ≤ 30 by omega))
            have HBk := Lib.hid hBk
            clear hB hBk hBf
            go_wp2_with (go_at_call 35; refine (Fits_hh _ _ v (c.withN k) _ _ B 0 _ HB HY (hl.up (by go_grown)) hm).mono ?_; rintro e w3 ⟨rfl, hx⟩; have kc := (hx.block (w.heap.size) (by first | exact (Array.getElem?_eq_some_iff.1 kc).1 | omega | (simp; done) | (simp; omega))).trans (by first | exact kc | exact (Below.heap_alloc _ _ _ (Array.getElem?_eq_some_iff.1 kc).1).trans kc); obtain ⟨hckc, hfkc⟩ := blk_cells kc; have hltkc := (Array.getElem?_eq_some_iff.1 kc).1; have hall : Below w.heap.size w w3 := Below.trans (by go_grown) (hx.mono (by go_size)); have hsz : w.heap.size ≤ w3.heap.size := hall.size; clear hx)
            all_goals first
              | (go_roundw
                 case rel => exact ⟨k + 1, by omega, by go_num, kc, by go_grown⟩
                 case measure => first | (simp [intOf]; done) | (simp [intOf]; omega))
              | (exfalso; have hBk := HBk.out; simp_all; done)
              | (exfalso; have hBk := HBk.out; simp_all; omega)
          · have hall : Below w.heap.size w wr := hb
            go_wp2_with (go_at_call 27; refine (measured_a _ (hE.up hall)).mono ?_; rintro e w1 ⟨rfl, hx⟩; have hall : Below w.heap.size w w1 := Below.trans (by go_grown) (hx.mono (by go_size)); have hsz : w.heap.size ≤ w1.heap.size := hall.size; clear hx)
            all_goals go_ret
            all_goals exact ⟨by first | rfl | simp, hall⟩
    · have HN := Lib.hid (Pl.need_no he)
      have he1 : (Pl.stepE v c dx dy != 0) = true := by simp [he]
      clear he
      go_enter Tryz.func10, Tryz.ntmps10
      go_wp2_with (first
        | (go_at_call 32; refine (few_yes _ _ _ _ h60).mono ?_; rintro e w' ⟨rfl, rfl⟩)
        | (go_at_call 38; refine (Needed_a _ _ v c _ _ _ (hl.up (by go_grown)) hm).mono ?_; rintro e w1 ⟨rfl, hx⟩; rw [HN.out]; have hall : Below w.heap.size w w1 := Below.trans (by go_grown) (hx.mono (by go_size)); have hsz : w.heap.size ≤ w1.heap.size := hall.size; clear hx)
        | (go_at_call 27; refine (measured_a _ (hE.up hall)).mono ?_; rintro e w1 ⟨rfl, hx⟩; have hall : Below w.heap.size w w1 := Below.trans (by go_grown) (hx.mono (by go_size)); have hsz : w.heap.size ≤ w1.heap.size := hall.size; clear hx))
      all_goals go_ret
      all_goals exact ⟨by first | rfl | simp, hall⟩
  · go_enter Tryz.func10, Tryz.ntmps10
    go_wp2_with (first
      | (go_at_call 32; refine (few_no _ _ _ _ h60 hm).mono ?_; rintro e w' ⟨rfl, rfl⟩)
      | (go_at_call 27; refine (measured_a _ (hE.up hall)).mono ?_; rintro e w1 ⟨rfl, hx⟩; have hall : Below w.heap.size w w1 := Below.trans (by go_grown) (hx.mono (by go_size)); have hsz : w.heap.size ≤ w1.heap.size := hall.size; clear hx))
    go_ret
    exact ⟨rfl, hall⟩
end Go.Proofs.YthncpapejijloaaGreatDoor
