/- Walks: the reference's True. -/
import Derived.Test.YthncpapejijloaaGreatDoorProg
import Derived.WalkKit
import Derived.WalkLawsBesides
import Derived.WalkSpells
import Derived.Handy
import Derived.Lib.Hide
import Derived.Great.BuildSlice
import Derived.Deep.QuietTactic
import Derived.BigQuiet
import Derived.Deep.RegionHeld3
import Derived.Deep.DeepCutAuto
import Derived.Test.YthncpapejijloaaGreatDoorBF
import Derived.IntWalk
namespace Go.Proofs.YthncpapejijloaaGreatDoor
open Go.RowKit

theorem set_keep (w : World) (B C o j : Nat) (u : Value) (h : B ≠ C) : (w.setCell ⟨C, o, none⟩ u).cell? ⟨B, j, none⟩ = w.cell? ⟨B, j, none⟩ := World.cell?_of_block (Below.heap_setCell w ⟨C, o, none⟩ u B h)
set_option maxRecDepth 100000 in
set_option maxHeartbeats 1000000 in
theorem TrueB_no (x s l : Int) (w : World) (h : ¬ (Pl.chainOk x s = true ∧ 1 ≤ l ∧ l ≤ 100000)) :
    Calls Tryz.prog 62 #[.agg #[.int .i64 x, .int .i64 s], .int .i64 l] w fun e w' => e = .returned (.tuple #[.agg #[.int .i64 0, .int .i64 0], .agg #[.int .i64 0, .int .i64 0], .int .i64 1]) ∧ Below w.heap.size w w' := by
  by_cases hc : Pl.chainOk x s = true
  · have HC : Hid (Pl.err (Pl.chainOk x s) = 0) := by rw [hc]; exact Lib.hid rfl
    have hl : l < 1 ∨ (1 ≤ l ∧ 100000 < l) := by
      by_cases h1 : 1 ≤ l
      · by_cases h2 : l ≤ 100000
        · exact absurd ⟨hc, h1, h2⟩ h
        · right; omega
      · left; omega
    clear hc h
    rcases hl with hl | ⟨hl, hl2⟩
    · skip
      have k0 := heap_alloc_new w (.cells #[.int .i64 x, .int .i64 s] 27)
      have k1 := heap_alloc2_new w (.cells #[.int .i64 x, .int .i64 s] 27) (.cells #[.int .i64 0, .int .i64 0] 65)
      have k0 := (Below.heap_alloc _ (.cells #[.int .i64 0, .int .i64 0] 65) _ (Array.getElem?_eq_some_iff.1 k0).1).trans k0
      have k0 := (Below.heap_alloc _ (.cells #[.int .i64 0, .int .i64 0] 65) _ (Array.getElem?_eq_some_iff.1 k0).1).trans k0
      have k1 := (Below.heap_alloc _ (.cells #[.int .i64 0, .int .i64 0] 65) _ (Array.getElem?_eq_some_iff.1 k1).1).trans k1
      have sz := alloc2_size w (.cells #[.int .i64 x, .int .i64 s] 27) (.cells #[.int .i64 0, .int .i64 0] 65)
      have k2 := heap_alloc_new ((w.alloc (.cells #[.int .i64 x, .int .i64 s] 27)).alloc (.cells #[.int .i64 0, .int .i64 0] 65)) (.cells #[.int .i64 0, .int .i64 0] 65)
      rw [sz] at k2
      clear sz
      go_enter Tryz.func62, Tryz.ntmps62
      go_wp2_with (first
      | (go_at_call 68; refine (chainB_h x s 0 _ HC).mono ?_; rintro e w1 ⟨rfl, hx⟩; have k0 := (hx.block (w.heap.size) (by first | exact (Array.getElem?_eq_some_iff.1 k0).1 | omega | (simp; done) | (simp; omega))).trans (by first | exact k0 | exact (Below.heap_alloc _ _ _ (Array.getElem?_eq_some_iff.1 k0).1).trans k0); obtain ⟨hck0, hfk0⟩ := blk_cells k0; have hltk0 := (Array.getElem?_eq_some_iff.1 k0).1; have k1 := (hx.block (w.heap.size + 1) (by first | exact (Array.getElem?_eq_some_iff.1 k1).1 | omega | (simp; done) | (simp; omega))).trans (by first | exact k1 | exact (Below.heap_alloc _ _ _ (Array.getElem?_eq_some_iff.1 k1).1).trans k1); obtain ⟨hck1, hfk1⟩ := blk_cells k1; have hltk1 := (Array.getElem?_eq_some_iff.1 k1).1; have k2 := (hx.block (w.heap.size + 1 + 1) (by first | exact (Array.getElem?_eq_some_iff.1 k2).1 | omega | (simp; done) | (simp; omega))).trans (by first | exact k2 | exact (Below.heap_alloc _ _ _ (Array.getElem?_eq_some_iff.1 k2).1).trans k2); obtain ⟨hck2, hfk2⟩ := blk_cells k2; have hltk2 := (Array.getElem?_eq_some_iff.1 k2).1; have hall : Below w.heap.size w w1 := Below.trans (by go_grown) (hx.mono (by go_size)); have hsz : w.heap.size ≤ w1.heap.size := hall.size; clear hx))
      refine bodyPost_ret (v := .tuple #[.agg #[.int .i64 0, .int .i64 0], .agg #[.int .i64 0, .int .i64 0], .int .i64 1]) (by simp [results, Tryz.results62, go_sem, hck1, hck2]) rfl ⟨rfl, ((((hall.setCell (p := ⟨w.heap.size + 1, 0, none⟩) (show w.heap.size ≤ w.heap.size + 1 by omega) _).setCell (p := ⟨w.heap.size + 1, 1, none⟩) (show w.heap.size ≤ w.heap.size + 1 by omega) _).setCell (p := ⟨w.heap.size + 1 + 1, 0, none⟩) (show w.heap.size ≤ w.heap.size + 1 + 1 by omega) _).setCell (p := ⟨w.heap.size + 1 + 1, 1, none⟩) (show w.heap.size ≤ w.heap.size + 1 + 1 by omega) _)⟩
    · skip
      have k0 := heap_alloc_new w (.cells #[.int .i64 x, .int .i64 s] 27)
      have k1 := heap_alloc2_new w (.cells #[.int .i64 x, .int .i64 s] 27) (.cells #[.int .i64 0, .int .i64 0] 65)
      have k0 := (Below.heap_alloc _ (.cells #[.int .i64 0, .int .i64 0] 65) _ (Array.getElem?_eq_some_iff.1 k0).1).trans k0
      have k0 := (Below.heap_alloc _ (.cells #[.int .i64 0, .int .i64 0] 65) _ (Array.getElem?_eq_some_iff.1 k0).1).trans k0
      have k1 := (Below.heap_alloc _ (.cells #[.int .i64 0, .int .i64 0] 65) _ (Array.getElem?_eq_some_iff.1 k1).1).trans k1
      have sz := alloc2_size w (.cells #[.int .i64 x, .int .i64 s] 27) (.cells #[.int .i64 0, .int .i64 0] 65)
      have k2 := heap_alloc_new ((w.alloc (.cells #[.int .i64 x, .int .i64 s] 27)).alloc (.cells #[.int .i64 0, .int .i64 0] 65)) (.cells #[.int .i64 0, .int .i64 0] 65)
      rw [sz] at k2
      clear sz
      go_enter Tryz.func62, Tryz.ntmps62
      go_wp2_with (first
      | (go_at_call 68; refine (chainB_h x s 0 _ HC).mono ?_; rintro e w1 ⟨rfl, hx⟩; have k0 := (hx.block (w.heap.size) (by first | exact (Array.getElem?_eq_some_iff.1 k0).1 | omega | (simp; done) | (simp; omega))).trans (by first | exact k0 | exact (Below.heap_alloc _ _ _ (Array.getElem?_eq_some_iff.1 k0).1).trans k0); obtain ⟨hck0, hfk0⟩ := blk_cells k0; have hltk0 := (Array.getElem?_eq_some_iff.1 k0).1; have k1 := (hx.block (w.heap.size + 1) (by first | exact (Array.getElem?_eq_some_iff.1 k1).1 | omega | (simp; done) | (simp; omega))).trans (by first | exact k1 | exact (Below.heap_alloc _ _ _ (Array.getElem?_eq_some_iff.1 k1).1).trans k1); obtain ⟨hck1, hfk1⟩ := blk_cells k1; have hltk1 := (Array.getElem?_eq_some_iff.1 k1).1; have k2 := (hx.block (w.heap.size + 1 + 1) (by first | exact (Array.getElem?_eq_some_iff.1 k2).1 | omega | (simp; done) | (simp; omega))).trans (by first | exact k2 | exact (Below.heap_alloc _ _ _ (Array.getElem?_eq_some_iff.1 k2).1).trans k2); obtain ⟨hck2, hfk2⟩ := blk_cells k2; have hltk2 := (Array.getElem?_eq_some_iff.1 k2).1; have hall : Below w.heap.size w w1 := Below.trans (by go_grown) (hx.mono (by go_size)); have hsz : w.heap.size ≤ w1.heap.size := hall.size; clear hx))
      refine bodyPost_ret (v := .tuple #[.agg #[.int .i64 0, .int .i64 0], .agg #[.int .i64 0, .int .i64 0], .int .i64 1]) (by simp [results, Tryz.results62, go_sem, hck1, hck2]) rfl ⟨rfl, ((((hall.setCell (p := ⟨w.heap.size + 1, 0, none⟩) (show w.heap.size ≤ w.heap.size + 1 by omega) _).setCell (p := ⟨w.heap.size + 1, 1, none⟩) (show w.heap.size ≤ w.heap.size + 1 by omega) _).setCell (p := ⟨w.heap.size + 1 + 1, 0, none⟩) (show w.heap.size ≤ w.heap.size + 1 + 1 by omega) _).setCell (p := ⟨w.heap.size + 1 + 1, 1, none⟩) (show w.heap.size ≤ w.heap.size + 1 + 1 by omega) _)⟩
  · have HC : Hid (Pl.err (Pl.chainOk x s) = 1) := by rw [Bool.not_eq_true] at hc; rw [hc]; exact Lib.hid rfl
    clear hc h
    have k0 := heap_alloc_new w (.cells #[.int .i64 x, .int .i64 s] 27)
    have k1 := heap_alloc2_new w (.cells #[.int .i64 x, .int .i64 s] 27) (.cells #[.int .i64 0, .int .i64 0] 65)
    have k0 := (Below.heap_alloc _ (.cells #[.int .i64 0, .int .i64 0] 65) _ (Array.getElem?_eq_some_iff.1 k0).1).trans k0
    have k0 := (Below.heap_alloc _ (.cells #[.int .i64 0, .int .i64 0] 65) _ (Array.getElem?_eq_some_iff.1 k0).1).trans k0
    have k1 := (Below.heap_alloc _ (.cells #[.int .i64 0, .int .i64 0] 65) _ (Array.getElem?_eq_some_iff.1 k1).1).trans k1
    have sz := alloc2_size w (.cells #[.int .i64 x, .int .i64 s] 27) (.cells #[.int .i64 0, .int .i64 0] 65)
    have k2 := heap_alloc_new ((w.alloc (.cells #[.int .i64 x, .int .i64 s] 27)).alloc (.cells #[.int .i64 0, .int .i64 0] 65)) (.cells #[.int .i64 0, .int .i64 0] 65)
    rw [sz] at k2
    clear sz
    go_enter Tryz.func62, Tryz.ntmps62
    go_wp2_with (first
      | (go_at_call 68; refine (chainB_h x s 1 _ HC).mono ?_; rintro e w1 ⟨rfl, hx⟩; have k0 := (hx.block (w.heap.size) (by first | exact (Array.getElem?_eq_some_iff.1 k0).1 | omega | (simp; done) | (simp; omega))).trans (by first | exact k0 | exact (Below.heap_alloc _ _ _ (Array.getElem?_eq_some_iff.1 k0).1).trans k0); obtain ⟨hck0, hfk0⟩ := blk_cells k0; have hltk0 := (Array.getElem?_eq_some_iff.1 k0).1; have k1 := (hx.block (w.heap.size + 1) (by first | exact (Array.getElem?_eq_some_iff.1 k1).1 | omega | (simp; done) | (simp; omega))).trans (by first | exact k1 | exact (Below.heap_alloc _ _ _ (Array.getElem?_eq_some_iff.1 k1).1).trans k1); obtain ⟨hck1, hfk1⟩ := blk_cells k1; have hltk1 := (Array.getElem?_eq_some_iff.1 k1).1; have k2 := (hx.block (w.heap.size + 1 + 1) (by first | exact (Array.getElem?_eq_some_iff.1 k2).1 | omega | (simp; done) | (simp; omega))).trans (by first | exact k2 | exact (Below.heap_alloc _ _ _ (Array.getElem?_eq_some_iff.1 k2).1).trans k2); obtain ⟨hck2, hfk2⟩ := blk_cells k2; have hltk2 := (Array.getElem?_eq_some_iff.1 k2).1; have hall : Below w.heap.size w w1 := Below.trans (by go_grown) (hx.mono (by go_size)); have hsz : w.heap.size ≤ w1.heap.size := hall.size; clear hx))
    refine bodyPost_ret (v := .tuple #[.agg #[.int .i64 0, .int .i64 0], .agg #[.int .i64 0, .int .i64 0], .int .i64 1]) (by simp [results, Tryz.results62, go_sem, hck1, hck2]) rfl ⟨rfl, ((((hall.setCell (p := ⟨w.heap.size + 1, 0, none⟩) (show w.heap.size ≤ w.heap.size + 1 by omega) _).setCell (p := ⟨w.heap.size + 1, 1, none⟩) (show w.heap.size ≤ w.heap.size + 1 by omega) _).setCell (p := ⟨w.heap.size + 1 + 1, 0, none⟩) (show w.heap.size ≤ w.heap.size + 1 + 1 by omega) _).setCell (p := ⟨w.heap.size + 1 + 1, 1, none⟩) (show w.heap.size ≤ w.heap.size + 1 + 1 by omega) _)⟩
set_option maxRecDepth 100000 in
set_option maxHeartbeats 4000000 in
theorem TrueB_ok (x s l n1 d1 n2 d2 : Int) (w : World) (hc : Pl.chainOk x s = true) (h0 : 1 ≤ l) (h1 : l ≤ 100000) (hT : TrOk x s l n1 d1 n2 d2) :
    Calls Tryz.prog 62 #[.agg #[.int .i64 x, .int .i64 s], .int .i64 l] w fun e w' => e = .returned (.tuple #[.agg #[.int .i64 n1, .int .i64 d1], .agg #[.int .i64 n2, .int .i64 d2], .int .i64 0]) ∧ Below w.heap.size w w' := by
  obtain ⟨p, q, hp, hq, p0, p1, q0, q1, e1, e2, e3, e4⟩ := hT
  subst e1 e2 e3 e4
  have HP : Hid (l * (10000 + x - s) = p) := Lib.hid hp
  have HQ : Hid (l * (10000 + x + s) = q) := Lib.hid hq
  have HC : Hid (Pl.err (Pl.chainOk x s) = 0) := by rw [hc]; exact Lib.hid rfl
  have hc' : (-500 ≤ x ∧ x ≤ 500) ∧ 0 ≤ s ∧ s ≤ 200 := by simpa [Pl.chainOk] using hc
  obtain ⟨⟨h2, h3⟩, h4, h5⟩ := hc'
  obtain ⟨⟨b0, b1⟩, b2, b3⟩ := Pl.len_bd h0 h1 h2 h3 h4 h5
  clear hp hq hc
  have u1 : IntKind.i64.wrap (10000 + x) = 10000 + x := IntWalk.i64_in _ (by omega)
  have u2 : IntKind.i64.wrap (10000 + x - s) = 10000 + x - s := IntWalk.i64_in _ (by omega)
  have u3 : IntKind.i64.wrap (10000 + x + s) = 10000 + x + s := IntWalk.i64_in _ (by omega)
  have u4 : IntKind.i64.wrap (l * (10000 + x - s)) = (p : Int) := (IntWalk.i64_in _ (by omega)).trans HP.out
  have u5 : IntKind.i64.wrap (l * (10000 + x + s)) = (q : Int) := (IntWalk.i64_in _ (by omega)).trans HQ.out
  clear b0 b1 b2 b3 HP HQ
  have k0 := heap_alloc_new w (.cells #[.int .i64 x, .int .i64 s] 27)
  have k1 := heap_alloc2_new w (.cells #[.int .i64 x, .int .i64 s] 27) (.cells #[.int .i64 0, .int .i64 0] 65)
  have k0 := (Below.heap_alloc _ (.cells #[.int .i64 0, .int .i64 0] 65) _ (Array.getElem?_eq_some_iff.1 k0).1).trans k0
  have k0 := (Below.heap_alloc _ (.cells #[.int .i64 0, .int .i64 0] 65) _ (Array.getElem?_eq_some_iff.1 k0).1).trans k0
  have k1 := (Below.heap_alloc _ (.cells #[.int .i64 0, .int .i64 0] 65) _ (Array.getElem?_eq_some_iff.1 k1).1).trans k1
  have sz := alloc2_size w (.cells #[.int .i64 x, .int .i64 s] 27) (.cells #[.int .i64 0, .int .i64 0] 65)
  have k2 := heap_alloc_new ((w.alloc (.cells #[.int .i64 x, .int .i64 s] 27)).alloc (.cells #[.int .i64 0, .int .i64 0] 65)) (.cells #[.int .i64 0, .int .i64 0] 65)
  rw [sz] at k2
  clear sz
  go_enter Tryz.func62, Tryz.ntmps62
  go_wp2_with (first
    | (go_at_call 68; refine (chainB_h x s 0 _ HC).mono ?_; rintro e w1 ⟨rfl, hx⟩; have k0 := (hx.block (w.heap.size) (by first | exact (Array.getElem?_eq_some_iff.1 k0).1 | omega | (simp; done) | (simp; omega))).trans (by first | exact k0 | exact (Below.heap_alloc _ _ _ (Array.getElem?_eq_some_iff.1 k0).1).trans k0); obtain ⟨hck0, hfk0⟩ := blk_cells k0; have hltk0 := (Array.getElem?_eq_some_iff.1 k0).1; have k1 := (hx.block (w.heap.size + 1) (by first | exact (Array.getElem?_eq_some_iff.1 k1).1 | omega | (simp; done) | (simp; omega))).trans (by first | exact k1 | exact (Below.heap_alloc _ _ _ (Array.getElem?_eq_some_iff.1 k1).1).trans k1); obtain ⟨hck1, hfk1⟩ := blk_cells k1; have hltk1 := (Array.getElem?_eq_some_iff.1 k1).1; have k2 := (hx.block (w.heap.size + 1 + 1) (by first | exact (Array.getElem?_eq_some_iff.1 k2).1 | omega | (simp; done) | (simp; omega))).trans (by first | exact k2 | exact (Below.heap_alloc _ _ _ (Array.getElem?_eq_some_iff.1 k2).1).trans k2); obtain ⟨hck2, hfk2⟩ := blk_cells k2; have hltk2 := (Array.getElem?_eq_some_iff.1 k2).1; have hall : Below w.heap.size w w1 := Below.trans (by go_grown) (hx.mono (by go_size)); have hsz : w.heap.size ≤ w1.heap.size := hall.size; clear hx))
  go_region_held3 (fun W => W.cell? ⟨w.heap.size, 0, none⟩ = some (.int .i64 x) ∧ W.cell? ⟨w.heap.size, 1, none⟩ = some (.int .i64 s)) (first | exact ⟨hck0 0, hck0 1⟩ | exact ⟨by rw [set_keep _ _ _ _ _ _ (by omega), set_keep _ _ _ _ _ _ (by omega)]; exact hck0 0, by rw [set_keep _ _ _ _ _ _ (by omega), set_keep _ _ _ _ _ _ (by omega)]; exact hck0 1⟩ | exact ⟨by rw [set_keep _ _ _ _ _ _ (by omega), set_keep _ _ _ _ _ _ (by omega), set_keep _ _ _ _ _ _ (by omega), set_keep _ _ _ _ _ _ (by omega)]; exact hck0 0, by rw [set_keep _ _ _ _ _ _ (by omega), set_keep _ _ _ _ _ _ (by omega), set_keep _ _ _ _ _ _ (by omega), set_keep _ _ _ _ _ _ (by omega)]; exact hck0 1⟩) ((go_at_call 102; refine (fraction_b _ _ (by omega) (by omega)).mono ?_; rintro e w3 ⟨rfl, hx⟩; have k0 := (hx.block (w.heap.size) (by first | exact (Array.getElem?_eq_some_iff.1 k0).1 | omega | (simp; done) | (simp; omega))).trans (by first | exact k0 | exact (Below.heap_alloc _ _ _ (Array.getElem?_eq_some_iff.1 k0).1).trans k0); obtain ⟨hck0, hfk0⟩ := blk_cells k0; have hltk0 := (Array.getElem?_eq_some_iff.1 k0).1; have k1 := (hx.block (w.heap.size + 1) (by first | exact (Array.getElem?_eq_some_iff.1 k1).1 | omega | (simp; done) | (simp; omega))).trans (by first | exact k1 | exact (Below.heap_alloc _ _ _ (Array.getElem?_eq_some_iff.1 k1).1).trans k1); obtain ⟨hck1, hfk1⟩ := blk_cells k1; have hltk1 := (Array.getElem?_eq_some_iff.1 k1).1; have k2 := (hx.block (w.heap.size + 1 + 1) (by first | exact (Array.getElem?_eq_some_iff.1 k2).1 | omega | (simp; done) | (simp; omega))).trans (by first | exact k2 | exact (Below.heap_alloc _ _ _ (Array.getElem?_eq_some_iff.1 k2).1).trans k2); obtain ⟨hck2, hfk2⟩ := blk_cells k2; have hltk2 := (Array.getElem?_eq_some_iff.1 k2).1; have hall : Below w.heap.size w w3 := Below.trans (by go_grown) (hx.mono (by go_size)); have hsz : w.heap.size ≤ w3.heap.size := hall.size; clear hx))
  all_goals go_wp2
  all_goals refine bodyPost_ret (v := .tuple #[.agg #[.int .i64 (fr1 p), .int .i64 (fr2 p)], .agg #[.int .i64 (fr1 q), .int .i64 (fr2 q)], .int .i64 0]) (by simp [results, Tryz.results62, go_sem, hck1, hck2]) rfl ⟨rfl, ((((hall.setCell (p := ⟨w.heap.size + 1, 0, none⟩) (show w.heap.size ≤ w.heap.size + 1 by omega) _).setCell (p := ⟨w.heap.size + 1, 1, none⟩) (show w.heap.size ≤ w.heap.size + 1 by omega) _).setCell (p := ⟨w.heap.size + 1 + 1, 0, none⟩) (show w.heap.size ≤ w.heap.size + 1 + 1 by omega) _).setCell (p := ⟨w.heap.size + 1 + 1, 1, none⟩) (show w.heap.size ≤ w.heap.size + 1 + 1 by omega) _)⟩
end Go.Proofs.YthncpapejijloaaGreatDoor
