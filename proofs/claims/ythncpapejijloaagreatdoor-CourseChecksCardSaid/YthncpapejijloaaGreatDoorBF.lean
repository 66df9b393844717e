/- Walks: True of both. -/
import Derived.Test.YthncpapejijloaaGreatDoorProg
import Derived.WalkKit
import Derived.WalkLawsBesides
import Derived.WalkSpells
import Derived.Handy
import Derived.Lib.Hide
import Derived.Great.BuildSlice
import Derived.Deep.QuietTactic
import Derived.BigQuiet
import Derived.Deep.RegionHeld3
import Derived.Deep.DeepCutAuto
import Derived.Test.YthncpapejijloaaGreatDoorBE
namespace Go.Proofs.YthncpapejijloaaGreatDoor
open Go.RowKit

theorem true1_h (m : Nat) (n d : Int) (w : World) (h0 : 1 ≤ m) (h1 : m ≤ 2000000000) (hn : Hid (fr1 m = n)) (hd : Hid (fr2 m = d)) : Calls Tryz.prog 99 #[.int .i64 m] w fun e w' => e = .returned (.agg #[.int .i64 n, .int .i64 d]) ∧ Below w.heap.size w w' := by
  rw [← hn.out, ← hd.out]; exact true1_a m w h0 h1
theorem fraction_h (z : Int) (m : Nat) (n d : Int) (w : World) (hz : Hid (z = m)) (h0 : 1 ≤ m) (h1 : m ≤ 2000000000) (hn : Hid (fr1 m = n)) (hd : Hid (fr2 m = d)) : Calls Tryz.prog 102 #[.int .i64 z, .int .i64 10000] w fun e w' => e = .returned (.agg #[.int .i64 n, .int .i64 d]) ∧ Below w.heap.size w w' := by
  rw [← hn.out, ← hd.out, hz.out]; exact fraction_b m w h0 h1
theorem lengths_h (x s l : Int) (p q : Nat) (w : World) (h0 : 1 ≤ l) (h1 : l ≤ 100000) (h2 : -500 ≤ x) (h3 : x ≤ 500) (h4 : 0 ≤ s) (h5 : s ≤ 200) (hp : Hid (Pl.near l x s = p)) (hq : Hid (Pl.far l x s = q)) :
    Calls Tryz.prog 101 #[.agg #[.int .i64 x, .int .i64 s], .int .i64 l] w fun e w' => e = .returned (.tuple #[.int .i64 p, .int .i64 q]) ∧ Below w.heap.size w w' := by
  rw [← hp.out, ← hq.out]; exact lengths_a x s l w h0 h1 h2 h3 h4 h5
theorem chainA_h (x s : Int) (E : Int) (w : World) (h : Hid (Pl.err (Pl.chainOk x s) = E)) :
    Calls Tryz.prog 67 #[.agg #[.int .i64 x, .int .i64 s]] w fun e w' => e = .returned (.int .i64 E) ∧ Below w.heap.size w w' := by
  rw [← h.out]; exact chain_a x s w
theorem chainB_h (x s : Int) (E : Int) (w : World) (h : Hid (Pl.err (Pl.chainOk x s) = E)) :
    Calls Tryz.prog 68 #[.agg #[.int .i64 x, .int .i64 s]] w fun e w' => e = .returned (.int .i64 E) ∧ Below w.heap.size w w' := by
  rw [← h.out]; exact chain_b x s w
theorem in_h (x a b : Int) (B : Bool) (w : World) (h : Hid (Pl.inB x a b = B)) :
    Calls Tryz.prog 87 #[.int .i64 x, .int .i64 a, .int .i64 b] w fun e w' => e = .returned (.bool B) ∧ w = w' := by
  rw [← h.out]; exact in_a x a b w
theorem alloc2_size (w : World) (a b : Obj) : ((w.alloc a).alloc b).heap.size = w.heap.size + 1 + 1 := by simp
/-- The numbers of the two fractions. -/
theorem tr_nums {x s l : Int} (hc : Pl.chainOk x s = true) (h0 : 1 ≤ l) (h1 : l ≤ 100000) :
    ∃ p q : Nat, Pl.near l x s = p ∧ Pl.far l x s = q ∧ 1 ≤ p ∧ p ≤ 2000000000 ∧ 1 ≤ q ∧ q ≤ 2000000000 := by
  have hc' : (-500 ≤ x ∧ x ≤ 500) ∧ 0 ≤ s ∧ s ≤ 200 := by simpa [Pl.chainOk] using hc
  obtain ⟨⟨h2, h3⟩, h4, h5⟩ := hc'
  have hb := Pl.len_bd h0 h1 h2 h3 h4 h5
  have n1 : 0 < l * (10000 + x - s) := Int.mul_pos (by omega) (by omega)
  have f1 : 0 < l * (10000 + x + s) := Int.mul_pos (by omega) (by omega)
  refine ⟨(l * (10000 + x - s)).toNat, (l * (10000 + x + s)).toNat, ?_, ?_, ?_, ?_, ?_, ?_⟩
  · show l * (10000 + x - s) = _; omega
  · show l * (10000 + x + s) = _; omega
  all_goals omega
def TrOk (x s l : Int) (n1 d1 n2 d2 : Int) : Prop := ∃ p q : Nat, Pl.near l x s = p ∧ Pl.far l x s = q ∧ 1 ≤ p ∧ p ≤ 2000000000 ∧ 1 ≤ q ∧ q ≤ 2000000000 ∧ fr1 p = n1 ∧ fr2 p = d1 ∧ fr1 q = n2 ∧ fr2 q = d2
theorem tr_ok {x s l : Int} (hc : Pl.chainOk x s = true) (h0 : 1 ≤ l) (h1 : l ≤ 100000) : ∃ n1 d1 n2 d2, TrOk x s l n1 d1 n2 d2 := by
  obtain ⟨p, q, a, b, c, d, e, f⟩ := tr_nums hc h0 h1
  exact ⟨_, _, _, _, p, q, a, b, c, d, e, f, rfl, rfl, rfl, rfl⟩
set_option maxRecDepth 100000 in
set_option maxHeartbeats 1000000 in
theorem TrueA_ok (x s l n1 d1 n2 d2 : Int) (w : World) (hc : Pl.chainOk x s = true) (h0 : 1 ≤ l) (h1 : l ≤ 100000) (hT : TrOk x s l n1 d1 n2 d2) :
    Calls Tryz.prog 61 #[.agg #[.int .i64 x, .int .i64 s], .int .i64 l] w fun e w' => e = .returned (.tuple #[.agg #[.int .i64 n1, .int .i64 d1], .agg #[.int .i64 n2, .int .i64 d2], .int .i64 0]) ∧ Below w.heap.size w w' := by
  obtain ⟨p, q, hp, hq, p0, p1, q0, q1, e1, e2, e3, e4⟩ := hT
  have E1 := Lib.hid e1
  have E2 := Lib.hid e2
  have E3 := Lib.hid e3
  have E4 := Lib.hid e4
  have HP := Lib.hid hp
  have HQ := Lib.hid hq
  have HC : Hid (Pl.err (Pl.chainOk x s) = 0) := by rw [hc]; exact Lib.hid rfl
  have HI : Hid (Pl.inB l 1 100000 = true) := Lib.hid (by simp [Pl.inB, h0, h1])
  have hc' : (-500 ≤ x ∧ x ≤ 500) ∧ 0 ≤ s ∧ s ≤ 200 := by simpa [Pl.chainOk] using hc
  obtain ⟨⟨h2, h3⟩, h4, h5⟩ := hc'
  clear e1 e2 e3 e4 hp hq hc
  have k0 := heap_alloc_new w (.cells #[.int .i64 x, .int .i64 s] 27)
  have k1 := heap_alloc2_new w (.cells #[.int .i64 x, .int .i64 s] 27) (.cells #[.int .i64 0, .int .i64 0] 65)
  have k0 := (Below.heap_alloc _ (.cells #[.int .i64 0, .int .i64 0] 65) _ (Array.getElem?_eq_some_iff.1 k0).1).trans k0
  have k0 := (Below.heap_alloc _ (.cells #[.int .i64 0, .int .i64 0] 65) _ (Array.getElem?_eq_some_iff.1 k0).1).trans k0
  have k1 := (Below.heap_alloc _ (.cells #[.int .i64 0, .int .i64 0] 65) _ (Array.getElem?_eq_some_iff.1 k1).1).trans k1
  have sz := alloc2_size w (.cells #[.int .i64 x, .int .i64 s] 27) (.cells #[.int .i64 0, .int .i64 0] 65)
  have k2 := heap_alloc_new ((w.alloc (.cells #[.int .i64 x, .int .i64 s] 27)).alloc (.cells #[.int .i64 0, .int .i64 0] 65)) (.cells #[.int .i64 0, .int .i64 0] 65)
  rw [sz] at k2
  clear sz
  go_enter Tryz.func61, Tryz.ntmps61
  go_wp2_with (first
    | (go_at_call 67; refine (chainA_h x s 0 _ HC).mono ?_; rintro e w1 ⟨rfl, hx⟩; have k0 := (hx.block (w.heap.size) (by first | exact (Array.getElem?_eq_some_iff.1 k0).1 | omega | (simp; done) | (simp; omega))).trans (by first | exact k0 | exact (Below.heap_alloc _ _ _ (Array.getElem?_eq_some_iff.1 k0).1).trans k0); obtain ⟨hck0, hfk0⟩ := blk_cells k0; have hltk0 := (Array.getElem?_eq_some_iff.1 k0).1; have k1 := (hx.block (w.heap.size + 1) (by first | exact (Array.getElem?_eq_some_iff.1 k1).1 | omega | (simp; done) | (simp; omega))).trans (by first | exact k1 | exact (Below.heap_alloc _ _ _ (Array.getElem?_eq_some_iff.1 k1).1).trans k1); obtain ⟨hck1, hfk1⟩ := blk_cells k1; have hltk1 := (Array.getElem?_eq_some_iff.1 k1).1; have k2 := (hx.block (w.heap.size + 1 + 1) (by first | exact (Array.getElem?_eq_some_iff.1 k2).1 | omega | (simp; done) | (simp; omega))).trans (by first | exact k2 | exact (Below.heap_alloc _ _ _ (Array.getElem?_eq_some_iff.1 k2).1).trans k2); obtain ⟨hck2, hfk2⟩ := blk_cells k2; have hltk2 := (Array.getElem?_eq_some_iff.1 k2).1; have hall : Below w.heap.size w w1 := Below.trans (by go_grown) (hx.mono (by go_size)); have hsz : w.heap.size ≤ w1.heap.size := hall.size; clear hx)
    | (go_at_call 87; refine (in_h _ _ _ _ _ HI).mono ?_; rintro e w' ⟨rfl, rfl⟩))
  (go_at_call 101; refine (lengths_h x s l p q _ h0 h1 h2 h3 h4 h5 HP HQ).mono ?_; rintro e w2 ⟨rfl, hx⟩; have k0 := (hx.block (w.heap.size) (by first | exact (Array.getElem?_eq_some_iff.1 k0).1 | omega | (simp; done) | (simp; omega))).trans (by first | exact k0 | exact (Below.heap_alloc _ _ _ (Array.getElem?_eq_some_iff.1 k0).1).trans k0); obtain ⟨hck0, hfk0⟩ := blk_cells k0; have hltk0 := (Array.getElem?_eq_some_iff.1 k0).1; have k1 := (hx.block (w.heap.size + 1) (by first | exact (Array.getElem?_eq_some_iff.1 k1).1 | omega | (simp; done) | (simp; omega))).trans (by first | exact k1 | exact (Below.heap_alloc _ _ _ (Array.getElem?_eq_some_iff.1 k1).1).trans k1); obtain ⟨hck1, hfk1⟩ := blk_cells k1; have hltk1 := (Array.getElem?_eq_some_iff.1 k1).1; have k2 := (hx.block (w.heap.size + 1 + 1) (by first | exact (Array.getElem?_eq_some_iff.1 k2).1 | omega | (simp; done) | (simp; omega))).trans (by first | exact k2 | exact (Below.heap_alloc _ _ _ (Array.getElem?_eq_some_iff.1 k2).1).trans k2); obtain ⟨hck2, hfk2⟩ := blk_cells k2; have hltk2 := (Array.getElem?_eq_some_iff.1 k2).1; have hall : Below w.heap.size w w2 := Below.trans (by go_grown) (hx.mono (by go_size)); have hsz : w.heap.size ≤ w2.heap.size := hall.size; clear hx)
  go_wp2_with fail
  (go_at_call 99; refine (true1_h p n1 d1 _ p0 p1 E1 E2).mono ?_; rintro e w3 ⟨rfl, hx⟩; have k0 := (hx.block (w.heap.size) (by first | exact (Array.getElem?_eq_some_iff.1 k0).1 | omega | (simp; done) | (simp; omega))).trans (by first | exact k0 | exact (Below.heap_alloc _ _ _ (Array.getElem?_eq_some_iff.1 k0).1).trans k0); obtain ⟨hck0, hfk0⟩ := blk_cells k0; have hltk0 := (Array.getElem?_eq_some_iff.1 k0).1; have k1 := (hx.block (w.heap.size + 1) (by first | exact (Array.getElem?_eq_some_iff.1 k1).1 | omega | (simp; done) | (simp; omega))).trans (by first | exact k1 | exact (Below.heap_alloc _ _ _ (Array.getElem?_eq_some_iff.1 k1).1).trans k1); obtain ⟨hck1, hfk1⟩ := blk_cells k1; have hltk1 := (Array.getElem?_eq_some_iff.1 k1).1; have k2 := (hx.block (w.heap.size + 1 + 1) (by first | exact (Array.getElem?_eq_some_iff.1 k2).1 | omega | (simp; done) | (simp; omega))).trans (by first | exact k2 | exact (Below.heap_alloc _ _ _ (Array.getElem?_eq_some_iff.1 k2).1).trans k2); obtain ⟨hck2, hfk2⟩ := blk_cells k2; have hltk2 := (Array.getElem?_eq_some_iff.1 k2).1; have hall : Below w.heap.size w w3 := Below.trans (by go_grown) (hx.mono (by go_size)); have hsz : w.heap.size ≤ w3.heap.size := hall.size; clear hx)
  go_wp2_with fail
  (go_at_call 99; refine (true1_h q n2 d2 _ q0 q1 E3 E4).mono ?_; rintro e w4 ⟨rfl, hx⟩; have k0 := (hx.block (w.heap.size) (by first | exact (Array.getElem?_eq_some_iff.1 k0).1 | omega | (simp; done) | (simp; omega))).trans (by first | exact k0 | exact (Below.heap_alloc _ _ _ (Array.getElem?_eq_some_iff.1 k0).1).trans k0); obtain ⟨hck0, hfk0⟩ := blk_cells k0; have hltk0 := (Array.getElem?_eq_some_iff.1 k0).1; have k1 := (hx.block (w.heap.size + 1) (by first | exact (Array.getElem?_eq_some_iff.1 k1).1 | omega | (simp; done) | (simp; omega))).trans (by first | exact k1 | exact (Below.heap_alloc _ _ _ (Array.getElem?_eq_some_iff.1 k1).1).trans k1); obtain ⟨hck1, hfk1⟩ := blk_cells k1; have hltk1 := (Array.getElem?_eq_some_iff.1 k1).1; have k2 := (hx.block (w.heap.size + 1 + 1) (by first | exact (Array.getElem?_eq_some_iff.1 k2).1 | omega | (simp; done) | (simp; omega))).trans (by first | exact k2 | exact (Below.heap_alloc _ _ _ (Array.getElem?_eq_some_iff.1 k2).1).trans k2); obtain ⟨hck2, hfk2⟩ := blk_cells k2; have hltk2 := (Array.getElem?_eq_some_iff.1 k2).1; have hall : Below w.heap.size w w4 := Below.trans (by go_grown) (hx.mono (by go_size)); have hsz : w.heap.size ≤ w4.heap.size := hall.size; clear hx)
  clear hck0 hfk0 hltk0 k0
  go_wp2
  refine bodyPost_ret (v := .tuple #[.agg #[.int .i64 n1, .int .i64 d1], .agg #[.int .i64 n2, .int .i64 d2], .int .i64 0]) (by simp [results, Tryz.results61, go_sem, hck1, hck2]) rfl ⟨rfl, ((((hall.setCell (p := ⟨w.heap.size + 1, 0, none⟩) (show w.heap.size ≤ w.heap.size + 1 by omega) _).setCell (p := ⟨w.heap.size + 1, 1, none⟩) (show w.heap.size ≤ w.heap.size + 1 by omega) _).setCell (p := ⟨w.heap.size + 1 + 1, 0, none⟩) (show w.heap.size ≤ w.heap.size + 1 + 1 by omega) _).setCell (p := ⟨w.heap.size + 1 + 1, 1, none⟩) (show w.heap.size ≤ w.heap.size + 1 + 1 by omega) _)⟩
set_option maxRecDepth 100000 in
set_option maxHeartbeats 1000000 in
theorem TrueA_no (x s l : Int) (w : World) (h : ¬ (Pl.chainOk x s = true ∧ 1 ≤ l ∧ l ≤ 100000)) :
    Calls Tryz.prog 61 #[.agg #[.int .i64 x, .int .i64 s], .int .i64 l] w fun e w' => e = .returned (.tuple #[.agg #[.int .i64 0, .int .i64 0], .agg #[.int .i64 0, .int .i64 0], .int .i64 1]) ∧ Below w.heap.size w w' := by
  by_cases hc : Pl.chainOk x s = true
  · have HC : Hid (Pl.err (Pl.chainOk x s) = 0) := by rw [hc]; exact Lib.hid rfl
    have HI : Hid (Pl.inB l 1 100000 = false) := by unfold Hid; simp only [Pl.inB]; rw [decide_eq_false]; intro hh; exact h ⟨hc, hh.1, hh.2⟩
    clear hc h
    have k0 := heap_alloc_new w (.cells #[.int .i64 x, .int .i64 s] 27)
    have k1 := heap_alloc2_new w (.cells #[.int .i64 x, .int .i64 s] 27) (.cells #[.int .i64 0, .int .i64 0] 65)
    have k0 := (Below.heap_alloc _ (.cells #[.int .i64 0, .int .i64 0] 65) _ (Array.getElem?_eq_some_iff.1 k0).1).trans k0
    have k0 := (Below.heap_alloc _ (.cells #[.int .i64 0, .int .i64 0] 65) _ (Array.getElem?_eq_some_iff.1 k0).1).trans k0
    have k1 := (Below.heap_alloc _ (.cells #[.int .i64 0, .int .i64 0] 65) _ (Array.getElem?_eq_some_iff.1 k1).1).trans k1
    have sz := alloc2_size w (.cells #[.int .i64 x, .int .i64 s] 27) (.cells #[.int .i64 0, .int .i64 0] 65)
    have k2 := heap_alloc_new ((w.alloc (.cells #[.int .i64 x, .int .i64 s] 27)).alloc (.cells #[.int .i64 0, .int .i64 0] 65)) (.cells #[.int .i64 0, .int .i64 0] 65)
    rw [sz] at k2
    clear sz
    go_enter Tryz.func61, Tryz.ntmps61
    go_wp2_with (first
      | (go_at_call 67; refine (chainA_h x s 0 _ HC).mono ?_; rintro e w1 ⟨rfl, hx⟩; have k0 := (hx.block (w.heap.size) (by first | exact (Array.getElem?_eq_some_iff.1 k0).1 | omega | (simp; done) | (simp; omega))).trans (by first | exact k0 | exact (Below.heap_alloc _ _ _ (Array.getElem?_eq_some_iff.1 k0).1).trans k0); obtain ⟨hck0, hfk0⟩ := blk_cells k0; have hltk0 := (Array.getElem?_eq_some_iff.1 k0).1; have k1 := (hx.block (w.heap.size + 1) (by first | exact (Array.getElem?_eq_some_iff.1 k1).1 | omega | (simp; done) | (simp; omega))).trans (by first | exact k1 | exact (Below.heap_alloc _ _ _ (Array.getElem?_eq_some_iff.1 k1).1).trans k1); obtain ⟨hck1, hfk1⟩ := blk_cells k1; have hltk1 := (Array.getElem?_eq_some_iff.1 k1).1; have k2 := (hx.block (w.heap.size + 1 + 1) (by first | exact (Array.getElem?_eq_some_iff.1 k2).1 | omega | (simp; done) | (simp; omega))).trans (by first | exact k2 | exact (Below.heap_alloc _ _ _ (Array.getElem?_eq_some_iff.1 k2).1).trans k2); obtain ⟨hck2, hfk2⟩ := blk_cells k2; have hltk2 := (Array.getElem?_eq_some_iff.1 k2).1; have hall : Below w.heap.size w w1 := Below.trans (by go_grown) (hx.mono (by go_size)); have hsz : w.heap.size ≤ w1.heap.size := hall.size; clear hx)
      | (go_at_call 87; refine (in_h _ _ _ _ _ HI).mono ?_; rintro e w' ⟨rfl, rfl⟩))
    refine bodyPost_ret (v := .tuple #[.agg #[.int .i64 0, .int .i64 0], .agg #[.int .i64 0, .int .i64 0], .int .i64 1]) (by simp [results, Tryz.results61, go_sem, hck1, hck2]) rfl ⟨rfl, ((((hall.setCell (p := ⟨w.heap.size + 1, 0, none⟩) (show w.heap.size ≤ w.heap.size + 1 by omega) _).setCell (p := ⟨w.heap.size + 1, 1, none⟩) (show w.heap.size ≤ w.heap.size + 1 by omega) _).setCell (p := ⟨w.heap.size + 1 + 1, 0, none⟩) (show w.heap.size ≤ w.heap.size + 1 + 1 by omega) _).setCell (p := ⟨w.heap.size + 1 + 1, 1, none⟩) (show w.heap.size ≤ w.heap.size + 1 + 1 by omega) _)⟩
  · have HC : Hid (Pl.err (Pl.chainOk x s) = 1) := by rw [Bool.not_eq_true] at hc; rw [hc]; exact Lib.hid rfl
    clear hc h
    have k0 := heap_alloc_new w (.cells #[.int .i64 x, .int .i64 s] 27)
    have k1 := heap_alloc2_new w (.cells #[.int .i64 x, .int .i64 s] 27) (.cells #[.int .i64 0, .int .i64 0] 65)
    have k0 := (Below.heap_alloc _ (.cells #[.int .i64 0, .int .i64 0] 65) _ (Array.getElem?_eq_some_iff.1 k0).1).trans k0
    have k0 := (Below.heap_alloc _ (.cells #[.int .i64 0, .int .i64 0] 65) _ (Array.getElem?_eq_some_iff.1 k0).1).trans k0
    have k1 := (Below.heap_alloc _ (.cells #[.int .i64 0, .int .i64 0] 65) _ (Array.getElem?_eq_some_iff.1 k1).1).trans k1
    have sz := alloc2_size w (.cells #[.int .i64 x, .int .i64 s] 27) (.cells #[.int .i64 0, .int .i64 0] 65)
    have k2 := heap_alloc_new ((w.alloc (.cells #[.int .i64 x, .int .i64 s] 27)).alloc (.cells #[.int .i64 0, .int .i64 0] 65)) (.cells #[.int .i64 0, .int .i64 0] 65)
    rw [sz] at k2
    clear sz
    go_enter Tryz.func61, Tryz.ntmps61
    go_wp2_with (first
      | (go_at_call 67; refine (chainA_h x s 1 _ HC).mono ?_; rintro e w1 ⟨rfl, hx⟩; have k0 := (hx.block (w.heap.size) (by first | exact (Array.getElem?_eq_some_iff.1 k0).1 | omega | (simp; done) | (simp; omega))).trans (by first | exact k0 | exact (Below.heap_alloc _ _ _ (Array.getElem?_eq_some_iff.1 k0).1).trans k0); obtain ⟨hck0, hfk0⟩ := blk_cells k0; have hltk0 := (Array.getElem?_eq_some_iff.1 k0).1; have k1 := (hx.block (w.heap.size + 1) (by first | exact (Array.getElem?_eq_some_iff.1 k1).1 | omega | (simp; done) | (simp; omega))).trans (by first | exact k1 | exact (Below.heap_alloc _ _ _ (Array.getElem?_eq_some_iff.1 k1).1).trans k1); obtain ⟨hck1, hfk1⟩ := blk_cells k1; have hltk1 := (Array.getElem?_eq_some_iff.1 k1).1; have k2 := (hx.block (w.heap.size + 1 + 1) (by first | exact (Array.getElem?_eq_some_iff.1 k2).1 | omega | (simp; done) | (simp; omega))).trans (by first | exact k2 | exact (Below.heap_alloc _ _ _ (Array.getElem?_eq_some_iff.1 k2).1).trans k2); obtain ⟨hck2, hfk2⟩ := blk_cells k2; have hltk2 := (Array.getElem?_eq_some_iff.1 k2).1; have hall : Below w.heap.size w w1 := Below.trans (by go_grown) (hx.mono (by go_size)); have hsz : w.heap.size ≤ w1.heap.size := hall.size; clear hx))
    refine bodyPost_ret (v := .tuple #[.agg #[.int .i64 0, .int .i64 0], .agg #[.int .i64 0, .int .i64 0], .int .i64 1]) (by simp [results, Tryz.results61, go_sem, hck1, hck2]) rfl ⟨rfl, ((((hall.setCell (p := ⟨w.heap.size + 1, 0, none⟩) (show w.heap.size ≤ w.heap.size + 1 by omega) _).setCell (p := ⟨w.heap.size + 1, 1, none⟩) (show w.heap.size ≤ w.heap.size + 1 by omega) _).setCell (p := ⟨w.heap.size + 1 + 1, 0, none⟩) (show w.heap.size ≤ w.heap.size + 1 + 1 by omega) _).setCell (p := ⟨w.heap.size + 1 + 1, 1, none⟩) (show w.heap.size ≤ w.heap.size + 1 + 1 by omega) _)⟩
end Go.Proofs.YthncpapejijloaaGreatDoor
