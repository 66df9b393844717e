/- Walk: the law DeedCorners. -/
import Derived.Test.YtgbpekeoegfjpaaGreatDoorProg
import Derived.WalkKit
import Derived.WalkLawsBesides
import Derived.WalkSpells
import Derived.Handy
import Derived.Lib.Hide
import Derived.Great.BuildSlice
import Derived.Deep.QuietTactic
import Derived.BigQuiet
import Derived.Deep.RegionHeld3
import Derived.Deep.DeepCutAuto
import Derived.Test.YtgbpekeoegfjpaaGreatDoorFCa
namespace Go.Proofs.YtgbpekeoegfjpaaGreatDoor
open Go.RowKit
attribute [-go_sem] run_equalIn_agg storeVar loadVar
attribute [local go_sem] lv_int lv_bool lv_u8 lv_string lv_strings lv_stas lv_pars lv_vars

/-- The law, where the first point is right (P1) or not; and the second one is right or not. -/
structure CornersH (f : Pl.Fld) (l s p P e1 a b e2 N : Int) : Prop where
  pt : Pl.pointE f l s = (P, e1)
  cr : Pl.cornerE f p = (a, b, e2)
  n : (if Pl.fieldE f = 0 then 1 + ((f.li.length : Nat) : Int) * (f.st.length : Nat) else 0) = N
set_option maxRecDepth 100000 in
set_option maxHeartbeats 4000000 in
theorem deedCorners_ok (A1 A2 A3 A4 : Option Addr) (c1 c2 c3 c4 : Nat) (f : Pl.Fld) (l s p P e1 a b e2 N : Int) (w : World) (hEn : Env w) (hf : FldS w w.heap.size A1 A2 A3 A4 f) (hm : Small f) (hc : Caps c1 c2 c3 c4 f) (hv : Hid (Pl.vast f = false)) (H : CornersH f l s p P e1 a b e2 N) :
    Calls Tryz.prog 9 #[.agg #[.slice A1 f.st.length c1, .slice A2 f.li.length c2, .slice A3 f.pa.length c3, .slice A4 f.va.length c4], .int .i64 l, .int .i64 s, .int .i64 p] w fun e w' => e = .returned (.bool true) ∧ Below w.heap.size w w' := by
  have kf := (heap_alloc_new w (.cells #[.slice A1 f.st.length c1, .slice A2 f.li.length c2, .slice A3 f.pa.length c3, .slice A4 f.va.length c4] 28))
  have l0 := ld_row kf Tryz.underlying28 rfl info_fld
  have hall : Below w.heap.size w (w.alloc (.cells #[.slice A1 f.st.length c1, .slice A2 f.li.length c2, .slice A3 f.pa.length c3, .slice A4 f.va.length c4] 28)) := ((Below.refl _ w).alloc (Nat.le_refl _) _)
  obtain ⟨HP, HC, HN⟩ := H
  have k1 : Hid (e1 = 0 → Pl.cornerE f P = (l, s, 0) ∧ 1 ≤ P ∧ P < N) := Lib.hid (by intro h; subst h; obtain ⟨q1, q2, q3, q4⟩ := Pl.corner_of HP; rw [if_pos q2] at HN; exact ⟨q1, q3, by omega⟩)
  have k2 : Hid (e2 = 0 → Pl.pointE f a b = (p, 0)) := Lib.hid (by intro h; subst h; exact (Pl.point_of HC).1)
  have k3 : Hid (N ≠ 0 → (e2 = 0 → 1 ≤ p ∧ p < N) ∧ (e2 ≠ 0 → 1 ≤ p → ¬ p < N)) := Lib.hid (by
    intro hn
    by_cases h : Pl.fieldE f = 0
    · rw [if_pos h] at HN
      refine ⟨fun h2 => ?_, fun h2 h3 h4 => ?_⟩
      · subst h2
        have := (Pl.point_of HC).2
        omega
      · exact Pl.corner_err h HC h2 (by omega)
    · rw [if_neg h] at HN; exact absurd HN.symm hn)
  have HP := Lib.hid HP
  have HC := Lib.hid HC
  have HN := Lib.hid HN
  go_enter Tryz.func9, Tryz.ntmps9
  go_wp2_with fail
  refine (vast_a A1 A2 A3 A4 c1 c2 c3 c4 f _ (hf.up hall) false hv).mono ?_
  rintro e w1 ⟨rfl, hx⟩
  replace kf := (hx.block _ (Array.getElem?_eq_some_iff.1 kf).1).trans kf; replace hall : Below w.heap.size w _ := hall.trans (hx.mono hall.size); (try clear l0); have l0 := ld_row kf Tryz.underlying28 rfl info_fld; (try clear hcf hff); obtain ⟨hcf, hff⟩ := blk_cells kf; clear hx
  go_wp2_with fail
  refine (Point_h A1 A2 A3 A4 c1 c2 c3 c4 f l s P e1 _ HP (hf.up hall) hm hc).mono ?_
  rintro e w2 ⟨rfl, hx⟩
  replace kf := (hx.block _ (Array.getElem?_eq_some_iff.1 kf).1).trans kf; replace hall : Below w.heap.size w _ := hall.trans (hx.mono hall.size); (try clear l0); have l0 := ld_row kf Tryz.underlying28 rfl info_fld; (try clear hcf hff); obtain ⟨hcf, hff⟩ := blk_cells kf; clear hx
  by_cases h1 : e1 = 0
  case pos =>
    subst h1
    obtain ⟨HQ, p1, p2⟩ := k1.out rfl
    have HQ := Lib.hid HQ
    go_wp2_with fail
    refine (Corner_h A1 A2 A3 A4 c1 c2 c3 c4 f P l s 0 _ HQ (hf.up hall) hm hc).mono ?_
    rintro e w3 ⟨rfl, hx⟩
    replace kf := (hx.block _ (Array.getElem?_eq_some_iff.1 kf).1).trans kf; replace hall : Below w.heap.size w _ := hall.trans (hx.mono hall.size); (try clear l0); have l0 := ld_row kf Tryz.underlying28 rfl info_fld; (try clear hcf hff); obtain ⟨hcf, hff⟩ := blk_cells kf; clear hx
    go_wp2_with fail
    refine (Points_h A1 A2 A3 A4 c1 c2 c3 c4 f N _ HN (hf.up hall) hm hc).mono ?_
    rintro e w4 ⟨rfl, hx⟩
    replace kf := (hx.block _ (Array.getElem?_eq_some_iff.1 kf).1).trans kf; replace hall : Below w.heap.size w _ := hall.trans (hx.mono hall.size); (try clear l0); have l0 := ld_row kf Tryz.underlying28 rfl info_fld; (try clear hcf hff); obtain ⟨hcf, hff⟩ := blk_cells kf; clear hx
    go_wp2_with fail
    refine (Corner_h A1 A2 A3 A4 c1 c2 c3 c4 f p a b e2 _ HC (hf.up hall) hm hc).mono ?_
    rintro e w5 ⟨rfl, hx⟩
    replace kf := (hx.block _ (Array.getElem?_eq_some_iff.1 kf).1).trans kf; replace hall : Below w.heap.size w _ := hall.trans (hx.mono hall.size); (try clear l0); have l0 := ld_row kf Tryz.underlying28 rfl info_fld; (try clear hcf hff); obtain ⟨hcf, hff⟩ := blk_cells kf; clear hx
    by_cases h2 : e2 = 0
    case pos =>
      have HR := Lib.hid (k2.out h2)
      have hz := Lib.hid (fun h => (k3.out h).1 h2)
      subst h2
      go_wp2_with fail
      refine (Point_h A1 A2 A3 A4 c1 c2 c3 c4 f a b p 0 _ HR (hf.up hall) hm hc).mono ?_
      rintro e w6 ⟨rfl, hx⟩
      replace kf := (hx.block _ (Array.getElem?_eq_some_iff.1 kf).1).trans kf; replace hall : Below w.heap.size w _ := hall.trans (hx.mono hall.size); (try clear l0); have l0 := ld_row kf Tryz.underlying28 rfl info_fld; (try clear hcf hff); obtain ⟨hcf, hff⟩ := blk_cells kf; clear hx
      go_wp2_with fail
      refine (spoken_a _ (hEn.up hall)).mono ?_
      rintro e w7 ⟨rfl, hx⟩
      replace kf := (hx.block _ (Array.getElem?_eq_some_iff.1 kf).1).trans kf; replace hall : Below w.heap.size w _ := hall.trans (hx.mono hall.size); (try clear l0); have l0 := ld_row kf Tryz.underlying28 rfl info_fld; (try clear hcf hff); obtain ⟨hcf, hff⟩ := blk_cells kf; clear hx
      go_wp2_with fail
      refine (Points_h A1 A2 A3 A4 c1 c2 c3 c4 f N _ HN (hf.up hall) hm hc).mono ?_
      rintro e w8 ⟨rfl, hx⟩
      replace kf := (hx.block _ (Array.getElem?_eq_some_iff.1 kf).1).trans kf; replace hall : Below w.heap.size w _ := hall.trans (hx.mono hall.size); (try clear l0); have l0 := ld_row kf Tryz.underlying28 rfl info_fld; (try clear hcf hff); obtain ⟨hcf, hff⟩ := blk_cells kf; clear hx
      by_cases hN0 : N = 0
      · subst hN0
        go_wp2_with fail
        go_ret
        exact ⟨by first | rfl | (simp; done) | (simp; omega), hall⟩
      · have q3 : (N == 0) = false := by simpa using hN0
        obtain ⟨hp1, hp2⟩ := hz.out hN0
        go_wp2_with fail
        refine (Points_h A1 A2 A3 A4 c1 c2 c3 c4 f N _ HN (hf.up hall) hm hc).mono ?_
        rintro e w9 ⟨rfl, hx⟩
        replace kf := (hx.block _ (Array.getElem?_eq_some_iff.1 kf).1).trans kf; replace hall : Below w.heap.size w _ := hall.trans (hx.mono hall.size); (try clear l0); have l0 := ld_row kf Tryz.underlying28 rfl info_fld; (try clear hcf hff); obtain ⟨hcf, hff⟩ := blk_cells kf; clear hx
        go_wp2_with fail
        go_ret
        exact ⟨by first | rfl | (simp; done) | (simp; omega), hall⟩
    case neg =>
      have hz := Lib.hid (fun h => (k3.out h).2 h2)
      have q2 : (e2 == 0) = false := by simpa using h2
      go_wp2_with fail
      refine (spoken_a _ (hEn.up hall)).mono ?_
      rintro e w7 ⟨rfl, hx⟩
      replace kf := (hx.block _ (Array.getElem?_eq_some_iff.1 kf).1).trans kf; replace hall : Below w.heap.size w _ := hall.trans (hx.mono hall.size); (try clear l0); have l0 := ld_row kf Tryz.underlying28 rfl info_fld; (try clear hcf hff); obtain ⟨hcf, hff⟩ := blk_cells kf; clear hx
      go_wp2_with fail
      refine (Points_h A1 A2 A3 A4 c1 c2 c3 c4 f N _ HN (hf.up hall) hm hc).mono ?_
      rintro e w8 ⟨rfl, hx⟩
      replace kf := (hx.block _ (Array.getElem?_eq_some_iff.1 kf).1).trans kf; replace hall : Below w.heap.size w _ := hall.trans (hx.mono hall.size); (try clear l0); have l0 := ld_row kf Tryz.underlying28 rfl info_fld; (try clear hcf hff); obtain ⟨hcf, hff⟩ := blk_cells kf; clear hx
      by_cases hN0 : N = 0
      · subst hN0
        go_wp2_with fail
        go_ret
        exact ⟨by first | rfl | (simp; done) | (simp; omega), hall⟩
      · have q3 : (N == 0) = false := by simpa using hN0
        by_cases hp1 : 1 ≤ p
        · have hp2 := hz.out hN0 hp1
          go_wp2_with fail
          refine (Points_h A1 A2 A3 A4 c1 c2 c3 c4 f N _ HN (hf.up hall) hm hc).mono ?_
          rintro e w9 ⟨rfl, hx⟩
          replace kf := (hx.block _ (Array.getElem?_eq_some_iff.1 kf).1).trans kf; replace hall : Below w.heap.size w _ := hall.trans (hx.mono hall.size); (try clear l0); have l0 := ld_row kf Tryz.underlying28 rfl info_fld; (try clear hcf hff); obtain ⟨hcf, hff⟩ := blk_cells kf; clear hx
          go_wp2_with fail
          go_ret
          exact ⟨by first | rfl | (simp; done) | (simp; omega), hall⟩
        · go_wp2_with fail
          go_ret
          exact ⟨by first | rfl | (simp; done) | (simp; omega), hall⟩
  case neg =>
    have q1 : (e1 == 0) = false := by simpa using h1
    go_wp2_with fail
    refine (Corner_h A1 A2 A3 A4 c1 c2 c3 c4 f p a b e2 _ HC (hf.up hall) hm hc).mono ?_
    rintro e w5 ⟨rfl, hx⟩
    replace kf := (hx.block _ (Array.getElem?_eq_some_iff.1 kf).1).trans kf; replace hall : Below w.heap.size w _ := hall.trans (hx.mono hall.size); (try clear l0); have l0 := ld_row kf Tryz.underlying28 rfl info_fld; (try clear hcf hff); obtain ⟨hcf, hff⟩ := blk_cells kf; clear hx
    by_cases h2 : e2 = 0
    case pos =>
      have HR := Lib.hid (k2.out h2)
      have hz := Lib.hid (fun h => (k3.out h).1 h2)
      subst h2
      go_wp2_with fail
      refine (Point_h A1 A2 A3 A4 c1 c2 c3 c4 f a b p 0 _ HR (hf.up hall) hm hc).mono ?_
      rintro e w6 ⟨rfl, hx⟩
      replace kf := (hx.block _ (Array.getElem?_eq_some_iff.1 kf).1).trans kf; replace hall : Below w.heap.size w _ := hall.trans (hx.mono hall.size); (try clear l0); have l0 := ld_row kf Tryz.underlying28 rfl info_fld; (try clear hcf hff); obtain ⟨hcf, hff⟩ := blk_cells kf; clear hx
      go_wp2_with fail
      refine (spoken_a _ (hEn.up hall)).mono ?_
      rintro e w7 ⟨rfl, hx⟩
      replace kf := (hx.block _ (Array.getElem?_eq_some_iff.1 kf).1).trans kf; replace hall : Below w.heap.size w _ := hall.trans (hx.mono hall.size); (try clear l0); have l0 := ld_row kf Tryz.underlying28 rfl info_fld; (try clear hcf hff); obtain ⟨hcf, hff⟩ := blk_cells kf; clear hx
      go_wp2_with fail
      refine (Points_h A1 A2 A3 A4 c1 c2 c3 c4 f N _ HN (hf.up hall) hm hc).mono ?_
      rintro e w8 ⟨rfl, hx⟩
      replace kf := (hx.block _ (Array.getElem?_eq_some_iff.1 kf).1).trans kf; replace hall : Below w.heap.size w _ := hall.trans (hx.mono hall.size); (try clear l0); have l0 := ld_row kf Tryz.underlying28 rfl info_fld; (try clear hcf hff); obtain ⟨hcf, hff⟩ := blk_cells kf; clear hx
      by_cases hN0 : N = 0
      · subst hN0
        go_wp2_with fail
        go_ret
        exact ⟨by first | rfl | (simp; done) | (simp; omega), hall⟩
      · have q3 : (N == 0) = false := by simpa using hN0
        obtain ⟨hp1, hp2⟩ := hz.out hN0
        go_wp2_with fail
        refine (Points_h A1 A2 A3 A4 c1 c2 c3 c4 f N _ HN (hf.up hall) hm hc).mono ?_
        rintro e w9 ⟨rfl, hx⟩
        replace kf := (hx.block _ (Array.getElem?_eq_some_iff.1 kf).1).trans kf; replace hall : Below w.heap.size w _ := hall.trans (hx.mono hall.size); (try clear l0); have l0 := ld_row kf Tryz.underlying28 rfl info_fld; (try clear hcf hff); obtain ⟨hcf, hff⟩ := blk_cells kf; clear hx
        go_wp2_with fail
        go_ret
        exact ⟨by first | rfl | (simp; done) | (simp; omega), hall⟩
    case neg =>
      have hz := Lib.hid (fun h => (k3.out h).2 h2)
      have q2 : (e2 == 0) = false := by simpa using h2
      go_wp2_with fail
      refine (spoken_a _ (hEn.up hall)).mono ?_
      rintro e w7 ⟨rfl, hx⟩
      replace kf := (hx.block _ (Array.getElem?_eq_some_iff.1 kf).1).trans kf; replace hall : Below w.heap.size w _ := hall.trans (hx.mono hall.size); (try clear l0); have l0 := ld_row kf Tryz.underlying28 rfl info_fld; (try clear hcf hff); obtain ⟨hcf, hff⟩ := blk_cells kf; clear hx
      go_wp2_with fail
      refine (Points_h A1 A2 A3 A4 c1 c2 c3 c4 f N _ HN (hf.up hall) hm hc).mono ?_
      rintro e w8 ⟨rfl, hx⟩
      replace kf := (hx.block _ (Array.getElem?_eq_some_iff.1 kf).1).trans kf; replace hall : Below w.heap.size w _ := hall.trans (hx.mono hall.size); (try clear l0); have l0 := ld_row kf Tryz.underlying28 rfl info_fld; (try clear hcf hff); obtain ⟨hcf, hff⟩ := blk_cells kf; clear hx
      by_cases hN0 : N = 0
      · subst hN0
        go_wp2_with fail
        go_ret
        exact ⟨by first | rfl | (simp; done) | (simp; omega), hall⟩
      · have q3 : (N == 0) = false := by simpa using hN0
        by_cases hp1 : 1 ≤ p
        · have hp2 := hz.out hN0 hp1
          go_wp2_with fail
          refine (Points_h A1 A2 A3 A4 c1 c2 c3 c4 f N _ HN (hf.up hall) hm hc).mono ?_
          rintro e w9 ⟨rfl, hx⟩
          replace kf := (hx.block _ (Array.getElem?_eq_some_iff.1 kf).1).trans kf; replace hall : Below w.heap.size w _ := hall.trans (hx.mono hall.size); (try clear l0); have l0 := ld_row kf Tryz.underlying28 rfl info_fld; (try clear hcf hff); obtain ⟨hcf, hff⟩ := blk_cells kf; clear hx
          go_wp2_with fail
          go_ret
          exact ⟨by first | rfl | (simp; done) | (simp; omega), hall⟩
        · go_wp2_with fail
          go_ret
          exact ⟨by first | rfl | (simp; done) | (simp; omega), hall⟩
end Go.Proofs.YtgbpekeoegfjpaaGreatDoor
