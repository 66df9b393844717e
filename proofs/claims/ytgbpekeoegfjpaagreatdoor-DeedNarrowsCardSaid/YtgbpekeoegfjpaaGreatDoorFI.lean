/- Walk: the law DeedNarrows of courses, and at every input. -/
import Derived.Test.YtgbpekeoegfjpaaGreatDoorProg
import Derived.WalkKit
import Derived.WalkLawsBesides
import Derived.WalkSpells
import Derived.Handy
import Derived.Lib.Hide
import Derived.Great.BuildSlice
import Derived.Deep.QuietTactic
import Derived.BigQuiet
import Derived.Deep.RegionHeld3
import Derived.Deep.DeepCutAuto
import Derived.Test.YtgbpekeoegfjpaaGreatDoorFE
namespace Go.Proofs.YtgbpekeoegfjpaaGreatDoor
open Go.RowKit
attribute [-go_sem] run_equalIn_agg storeVar loadVar
attribute [local go_sem] lv_int lv_bool lv_u8 lv_string lv_strings lv_stas lv_pars lv_vars sv_int

/-- The course with another error of the needle and another slack. -/
def Pl.Crs.less (c : Pl.Crs) (n s : Int) : Pl.Crs := ⟨c.b, n, c.l, c.y, c.x, s⟩
set_option maxRecDepth 100000 in
set_option maxHeartbeats 4000000 in
theorem deedNarrows_course (A1 A2 A3 A4 : Option Addr) (c1 c2 c3 c4 : Nat) (f : Pl.Fld) (c : Pl.Cal) (less needle slack : Int) (A : Option Addr) (cy : Nat) (y : List Int) (w : World) (hEn : Env w) (hf : FldS w w.heap.size A1 A2 A3 A4 f) (hm : Small f) (hc : Caps c1 c2 c3 c4 f) (hk : c.kind ≤ 255) (hy : Ints w w.heap.size A y) (hv : Hid (Pl.vast f = false)) (hym : y.length ≤ 130) (HC : Hid (Pl.checkCallE f c = 0)) (h3 : c.kind = 3) :
    Calls Tryz.prog 8 #[.agg #[.slice A1 f.st.length c1, .slice A2 f.li.length c2, .slice A3 f.pa.length c3, .slice A4 f.va.length c4], .agg #[.int .u8 (c.kind : Int), .int .i64 c.lim, .int .i64 c.oth, .int .i64 c.fr, .int .i64 c.till, .int .i64 c.size, .int .i64 c.er, .int .i64 c.crs.b, .int .i64 c.crs.n, .int .i64 c.crs.l, .int .i64 c.crs.y, .int .i64 c.crs.x, .int .i64 c.crs.s], .int .i64 less, .int .i64 needle, .int .i64 slack, .slice A y.length cy] w fun e w' => e = .returned (.bool true) ∧ Below w.heap.size w w' := by
  have h3' : (c.kind : Int) = 3 := by omega
  have e2 : ¬ (130 : Int) < (y.length : Int) := by omega
  obtain ⟨N, hN⟩ : ∃ N, Pl.narrower (c.crs.less needle slack) c.crs = N := ⟨_, rfl⟩
  have HN := Lib.hid hN
  obtain ⟨V1, hV1⟩ : ∃ V, Pl.allowsV f { c with crs := c.crs.less needle slack } y = V := ⟨_, rfl⟩
  obtain ⟨E1, hE1⟩ : ∃ V, Pl.allowsE f { c with crs := c.crs.less needle slack } y = V := ⟨_, rfl⟩
  obtain ⟨V2, hV2⟩ : ∃ V, Pl.allowsV f c y = V := ⟨_, rfl⟩
  obtain ⟨E2, hE2⟩ : ∃ V, Pl.allowsE f c y = V := ⟨_, rfl⟩
  have HZ : Hid (N = true → E1 = 0 → E2 = 0 ∧ (V1 = true → V2 = true)) := Lib.hid (fun hn => narrows_z HC.out (fun h => Pl.course_spans h3 (by rw [hN]; exact hn) (checkCallE_course (c := { c with crs := c.crs.less needle slack }) h3 h)) hV1 hE1 hV2 hE2)
  have HV1 := Lib.hid hV1
  have HE1 := Lib.hid hE1
  have HV2 := Lib.hid hV2
  have HE2 := Lib.hid hE2
  clear hV1 hE1 hV2 hE2 hN
  have ck := fun (W : World) (a : FldS W W.heap.size A1 A2 A3 A4 f) => checkCall_h A1 A2 A3 A4 c1 c2 c3 c4 f c 0 W HC a hm hc hk
  have al1 := fun (W : World) (a : FldS W W.heap.size A1 A2 A3 A4 f) (b : Ints W W.heap.size A y) => Allows_h A1 A2 A3 A4 c1 c2 c3 c4 f { c with crs := c.crs.less needle slack } A cy y V1 E1 W HV1 HE1 a hm hc hk b (by omega)
  have al2 := fun (W : World) (a : FldS W W.heap.size A1 A2 A3 A4 f) (b : Ints W W.heap.size A y) => Allows_h A1 A2 A3 A4 c1 c2 c3 c4 f c A cy y V2 E2 W HV2 HE2 a hm hc hk b (by omega)
  simp only [h3'] at ck al1 al2 ⊢
  clear h3'
  have kf := (heap_alloc_new w (.cells #[.slice A1 f.st.length c1, .slice A2 f.li.length c2, .slice A3 f.pa.length c3, .slice A4 f.va.length c4] 28))
  have kc := (heap_alloc_new (w.alloc (.cells #[.slice A1 f.st.length c1, .slice A2 f.li.length c2, .slice A3 f.pa.length c3, .slice A4 f.va.length c4] 28)) (.cells #[.int .u8 3, .int .i64 c.lim, .int .i64 c.oth, .int .i64 c.fr, .int .i64 c.till, .int .i64 c.size, .int .i64 c.er, .int .i64 c.crs.b, .int .i64 c.crs.n, .int .i64 c.crs.l, .int .i64 c.crs.y, .int .i64 c.crs.x, .int .i64 c.crs.s] 48))
  rw [World.size_alloc] at kc
  have kf := (Below.heap_alloc _ (.cells #[.int .u8 3, .int .i64 c.lim, .int .i64 c.oth, .int .i64 c.fr, .int .i64 c.till, .int .i64 c.size, .int .i64 c.er, .int .i64 c.crs.b, .int .i64 c.crs.n, .int .i64 c.crs.l, .int .i64 c.crs.y, .int .i64 c.crs.x, .int .i64 c.crs.s] 48) _ (Array.getElem?_eq_some_iff.1 kf).1).trans kf
  have l01 := ld_row kf Tryz.underlying28 rfl info_fld
  have l02 := ld_row kc Tryz.underlying48 rfl info_cal
  have hall : Below w.heap.size w ((w.alloc (.cells #[.slice A1 f.st.length c1, .slice A2 f.li.length c2, .slice A3 f.pa.length c3, .slice A4 f.va.length c4] 28)).alloc (.cells #[.int .u8 3, .int .i64 c.lim, .int .i64 c.oth, .int .i64 c.fr, .int .i64 c.till, .int .i64 c.size, .int .i64 c.er, .int .i64 c.crs.b, .int .i64 c.crs.n, .int .i64 c.crs.l, .int .i64 c.crs.y, .int .i64 c.crs.x, .int .i64 c.crs.s] 48)) := ((Below.refl _ w).alloc (Nat.le_refl _) _).alloc (by simp) _
  go_enter Tryz.func8, Tryz.ntmps8
  go_wp2_with fail
  refine (vast_a A1 A2 A3 A4 c1 c2 c3 c4 f _ (hf.up hall) false hv).mono ?_
  rintro e w1 ⟨rfl, hx⟩
  replace kf := (hx.block _ (Array.getElem?_eq_some_iff.1 kf).1).trans kf; replace kc := (hx.block _ (Array.getElem?_eq_some_iff.1 kc).1).trans kc; replace hall : Below w.heap.size w _ := hall.trans (hx.mono hall.size); (try clear l01 l02); have l01 := ld_row kf Tryz.underlying28 rfl info_fld; have l02 := ld_row kc Tryz.underlying48 rfl info_cal; (try clear hcf hff hcc hfc); obtain ⟨hcf, hff⟩ := blk_cells kf; obtain ⟨hcc, hfc⟩ := blk_cells kc; clear hx
  go_wp2_with fail
  refine (ck _ (hf.up hall)).mono ?_
  rintro e w2 ⟨rfl, hx⟩
  replace kf := (hx.block _ (Array.getElem?_eq_some_iff.1 kf).1).trans kf; replace kc := (hx.block _ (Array.getElem?_eq_some_iff.1 kc).1).trans kc; replace hall : Below w.heap.size w _ := hall.trans (hx.mono hall.size); (try clear l01 l02); have l01 := ld_row kf Tryz.underlying28 rfl info_fld; have l02 := ld_row kc Tryz.underlying48 rfl info_cal; (try clear hcf hff hcc hfc); obtain ⟨hcf, hff⟩ := blk_cells kf; obtain ⟨hcc, hfc⟩ := blk_cells kc; clear hx
  have l04 := l02
  have kc0 := Lib.hid kc
  obtain ⟨W2, st2, kd, hx⟩ := sp_2 #[.int .u8 3, .int .i64 c.lim, .int .i64 c.oth, .int .i64 c.fr, .int .i64 c.till, .int .i64 c.size, .int .i64 c.er, .int .i64 c.crs.b, .int .i64 c.crs.n, .int .i64 c.crs.l, .int .i64 c.crs.y, .int .i64 c.crs.x, .int .i64 c.crs.s] rfl (by simp [Value.oneCell']) w2
  replace kf := (hx.block _ (Array.getElem?_eq_some_iff.1 kf).1).trans kf; replace kc := (hx.block _ (Array.getElem?_eq_some_iff.1 kc).1).trans kc; replace hall : Below w.heap.size w _ := hall.trans (hx.mono hall.size); (try clear l01 l02); have l01 := ld_row kf Tryz.underlying28 rfl info_fld; have l02 := ld_row kc Tryz.underlying48 rfl info_cal; (try clear hcf hff hcc hfc); obtain ⟨hcf, hff⟩ := blk_cells kf; obtain ⟨hcc, hfc⟩ := blk_cells kc; clear hx
  have hlt2 : w.heap.size + 1 < w2.heap.size := (Array.getElem?_eq_some_iff.1 kc0.out).1
  have hltd : w2.heap.size < W2.heap.size := (Array.getElem?_eq_some_iff.1 kd).1
  obtain ⟨hcd, hfd⟩ := blk_cells kd
  obtain ⟨W3, hW3⟩ : ∃ W3, (W2.setCell ⟨w2.heap.size, 8, none⟩ (.int .i64 needle)).setCell ⟨w2.heap.size, 12, none⟩ (.int .i64 slack) = W3 := ⟨_, rfl⟩
  have kd3 := heap_setCell_same _ _ 12 _ _ (.int .i64 slack) (heap_setCell_same _ _ 8 _ _ (.int .i64 needle) kd)
  have kf3 := (Below.heap_setCell (W2.setCell ⟨w2.heap.size, 8, none⟩ (.int .i64 needle)) ⟨w2.heap.size, 12, none⟩ (.int .i64 slack) _ (show w.heap.size ≠ w2.heap.size by omega)).trans ((Below.heap_setCell W2 ⟨w2.heap.size, 8, none⟩ (.int .i64 needle) _ (show w.heap.size ≠ w2.heap.size by omega)).trans kf)
  have kc3 := (Below.heap_setCell (W2.setCell ⟨w2.heap.size, 8, none⟩ (.int .i64 needle)) ⟨w2.heap.size, 12, none⟩ (.int .i64 slack) _ (show w.heap.size + 1 ≠ w2.heap.size by omega)).trans ((Below.heap_setCell W2 ⟨w2.heap.size, 8, none⟩ (.int .i64 needle) _ (show w.heap.size + 1 ≠ w2.heap.size by omega)).trans kc)
  have hall3 := (hall.setCell (p := ⟨w2.heap.size, 8, none⟩) (show w.heap.size ≤ w2.heap.size by omega) (.int .i64 needle)).setCell (p := ⟨w2.heap.size, 12, none⟩) (show w.heap.size ≤ w2.heap.size by omega) (.int .i64 slack)
  rw [hW3] at kd3 kf3 kc3 hall3
  simp only [List.setIfInBounds_toArray, List.set_cons_succ, List.set_cons_zero] at kd3
  have l5 := ld_crs kd3
  have l6 := ld_crs kc3
  go_wp2_with fail
  refine (Narrower_h (c.crs.less needle slack) c.crs N _ HN).mono ?_
  rintro e w3 ⟨rfl, hx⟩
  clear l5 l6 hcd hfd hcf hff hcc hfc
  replace kd := kd3
  replace kf := kf3
  replace kc := kc3
  replace hall := hall3
  replace kd := (hx.block _ (Array.getElem?_eq_some_iff.1 kd).1).trans kd; (try clear l03); have l03 := ld_row kd Tryz.underlying48 rfl info_cal; replace kf := (hx.block _ (Array.getElem?_eq_some_iff.1 kf).1).trans kf; replace kc := (hx.block _ (Array.getElem?_eq_some_iff.1 kc).1).trans kc; replace hall : Below w.heap.size w _ := hall.trans (hx.mono hall.size); (try clear l01 l02); have l01 := ld_row kf Tryz.underlying28 rfl info_fld; have l02 := ld_row kc Tryz.underlying48 rfl info_cal; (try clear hcf hff hcc hfc); obtain ⟨hcf, hff⟩ := blk_cells kf; obtain ⟨hcc, hfc⟩ := blk_cells kc; clear hx
  cases N with
  | false =>
    go_wp2_with fail
    refine (spoken_a _ (hEn.up hall)).mono ?_
    rintro e w9 ⟨rfl, hx⟩
    replace kd := (hx.block _ (Array.getElem?_eq_some_iff.1 kd).1).trans kd; (try clear l03); have l03 := ld_row kd Tryz.underlying48 rfl info_cal; replace kf := (hx.block _ (Array.getElem?_eq_some_iff.1 kf).1).trans kf; replace kc := (hx.block _ (Array.getElem?_eq_some_iff.1 kc).1).trans kc; replace hall : Below w.heap.size w _ := hall.trans (hx.mono hall.size); (try clear l01 l02); have l01 := ld_row kf Tryz.underlying28 rfl info_fld; have l02 := ld_row kc Tryz.underlying48 rfl info_cal; (try clear hcf hff hcc hfc); obtain ⟨hcf, hff⟩ := blk_cells kf; obtain ⟨hcc, hfc⟩ := blk_cells kc; clear hx
    go_wp2_with fail
    go_ret
    exact ⟨by first | rfl | (simp; done), hall⟩
  | true =>
    replace HZ := Lib.hid (HZ.out (by trivial))
    go_wp2_with fail
    refine (al1 _ (hf.up hall) (hy.up hall)).mono ?_
    rintro e w4 ⟨rfl, hx⟩
    replace kd := (hx.block _ (Array.getElem?_eq_some_iff.1 kd).1).trans kd; (try clear l03); have l03 := ld_row kd Tryz.underlying48 rfl info_cal; replace kf := (hx.block _ (Array.getElem?_eq_some_iff.1 kf).1).trans kf; replace kc := (hx.block _ (Array.getElem?_eq_some_iff.1 kc).1).trans kc; replace hall : Below w.heap.size w _ := hall.trans (hx.mono hall.size); (try clear l01 l02); have l01 := ld_row kf Tryz.underlying28 rfl info_fld; have l02 := ld_row kc Tryz.underlying48 rfl info_cal; (try clear hcf hff hcc hfc); obtain ⟨hcf, hff⟩ := blk_cells kf; obtain ⟨hcc, hfc⟩ := blk_cells kc; clear hx
    go_wp2_with fail
    refine (al2 _ (hf.up hall) (hy.up hall)).mono ?_
    rintro e w5 ⟨rfl, hx⟩
    replace kd := (hx.block _ (Array.getElem?_eq_some_iff.1 kd).1).trans kd; (try clear l03); have l03 := ld_row kd Tryz.underlying48 rfl info_cal; replace kf := (hx.block _ (Array.getElem?_eq_some_iff.1 kf).1).trans kf; replace kc := (hx.block _ (Array.getElem?_eq_some_iff.1 kc).1).trans kc; replace hall : Below w.heap.size w _ := hall.trans (hx.mono hall.size); (try clear l01 l02); have l01 := ld_row kf Tryz.underlying28 rfl info_fld; have l02 := ld_row kc Tryz.underlying48 rfl info_cal; (try clear hcf hff hcc hfc); obtain ⟨hcf, hff⟩ := blk_cells kf; obtain ⟨hcc, hfc⟩ := blk_cells kc; clear hx
    by_cases z1 : E1 = 0
    case neg =>
      have z2 : (E1 != 0) = true := by simpa using z1
      go_wp2_with fail
      refine (spoken_a _ (hEn.up hall)).mono ?_
      rintro e w9 ⟨rfl, hx⟩
      replace kd := (hx.block _ (Array.getElem?_eq_some_iff.1 kd).1).trans kd; (try clear l03); have l03 := ld_row kd Tryz.underlying48 rfl info_cal; replace kf := (hx.block _ (Array.getElem?_eq_some_iff.1 kf).1).trans kf; replace kc := (hx.block _ (Array.getElem?_eq_some_iff.1 kc).1).trans kc; replace hall : Below w.heap.size w _ := hall.trans (hx.mono hall.size); (try clear l01 l02); have l01 := ld_row kf Tryz.underlying28 rfl info_fld; have l02 := ld_row kc Tryz.underlying48 rfl info_cal; (try clear hcf hff hcc hfc); obtain ⟨hcf, hff⟩ := blk_cells kf; obtain ⟨hcc, hfc⟩ := blk_cells kc; clear hx
      go_wp2_with fail
      go_ret
      exact ⟨by first | rfl | (simp; done), hall⟩
    case pos =>
      obtain ⟨z3, z4⟩ := HZ.out z1
      subst z1 z3
      go_wp2_with fail
      refine (spoken_a _ (hEn.up hall)).mono ?_
      rintro e w9 ⟨rfl, hx⟩
      replace kd := (hx.block _ (Array.getElem?_eq_some_iff.1 kd).1).trans kd; (try clear l03); have l03 := ld_row kd Tryz.underlying48 rfl info_cal; replace kf := (hx.block _ (Array.getElem?_eq_some_iff.1 kf).1).trans kf; replace kc := (hx.block _ (Array.getElem?_eq_some_iff.1 kc).1).trans kc; replace hall : Below w.heap.size w _ := hall.trans (hx.mono hall.size); (try clear l01 l02); have l01 := ld_row kf Tryz.underlying28 rfl info_fld; have l02 := ld_row kc Tryz.underlying48 rfl info_cal; (try clear hcf hff hcc hfc); obtain ⟨hcf, hff⟩ := blk_cells kf; obtain ⟨hcc, hfc⟩ := blk_cells kc; clear hx
      cases V1 with
      | false =>
        go_wp2_with fail
        go_ret
        exact ⟨by first | rfl | (simp; done), hall⟩
      | true =>
        obtain rfl := z4 (by trivial)
        go_wp2_with fail
        go_ret
        exact ⟨by first | rfl | (simp; done), hall⟩
theorem deedNarrows_w (A1 A2 A3 A4 : Option Addr) (c1 c2 c3 c4 : Nat) (f : Pl.Fld) (c : Pl.Cal) (less needle slack : Int) (A : Option Addr) (cy : Nat) (y : List Int) (w : World) (hEn : Env w) (hf : FldS w w.heap.size A1 A2 A3 A4 f) (hc : Caps c1 c2 c3 c4 f) (hk : c.kind ≤ 255) (hy : Ints w w.heap.size A y) (hyc : y.length ≤ cy) (hcm : cy ≤ maxLen) :
    Calls Tryz.prog 8 #[.agg #[.slice A1 f.st.length c1, .slice A2 f.li.length c2, .slice A3 f.pa.length c3, .slice A4 f.va.length c4], .agg #[.int .u8 (c.kind : Int), .int .i64 c.lim, .int .i64 c.oth, .int .i64 c.fr, .int .i64 c.till, .int .i64 c.size, .int .i64 c.er, .int .i64 c.crs.b, .int .i64 c.crs.n, .int .i64 c.crs.l, .int .i64 c.crs.y, .int .i64 c.crs.x, .int .i64 c.crs.s], .int .i64 less, .int .i64 needle, .int .i64 slack, .slice A y.length cy] w fun e w' => e = .returned (.bool true) ∧ Below w.heap.size w w' := by
  by_cases h : Pl.vast f = true ∨ 130 < y.length ∨ Pl.checkCallE f c ≠ 0
  · exact deedNarrows_idle A1 A2 A3 A4 c1 c2 c3 c4 f c less needle slack A cy y w hEn hf hc hk (by unfold maxLen at hcm; omega) h
  · rw [not_or, not_or] at h
    have hv : Pl.vast f = false := by simpa using h.1
    have hC := Lib.hid (Classical.not_not.1 h.2.2)
    by_cases h3 : c.kind = 3
    · exact deedNarrows_course A1 A2 A3 A4 c1 c2 c3 c4 f c less needle slack A cy y w hEn hf (Pl.vast_small hv) hc hk hy (Lib.hid hv) (by omega) hC h3
    · exact deedNarrows_fixed A1 A2 A3 A4 c1 c2 c3 c4 f c less needle slack A cy y w hEn hf (Pl.vast_small hv) hc hk hy (Lib.hid hv) (by omega) hC h3
end Go.Proofs.YtgbpekeoegfjpaaGreatDoor
