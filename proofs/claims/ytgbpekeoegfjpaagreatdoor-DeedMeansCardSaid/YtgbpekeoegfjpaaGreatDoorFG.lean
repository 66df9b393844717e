/- Walk: the law DeedMeans. -/
import Derived.Test.YtgbpekeoegfjpaaGreatDoorProg
import Derived.WalkKit
import Derived.WalkLawsBesides
import Derived.WalkSpells
import Derived.Handy
import Derived.Lib.Hide
import Derived.Great.BuildSlice
import Derived.Deep.QuietTactic
import Derived.BigQuiet
import Derived.Deep.RegionHeld3
import Derived.Deep.DeepCutAuto
import Derived.Test.YtgbpekeoegfjpaaGreatDoorFGa
import Derived.Test.YtgbpekeoegfjpaaGreatDoorFD
import Derived.Test.YtgbpekeoegfjpaaGreatDoorFF
namespace Go.Proofs.YtgbpekeoegfjpaaGreatDoor
open Go.RowKit
attribute [-go_sem] run_equalIn_agg storeVar loadVar
attribute [local go_sem] lv_int lv_bool lv_u8 lv_string lv_strings lv_stas lv_pars lv_vars

theorem keepsB_record (f : Pl.Fld) (c : Pl.Cal) (r s : Int) (y : List Int) : Pl.keepsB (Pl.boundsC f c r) y = Pl.keepsB (Pl.boundsC f c s) y := by
  rw [Bool.eq_iff_iff, Pl.keepsB_iff, Pl.keepsB_iff, Pl.keeps_spans, Pl.keeps_spans]
theorem drawnB_split {S L : Nat} {y : List Int} (h1 : y.length = 1 + L * S) (h2 : Pl.at0 y 0 = 0) : Pl.drawnB S L y = Pl.keepsB (Pl.nature S L) y := by
  rw [Bool.eq_iff_iff, Pl.drawnB_iff, Pl.keepsB_iff, ← Pl.drawn_iff]
  exact ⟨fun h => h.2.2, fun h => ⟨h1, h2, h⟩⟩
theorem bounded_all {y : List Int} (h : Pl.bounded y = true) : ∀ n ∈ y, -1000000000 ≤ n ∧ n ≤ 1000000000 := by
  intro n hn
  have := List.all_eq_true.1 h n hn
  simpa using this
/- The law, where it asks nothing. -/
set_option maxRecDepth 100000 in
set_option maxHeartbeats 4000000 in
theorem deedMeans_idle (A1 A2 A3 A4 : Option Addr) (c1 c2 c3 c4 : Nat) (f : Pl.Fld) (c : Pl.Cal) (A : Option Addr) (cy : Nat) (y : List Int) (w : World) (hEn : Env w) (hf : FldS w w.heap.size A1 A2 A3 A4 f) (hy : Ints w w.heap.size A y) (hym : y.length ≤ 9223372036854775807)
    (h : Pl.vast f = true ∨ 130 < y.length ∨ Pl.bounded y = false) :
    Calls Tryz.prog 7 #[.agg #[.slice A1 f.st.length c1, .slice A2 f.li.length c2, .slice A3 f.pa.length c3, .slice A4 f.va.length c4], .agg #[.int .u8 (c.kind : Int), .int .i64 c.lim, .int .i64 c.oth, .int .i64 c.fr, .int .i64 c.till, .int .i64 c.size, .int .i64 c.er, .int .i64 c.crs.b, .int .i64 c.crs.n, .int .i64 c.crs.l, .int .i64 c.crs.y, .int .i64 c.crs.x, .int .i64 c.crs.s], .slice A y.length cy] w fun e w' => e = .returned (.bool true) ∧ Below w.heap.size w w' := by
  have kf := (heap_alloc_new w (.cells #[.slice A1 f.st.length c1, .slice A2 f.li.length c2, .slice A3 f.pa.length c3, .slice A4 f.va.length c4] 28))
  have kc := (heap_alloc_new (w.alloc (.cells #[.slice A1 f.st.length c1, .slice A2 f.li.length c2, .slice A3 f.pa.length c3, .slice A4 f.va.length c4] 28)) (.cells #[.int .u8 (c.kind : Int), .int .i64 c.lim, .int .i64 c.oth, .int .i64 c.fr, .int .i64 c.till, .int .i64 c.size, .int .i64 c.er, .int .i64 c.crs.b, .int .i64 c.crs.n, .int .i64 c.crs.l, .int .i64 c.crs.y, .int .i64 c.crs.x, .int .i64 c.crs.s] 48))
  rw [World.size_alloc] at kc
  have kf := (Below.heap_alloc _ (.cells #[.int .u8 (c.kind : Int), .int .i64 c.lim, .int .i64 c.oth, .int .i64 c.fr, .int .i64 c.till, .int .i64 c.size, .int .i64 c.er, .int .i64 c.crs.b, .int .i64 c.crs.n, .int .i64 c.crs.l, .int .i64 c.crs.y, .int .i64 c.crs.x, .int .i64 c.crs.s] 48) _ (Array.getElem?_eq_some_iff.1 kf).1).trans kf
  have l01 := ld_row kf Tryz.underlying28 rfl info_fld
  have l02 := ld_row kc Tryz.underlying48 rfl info_cal
  have hall : Below w.heap.size w ((w.alloc (.cells #[.slice A1 f.st.length c1, .slice A2 f.li.length c2, .slice A3 f.pa.length c3, .slice A4 f.va.length c4] 28)).alloc (.cells #[.int .u8 (c.kind : Int), .int .i64 c.lim, .int .i64 c.oth, .int .i64 c.fr, .int .i64 c.till, .int .i64 c.size, .int .i64 c.er, .int .i64 c.crs.b, .int .i64 c.crs.n, .int .i64 c.crs.l, .int .i64 c.crs.y, .int .i64 c.crs.x, .int .i64 c.crs.s] 48)) := ((Below.refl _ w).alloc (Nat.le_refl _) _).alloc (by simp) _
  by_cases h1 : Pl.vast f = true
  · have hv := Lib.hid h1
    clear h h1
    go_enter Tryz.func7, Tryz.ntmps7
    go_wp2_with fail
    refine (vast_a A1 A2 A3 A4 c1 c2 c3 c4 f _ (hf.up hall) true hv).mono ?_
    rintro e w1 ⟨rfl, hx⟩
    replace kf := (hx.block _ (Array.getElem?_eq_some_iff.1 kf).1).trans kf; replace kc := (hx.block _ (Array.getElem?_eq_some_iff.1 kc).1).trans kc; replace hall : Below w.heap.size w _ := hall.trans (hx.mono hall.size); (try clear l01 l02); have l01 := ld_row kf Tryz.underlying28 rfl info_fld; have l02 := ld_row kc Tryz.underlying48 rfl info_cal; (try clear hcf hff hcc hfc); obtain ⟨hcf, hff⟩ := blk_cells kf; obtain ⟨hcc, hfc⟩ := blk_cells kc; clear hx
    go_wp2_with fail
    refine (spoken_a _ (hEn.up hall)).mono ?_
    rintro e w7 ⟨rfl, hx⟩
    replace kf := (hx.block _ (Array.getElem?_eq_some_iff.1 kf).1).trans kf; replace kc := (hx.block _ (Array.getElem?_eq_some_iff.1 kc).1).trans kc; replace hall : Below w.heap.size w _ := hall.trans (hx.mono hall.size); (try clear l01 l02); have l01 := ld_row kf Tryz.underlying28 rfl info_fld; have l02 := ld_row kc Tryz.underlying48 rfl info_cal; (try clear hcf hff hcc hfc); obtain ⟨hcf, hff⟩ := blk_cells kf; obtain ⟨hcc, hfc⟩ := blk_cells kc; clear hx
    go_wp2_with fail
    go_ret
    exact ⟨rfl, hall⟩
  · have h1' : Pl.vast f = false := by simpa using h1
    have hv := Lib.hid h1'
    clear h1 h1'
    by_cases h2 : 130 < y.length
    · have e2 : (130 : Int) < (y.length : Int) := by omega
      clear h
      go_enter Tryz.func7, Tryz.ntmps7
      go_wp2_with fail
      refine (vast_a A1 A2 A3 A4 c1 c2 c3 c4 f _ (hf.up hall) false hv).mono ?_
      rintro e w1 ⟨rfl, hx⟩
      replace kf := (hx.block _ (Array.getElem?_eq_some_iff.1 kf).1).trans kf; replace kc := (hx.block _ (Array.getElem?_eq_some_iff.1 kc).1).trans kc; replace hall : Below w.heap.size w _ := hall.trans (hx.mono hall.size); (try clear l01 l02); have l01 := ld_row kf Tryz.underlying28 rfl info_fld; have l02 := ld_row kc Tryz.underlying48 rfl info_cal; (try clear hcf hff hcc hfc); obtain ⟨hcf, hff⟩ := blk_cells kf; obtain ⟨hcc, hfc⟩ := blk_cells kc; clear hx
      go_wp2_with fail
      refine (spoken_a _ (hEn.up hall)).mono ?_
      rintro e w7 ⟨rfl, hx⟩
      replace kf := (hx.block _ (Array.getElem?_eq_some_iff.1 kf).1).trans kf; replace kc := (hx.block _ (Array.getElem?_eq_some_iff.1 kc).1).trans kc; replace hall : Below w.heap.size w _ := hall.trans (hx.mono hall.size); (try clear l01 l02); have l01 := ld_row kf Tryz.underlying28 rfl info_fld; have l02 := ld_row kc Tryz.underlying48 rfl info_cal; (try clear hcf hff hcc hfc); obtain ⟨hcf, hff⟩ := blk_cells kf; obtain ⟨hcc, hfc⟩ := blk_cells kc; clear hx
      go_wp2_with fail
      go_ret
      exact ⟨rfl, hall⟩
    · have e2 : ¬ (130 : Int) < (y.length : Int) := by omega
      have hb : Hid (Pl.bounded y = false) := Lib.hid (by rcases h with h | h | h; exact absurd (hv.out.symm.trans h) (by decide); exact absurd h h2; exact h)
      clear h
      go_enter Tryz.func7, Tryz.ntmps7
      go_wp2_with fail
      refine (vast_a A1 A2 A3 A4 c1 c2 c3 c4 f _ (hf.up hall) false hv).mono ?_
      rintro e w1 ⟨rfl, hx⟩
      replace kf := (hx.block _ (Array.getElem?_eq_some_iff.1 kf).1).trans kf; replace kc := (hx.block _ (Array.getElem?_eq_some_iff.1 kc).1).trans kc; replace hall : Below w.heap.size w _ := hall.trans (hx.mono hall.size); (try clear l01 l02); have l01 := ld_row kf Tryz.underlying28 rfl info_fld; have l02 := ld_row kc Tryz.underlying48 rfl info_cal; (try clear hcf hff hcc hfc); obtain ⟨hcf, hff⟩ := blk_cells kf; obtain ⟨hcc, hfc⟩ := blk_cells kc; clear hx
      go_wp2_with fail
      refine (bounded_a A cy y false _ (hy.up hall) (by omega) hb).mono ?_
      rintro e w2 ⟨rfl, rfl⟩
      go_wp2_with fail
      refine (spoken_a _ (hEn.up hall)).mono ?_
      rintro e w7 ⟨rfl, hx⟩
      replace kf := (hx.block _ (Array.getElem?_eq_some_iff.1 kf).1).trans kf; replace kc := (hx.block _ (Array.getElem?_eq_some_iff.1 kc).1).trans kc; replace hall : Below w.heap.size w _ := hall.trans (hx.mono hall.size); (try clear l01 l02); have l01 := ld_row kf Tryz.underlying28 rfl info_fld; have l02 := ld_row kc Tryz.underlying48 rfl info_cal; (try clear hcf hff hcc hfc); obtain ⟨hcf, hff⟩ := blk_cells kf; obtain ⟨hcc, hfc⟩ := blk_cells kc; clear hx
      go_wp2_with fail
      go_ret
      exact ⟨rfl, hall⟩
/- The law of a wrong field. -/
set_option maxRecDepth 100000 in
set_option maxHeartbeats 4000000 in
theorem deedMeans_field (A1 A2 A3 A4 : Option Addr) (c1 c2 c3 c4 : Nat) (f : Pl.Fld) (c : Pl.Cal) (A : Option Addr) (cy : Nat) (y : List Int) (E : Int) (w : World) (hEn : Env w) (hf : FldS w w.heap.size A1 A2 A3 A4 f) (hm : Small f) (hc : Caps c1 c2 c3 c4 f) (hy : Ints w w.heap.size A y) (hv : Hid (Pl.vast f = false)) (h2 : y.length ≤ 130) (hb : Hid (Pl.bounded y = true)) (hE : Hid (Pl.fieldE f = E)) (h0 : E ≠ 0) :
    Calls Tryz.prog 7 #[.agg #[.slice A1 f.st.length c1, .slice A2 f.li.length c2, .slice A3 f.pa.length c3, .slice A4 f.va.length c4], .agg #[.int .u8 (c.kind : Int), .int .i64 c.lim, .int .i64 c.oth, .int .i64 c.fr, .int .i64 c.till, .int .i64 c.size, .int .i64 c.er, .int .i64 c.crs.b, .int .i64 c.crs.n, .int .i64 c.crs.l, .int .i64 c.crs.y, .int .i64 c.crs.x, .int .i64 c.crs.s], .slice A y.length cy] w fun e w' => e = .returned (.bool true) ∧ Below w.heap.size w w' := by
  have kf := (heap_alloc_new w (.cells #[.slice A1 f.st.length c1, .slice A2 f.li.length c2, .slice A3 f.pa.length c3, .slice A4 f.va.length c4] 28))
  have kc := (heap_alloc_new (w.alloc (.cells #[.slice A1 f.st.length c1, .slice A2 f.li.length c2, .slice A3 f.pa.length c3, .slice A4 f.va.length c4] 28)) (.cells #[.int .u8 (c.kind : Int), .int .i64 c.lim, .int .i64 c.oth, .int .i64 c.fr, .int .i64 c.till, .int .i64 c.size, .int .i64 c.er, .int .i64 c.crs.b, .int .i64 c.crs.n, .int .i64 c.crs.l, .int .i64 c.crs.y, .int .i64 c.crs.x, .int .i64 c.crs.s] 48))
  rw [World.size_alloc] at kc
  have kf := (Below.heap_alloc _ (.cells #[.int .u8 (c.kind : Int), .int .i64 c.lim, .int .i64 c.oth, .int .i64 c.fr, .int .i64 c.till, .int .i64 c.size, .int .i64 c.er, .int .i64 c.crs.b, .int .i64 c.crs.n, .int .i64 c.crs.l, .int .i64 c.crs.y, .int .i64 c.crs.x, .int .i64 c.crs.s] 48) _ (Array.getElem?_eq_some_iff.1 kf).1).trans kf
  have l01 := ld_row kf Tryz.underlying28 rfl info_fld
  have l02 := ld_row kc Tryz.underlying48 rfl info_cal
  have hall : Below w.heap.size w ((w.alloc (.cells #[.slice A1 f.st.length c1, .slice A2 f.li.length c2, .slice A3 f.pa.length c3, .slice A4 f.va.length c4] 28)).alloc (.cells #[.int .u8 (c.kind : Int), .int .i64 c.lim, .int .i64 c.oth, .int .i64 c.fr, .int .i64 c.till, .int .i64 c.size, .int .i64 c.er, .int .i64 c.crs.b, .int .i64 c.crs.n, .int .i64 c.crs.l, .int .i64 c.crs.y, .int .i64 c.crs.x, .int .i64 c.crs.s] 48)) := ((Below.refl _ w).alloc (Nat.le_refl _) _).alloc (by simp) _
  have e2 : ¬ (130 : Int) < (y.length : Int) := by omega
  have q0 : (E != 0) = true := by simpa using h0
  have hD : Hid (Pl.drawnV f y = false) := Lib.hid (by unfold Pl.drawnV; rw [hE.out]; simp [h0])
  go_enter Tryz.func7, Tryz.ntmps7
  go_wp2_with fail
  refine (vast_a A1 A2 A3 A4 c1 c2 c3 c4 f _ (hf.up hall) false hv).mono ?_
  rintro e w1 ⟨rfl, hx⟩
  replace kf := (hx.block _ (Array.getElem?_eq_some_iff.1 kf).1).trans kf; replace kc := (hx.block _ (Array.getElem?_eq_some_iff.1 kc).1).trans kc; replace hall : Below w.heap.size w _ := hall.trans (hx.mono hall.size); (try clear l01 l02); have l01 := ld_row kf Tryz.underlying28 rfl info_fld; have l02 := ld_row kc Tryz.underlying48 rfl info_cal; (try clear hcf hff hcc hfc); obtain ⟨hcf, hff⟩ := blk_cells kf; obtain ⟨hcc, hfc⟩ := blk_cells kc; clear hx
  go_wp2_with fail
  refine (bounded_a A cy y true _ (hy.up hall) (by omega) hb).mono ?_
  rintro e w2 ⟨rfl, rfl⟩
  go_wp2_with fail
  refine (Nature_no A1 A2 A3 A4 c1 c2 c3 c4 f E _ (hf.up hall) hm hc hE h0).mono ?_
  rintro e w3 ⟨rfl, hx⟩
  replace kf := (hx.block _ (Array.getElem?_eq_some_iff.1 kf).1).trans kf; replace kc := (hx.block _ (Array.getElem?_eq_some_iff.1 kc).1).trans kc; replace hall : Below w.heap.size w _ := hall.trans (hx.mono hall.size); (try clear l01 l02); have l01 := ld_row kf Tryz.underlying28 rfl info_fld; have l02 := ld_row kc Tryz.underlying48 rfl info_cal; (try clear hcf hff hcc hfc); obtain ⟨hcf, hff⟩ := blk_cells kf; obtain ⟨hcc, hfc⟩ := blk_cells kc; clear hx
  go_wp2_with fail
  refine (Drawn_a A1 A2 A3 A4 c1 c2 c3 c4 f A cy y false E _ hD hE (hf.up hall) hm hc (hy.up hall) (by omega)).mono ?_
  rintro e w4 ⟨rfl, hx⟩
  replace kf := (hx.block _ (Array.getElem?_eq_some_iff.1 kf).1).trans kf; replace kc := (hx.block _ (Array.getElem?_eq_some_iff.1 kc).1).trans kc; replace hall : Below w.heap.size w _ := hall.trans (hx.mono hall.size); (try clear l01 l02); have l01 := ld_row kf Tryz.underlying28 rfl info_fld; have l02 := ld_row kc Tryz.underlying48 rfl info_cal; (try clear hcf hff hcc hfc); obtain ⟨hcf, hff⟩ := blk_cells kf; obtain ⟨hcc, hfc⟩ := blk_cells kc; clear hx
  go_wp2_with fail
  refine (spoken_a _ (hEn.up hall)).mono ?_
  rintro e w7 ⟨rfl, hx⟩
  replace kf := (hx.block _ (Array.getElem?_eq_some_iff.1 kf).1).trans kf; replace kc := (hx.block _ (Array.getElem?_eq_some_iff.1 kc).1).trans kc; replace hall : Below w.heap.size w _ := hall.trans (hx.mono hall.size); (try clear l01 l02); have l01 := ld_row kf Tryz.underlying28 rfl info_fld; have l02 := ld_row kc Tryz.underlying48 rfl info_cal; (try clear hcf hff hcc hfc); obtain ⟨hcf, hff⟩ := blk_cells kf; obtain ⟨hcc, hfc⟩ := blk_cells kc; clear hx
  go_wp2_with fail
  go_ret
  exact ⟨by first | rfl | simp, hall⟩
/-- What the law's callees answer, in a valid field. -/
structure MeansH (f : Pl.Fld) (c : Pl.Cal) (y : List Int) (P : Int) (D b : Bool) (l : List Pl.Bd) (EB EA : Int) : Prop where
  pts : (if Pl.fieldE f = 0 then 1 + ((f.li.length : Nat) : Int) * (f.st.length : Nat) else 0) = P
  dr : Pl.drawnV f y = D
  bd : Pl.boundsV f c 1 = l
  be : Pl.boundsE f c 1 = EB
  av : Pl.allowsV f c y = b
  ae : Pl.allowsE f c y = EA
theorem MeansH.wrong {f : Pl.Fld} {c : Pl.Cal} {y : List Int} {P EB EA : Int} {D b : Bool} {l : List Pl.Bd} (h : MeansH f c y P D b l EB EA) (h0 : EB ≠ 0) : EA = EB := by
  have h1 := boundsE_in f c (r := 1) (by decide)
  rw [h.be] at h1
  have := h.ae
  unfold Pl.allowsE at this
  rw [← h1, if_neg h0] at this
  exact this.symm
theorem MeansH.right {f : Pl.Fld} {c : Pl.Cal} {y : List Int} {P EA : Int} {D b : Bool} {l : List Pl.Bd} (hf : Pl.fieldE f = 0) (h : MeansH f c y P D b l 0 EA) : Pl.checkCallE f c = 0 ∧ (D = false → EA = 1) ∧ (D = true → EA = 0 ∧ b = Pl.keepsB l y ∧ ∀ x ∈ l, x.fr < 1 + f.li.length * f.st.length ∧ x.till < 1 + f.li.length * f.st.length) := by
  have h1 := boundsE_in f c (r := 1) (by decide)
  rw [h.be] at h1
  have hd := h.dr
  unfold Pl.drawnV at hd
  rw [hf] at hd
  simp only [decide_true, Bool.true_and] at hd
  have ha := h.ae
  unfold Pl.allowsE at ha
  rw [← h1, if_pos rfl, hd] at ha
  refine ⟨h1.symm, fun e => ?_, fun e => ?_⟩
  · subst e; simpa using ha.symm
  · subst e
    have ha0 : EA = 0 := by simpa using ha.symm
    have hb := h.av
    have hE : Pl.allowsE f c y = 0 := by rw [h.ae, ha0]
    unfold Pl.allowsV at hb
    rw [if_pos hE, keepsB_record f c 0 1] at hb
    have hl := h.bd
    unfold Pl.boundsV at hl
    rw [h.be, if_pos rfl] at hl
    subst hl
    exact ⟨ha0, hb.symm, Pl.bounds_pts (tab_of h1.symm).2⟩
theorem MeansH.drawn {f : Pl.Fld} {c : Pl.Cal} {y : List Int} {P EB EA : Int} {D b : Bool} {l : List Pl.Bd} (hf : Pl.fieldE f = 0) (h : MeansH f c y P D b l EB EA) :
    1 ≤ P ∧ ((y.length : Int) ≠ P → D = false) ∧ ((y.length : Int) = P → Pl.at0 y 0 ≠ 0 → D = false) ∧ ((y.length : Int) = P → Pl.at0 y 0 = 0 → Pl.keepsB (Pl.nature f.st.length f.li.length) y = D) ∧ ((y.length : Int) = P → y.length = 1 + f.li.length * f.st.length) := by
  have hp := h.pts
  rw [if_pos hf] at hp
  have hd := h.dr
  unfold Pl.drawnV at hd
  rw [hf] at hd
  simp only [decide_true, Bool.true_and] at hd
  have hlen : (y.length : Int) = P ↔ y.length = 1 + f.li.length * f.st.length := by rw [← hp, ← Int.natCast_mul]; omega
  refine ⟨by rw [← hp, ← Int.natCast_mul]; omega, fun e => ?_, fun e e2 => ?_, fun e e2 => ?_, hlen.1⟩
  · rw [← hd]; unfold Pl.drawnB; rw [decide_eq_false (fun h => e (hlen.2 h))]; rfl
  · rw [← hd]; unfold Pl.drawnB; rw [decide_eq_false e2]; simp
  · rw [← hd, drawnB_split (hlen.1 e) e2]
set_option maxRecDepth 100000 in
set_option maxHeartbeats 8000000 in
theorem deedMeans_ok (A1 A2 A3 A4 : Option Addr) (c1 c2 c3 c4 : Nat) (f : Pl.Fld) (c : Pl.Cal) (A : Option Addr) (cy : Nat) (y : List Int) (P EB EA : Int) (D b : Bool) (l : List Pl.Bd) (w : World) (hEn : Env w) (hf : FldS w w.heap.size A1 A2 A3 A4 f) (hm : Small f) (hc : Caps c1 c2 c3 c4 f) (hk : c.kind ≤ 255) (hy : Ints w w.heap.size A y) (hv : Hid (Pl.vast f = false)) (h2 : y.length ≤ 130) (hb : Hid (Pl.bounded y = true)) (hE : Hid (Pl.fieldE f = 0)) (H : MeansH f c y P D b l EB EA) :
    Calls Tryz.prog 7 #[.agg #[.slice A1 f.st.length c1, .slice A2 f.li.length c2, .slice A3 f.pa.length c3, .slice A4 f.va.length c4], .agg #[.int .u8 (c.kind : Int), .int .i64 c.lim, .int .i64 c.oth, .int .i64 c.fr, .int .i64 c.till, .int .i64 c.size, .int .i64 c.er, .int .i64 c.crs.b, .int .i64 c.crs.n, .int .i64 c.crs.l, .int .i64 c.crs.y, .int .i64 c.crs.x, .int .i64 c.crs.s], .slice A y.length cy] w fun e w' => e = .returned (.bool true) ∧ Below w.heap.size w w' := by
  have kf := (heap_alloc_new w (.cells #[.slice A1 f.st.length c1, .slice A2 f.li.length c2, .slice A3 f.pa.length c3, .slice A4 f.va.length c4] 28))
  have kc := (heap_alloc_new (w.alloc (.cells #[.slice A1 f.st.length c1, .slice A2 f.li.length c2, .slice A3 f.pa.length c3, .slice A4 f.va.length c4] 28)) (.cells #[.int .u8 (c.kind : Int), .int .i64 c.lim, .int .i64 c.oth, .int .i64 c.fr, .int .i64 c.till, .int .i64 c.size, .int .i64 c.er, .int .i64 c.crs.b, .int .i64 c.crs.n, .int .i64 c.crs.l, .int .i64 c.crs.y, .int .i64 c.crs.x, .int .i64 c.crs.s] 48))
  rw [World.size_alloc] at kc
  have kf := (Below.heap_alloc _ (.cells #[.int .u8 (c.kind : Int), .int .i64 c.lim, .int .i64 c.oth, .int .i64 c.fr, .int .i64 c.till, .int .i64 c.size, .int .i64 c.er, .int .i64 c.crs.b, .int .i64 c.crs.n, .int .i64 c.crs.l, .int .i64 c.crs.y, .int .i64 c.crs.x, .int .i64 c.crs.s] 48) _ (Array.getElem?_eq_some_iff.1 kf).1).trans kf
  have l01 := ld_row kf Tryz.underlying28 rfl info_fld
  have l02 := ld_row kc Tryz.underlying48 rfl info_cal
  have hall : Below w.heap.size w ((w.alloc (.cells #[.slice A1 f.st.length c1, .slice A2 f.li.length c2, .slice A3 f.pa.length c3, .slice A4 f.va.length c4] 28)).alloc (.cells #[.int .u8 (c.kind : Int), .int .i64 c.lim, .int .i64 c.oth, .int .i64 c.fr, .int .i64 c.till, .int .i64 c.size, .int .i64 c.er, .int .i64 c.crs.b, .int .i64 c.crs.n, .int .i64 c.crs.l, .int .i64 c.crs.y, .int .i64 c.crs.x, .int .i64 c.crs.s] 48)) := ((Below.refl _ w).alloc (Nat.le_refl _) _).alloc (by simp) _
  have e2 : ¬ (130 : Int) < (y.length : Int) := by omega
  obtain ⟨d1, d2, d3, d4, d5⟩ := H.drawn hE.out
  have HP := Lib.hid H.pts
  have HD := Lib.hid H.dr
  have HB := Lib.hid H.bd
  have HBE := Lib.hid H.be
  have HA := Lib.hid H.av
  have HAE := Lib.hid H.ae
  have hok := Pl.fieldE_ok hE.out
  have hnl : (Pl.nature f.st.length f.li.length).length ≤ 100000 := by
    rw [Pl.nature_len]
    have := Pl.points_bd hok
    have : (f.li.length - 1) * f.st.length ≤ 9 * 12 := Nat.mul_le_mul (by have := hok.li10; omega) hok.st12
    omega
  have hll : l.length ≤ 100000 := by
    rw [← H.bd]
    unfold Pl.boundsV
    split
    · rename_i h0
      rw [boundsE_in f c (by decide)] at h0
      rw [Pl.boundsC_len]
      have ht := (tab_of h0).2
      have hS := hok.st12
      obtain ⟨_, ⟨f0, f1⟩, h⟩ := ht
      have : (Pl.spans f c).length ≤ 100 := by
        unfold Pl.spans
        split <;> rename_i hk2 <;> simp only [List.length_map, List.length_range, List.length_cons, List.length_nil] <;> rcases h with h | h | h | h | h <;> omega
      omega
    · simp
  have HR := Lib.hid (bounded_all hb.out)
  have HW := Lib.hid (fun h => H.wrong h)
  have HO := Lib.hid (fun (h : EB = 0) => MeansH.right hE.out (h ▸ H))
  have D2 := Lib.hid d2
  have D3 := Lib.hid d3
  have D4 := Lib.hid d4
  have D5 := Lib.hid d5
  clear H d2 d3 d4 d5 hok
  go_enter Tryz.func7, Tryz.ntmps7
  go_wp2_with fail
  refine (vast_a A1 A2 A3 A4 c1 c2 c3 c4 f _ (hf.up hall) false hv).mono ?_
  rintro e w1 ⟨rfl, hx⟩
  replace kf := (hx.block _ (Array.getElem?_eq_some_iff.1 kf).1).trans kf; replace kc := (hx.block _ (Array.getElem?_eq_some_iff.1 kc).1).trans kc; replace hall : Below w.heap.size w _ := hall.trans (hx.mono hall.size); (try clear l01 l02); have l01 := ld_row kf Tryz.underlying28 rfl info_fld; have l02 := ld_row kc Tryz.underlying48 rfl info_cal; (try clear hcf hff hcc hfc); obtain ⟨hcf, hff⟩ := blk_cells kf; obtain ⟨hcc, hfc⟩ := blk_cells kc; clear hx
  go_wp2_with fail
  refine (bounded_a A cy y true _ (hy.up hall) (by omega) hb).mono ?_
  rintro e w2 ⟨rfl, rfl⟩
  go_wp2_with fail
  refine (Nature_ok A1 A2 A3 A4 c1 c2 c3 c4 f _ (hf.up hall) hm hc hE.out).mono ?_
  rintro e w3 ⟨X, x, rfl, hN, hFN, hx⟩
  replace kf := (hx.block _ (Array.getElem?_eq_some_iff.1 kf).1).trans kf; replace kc := (hx.block _ (Array.getElem?_eq_some_iff.1 kc).1).trans kc; replace hall : Below w.heap.size w _ := hall.trans (hx.mono hall.size); (try clear l01 l02); have l01 := ld_row kf Tryz.underlying28 rfl info_fld; have l02 := ld_row kc Tryz.underlying48 rfl info_cal; (try clear hcf hff hcc hfc); obtain ⟨hcf, hff⟩ := blk_cells kf; obtain ⟨hcc, hfc⟩ := blk_cells kc; clear hx
  go_wp2_with fail
  refine (Drawn_a A1 A2 A3 A4 c1 c2 c3 c4 f A cy y D 0 _ HD hE (hf.up hall) hm hc (hy.up hall) (by omega)).mono ?_
  rintro e w4 ⟨rfl, hx⟩
  have hN := hN.up hx
  replace kf := (hx.block _ (Array.getElem?_eq_some_iff.1 kf).1).trans kf; replace kc := (hx.block _ (Array.getElem?_eq_some_iff.1 kc).1).trans kc; replace hall : Below w.heap.size w _ := hall.trans (hx.mono hall.size); (try clear l01 l02); have l01 := ld_row kf Tryz.underlying28 rfl info_fld; have l02 := ld_row kc Tryz.underlying48 rfl info_cal; (try clear hcf hff hcc hfc); obtain ⟨hcf, hff⟩ := blk_cells kf; obtain ⟨hcc, hfc⟩ := blk_cells kc; clear hx
  go_wp2_with fail
  refine (Points_h A1 A2 A3 A4 c1 c2 c3 c4 f P _ HP (hf.up hall) hm hc).mono ?_
  rintro e w5 ⟨rfl, hx⟩
  have hN := hN.up hx
  replace kf := (hx.block _ (Array.getElem?_eq_some_iff.1 kf).1).trans kf; replace kc := (hx.block _ (Array.getElem?_eq_some_iff.1 kc).1).trans kc; replace hall : Below w.heap.size w _ := hall.trans (hx.mono hall.size); (try clear l01 l02); have l01 := ld_row kf Tryz.underlying28 rfl info_fld; have l02 := ld_row kc Tryz.underlying48 rfl info_cal; (try clear hcf hff hcc hfc); obtain ⟨hcf, hff⟩ := blk_cells kf; obtain ⟨hcc, hfc⟩ := blk_cells kc; clear hx
  by_cases g1 : (y.length : Int) = P
  case neg =>
    have g2 : ((y.length : Int) == P) = false := by simpa using g1
    have g3 := D2.out g1
    subst g3
    go_wp2_with fail
    refine (Bounds_h A1 A2 A3 A4 c1 c2 c3 c4 f c 1 l EB _ HB HBE (hf.up hall) hm hc hk).mono ?_
    rintro e w7 ⟨Z, z, rfl, hBd, _, _, hx⟩
    replace kf := (hx.block _ (Array.getElem?_eq_some_iff.1 kf).1).trans kf; replace kc := (hx.block _ (Array.getElem?_eq_some_iff.1 kc).1).trans kc; replace hall : Below w.heap.size w _ := hall.trans (hx.mono hall.size); (try clear l01 l02); have l01 := ld_row kf Tryz.underlying28 rfl info_fld; have l02 := ld_row kc Tryz.underlying48 rfl info_cal; (try clear hcf hff hcc hfc); obtain ⟨hcf, hff⟩ := blk_cells kf; obtain ⟨hcc, hfc⟩ := blk_cells kc; clear hx
    go_wp2_with fail
    refine (Allows_h A1 A2 A3 A4 c1 c2 c3 c4 f c _ cy y b EA _ HA HAE (hf.up hall) hm hc hk (by first | exact hyy.up hall | exact hy.up hall) (by omega)).mono ?_
    rintro e w8 ⟨rfl, hx⟩
    have hBd := hBd.up hx
    replace kf := (hx.block _ (Array.getElem?_eq_some_iff.1 kf).1).trans kf; replace kc := (hx.block _ (Array.getElem?_eq_some_iff.1 kc).1).trans kc; replace hall : Below w.heap.size w _ := hall.trans (hx.mono hall.size); (try clear l01 l02); have l01 := ld_row kf Tryz.underlying28 rfl info_fld; have l02 := ld_row kc Tryz.underlying48 rfl info_cal; (try clear hcf hff hcc hfc); obtain ⟨hcf, hff⟩ := blk_cells kf; obtain ⟨hcc, hfc⟩ := blk_cells kc; clear hx
    by_cases r1 : EB = 0
    case neg =>
      have r2 : (EB != 0) = true := by simpa using r1
      obtain rfl := HW.out r1
      go_wp2_with fail
      refine (spoken_a _ (hEn.up hall)).mono ?_
      rintro e w9 ⟨rfl, hx⟩
      replace kf := (hx.block _ (Array.getElem?_eq_some_iff.1 kf).1).trans kf; replace kc := (hx.block _ (Array.getElem?_eq_some_iff.1 kc).1).trans kc; replace hall : Below w.heap.size w _ := hall.trans (hx.mono hall.size); (try clear l01 l02); have l01 := ld_row kf Tryz.underlying28 rfl info_fld; have l02 := ld_row kc Tryz.underlying48 rfl info_cal; (try clear hcf hff hcc hfc); obtain ⟨hcf, hff⟩ := blk_cells kf; obtain ⟨hcc, hfc⟩ := blk_cells kc; clear hx
      go_wp2_with fail
      go_ret
      exact ⟨by first | rfl | (simp; done) | (simp; omega), hall⟩
    subst r1
    obtain ⟨_, z1, _⟩ := HO.out (by trivial)
    obtain rfl := z1 (by trivial)
    go_wp2_with fail
    refine (spoken_a _ (hEn.up hall)).mono ?_
    rintro e w9 ⟨rfl, hx⟩
    replace kf := (hx.block _ (Array.getElem?_eq_some_iff.1 kf).1).trans kf; replace kc := (hx.block _ (Array.getElem?_eq_some_iff.1 kc).1).trans kc; replace hall : Below w.heap.size w _ := hall.trans (hx.mono hall.size); (try clear l01 l02); have l01 := ld_row kf Tryz.underlying28 rfl info_fld; have l02 := ld_row kc Tryz.underlying48 rfl info_cal; (try clear hcf hff hcc hfc); obtain ⟨hcf, hff⟩ := blk_cells kf; obtain ⟨hcc, hfc⟩ := blk_cells kc; clear hx
    go_wp2_with fail
    go_ret
    exact ⟨by first | rfl | (simp; done) | (simp; omega), hall⟩
  case pos =>
    subst g1
    obtain ⟨g, off, hA, hg, q0⟩ := Ints.at1 hy (show 0 < y.length by omega)
    have e3 : (0 : Int) < (y.length : Int) := by omega
    have hyy : Ints w w.heap.size (some ⟨g, off, none⟩) y := hA ▸ hy
    subst hA
    have q1 := (hall.cell (p := ⟨g, off, none⟩) hg).trans q0
    have g4 : Pl.at0 y 0 = y[0]'(by omega) := Pl.at0_get (by omega)
    by_cases g5 : y[0]'(by omega) = 0
    case neg =>
      have g6 := D3.out rfl (by rw [g4]; exact g5)
      have g7 : (y[0]'(by omega) == 0) = false := by simpa using g5
      subst g6
      go_wp2_with fail
      refine (Bounds_h A1 A2 A3 A4 c1 c2 c3 c4 f c 1 l EB _ HB HBE (hf.up hall) hm hc hk).mono ?_
      rintro e w7 ⟨Z, z, rfl, hBd, _, _, hx⟩
      replace kf := (hx.block _ (Array.getElem?_eq_some_iff.1 kf).1).trans kf; replace kc := (hx.block _ (Array.getElem?_eq_some_iff.1 kc).1).trans kc; replace hall : Below w.heap.size w _ := hall.trans (hx.mono hall.size); (try clear l01 l02); have l01 := ld_row kf Tryz.underlying28 rfl info_fld; have l02 := ld_row kc Tryz.underlying48 rfl info_cal; (try clear hcf hff hcc hfc); obtain ⟨hcf, hff⟩ := blk_cells kf; obtain ⟨hcc, hfc⟩ := blk_cells kc; clear hx
      go_wp2_with fail
      refine (Allows_h A1 A2 A3 A4 c1 c2 c3 c4 f c _ cy y b EA _ HA HAE (hf.up hall) hm hc hk (by first | exact hyy.up hall | exact hy.up hall) (by omega)).mono ?_
      rintro e w8 ⟨rfl, hx⟩
      have hBd := hBd.up hx
      replace kf := (hx.block _ (Array.getElem?_eq_some_iff.1 kf).1).trans kf; replace kc := (hx.block _ (Array.getElem?_eq_some_iff.1 kc).1).trans kc; replace hall : Below w.heap.size w _ := hall.trans (hx.mono hall.size); (try clear l01 l02); have l01 := ld_row kf Tryz.underlying28 rfl info_fld; have l02 := ld_row kc Tryz.underlying48 rfl info_cal; (try clear hcf hff hcc hfc); obtain ⟨hcf, hff⟩ := blk_cells kf; obtain ⟨hcc, hfc⟩ := blk_cells kc; clear hx
      by_cases r1 : EB = 0
      case neg =>
        have r2 : (EB != 0) = true := by simpa using r1
        obtain rfl := HW.out r1
        go_wp2_with fail
        refine (spoken_a _ (hEn.up hall)).mono ?_
        rintro e w9 ⟨rfl, hx⟩
        replace kf := (hx.block _ (Array.getElem?_eq_some_iff.1 kf).1).trans kf; replace kc := (hx.block _ (Array.getElem?_eq_some_iff.1 kc).1).trans kc; replace hall : Below w.heap.size w _ := hall.trans (hx.mono hall.size); (try clear l01 l02); have l01 := ld_row kf Tryz.underlying28 rfl info_fld; have l02 := ld_row kc Tryz.underlying48 rfl info_cal; (try clear hcf hff hcc hfc); obtain ⟨hcf, hff⟩ := blk_cells kf; obtain ⟨hcc, hfc⟩ := blk_cells kc; clear hx
        go_wp2_with fail
        go_ret
        exact ⟨by first | rfl | (simp; done) | (simp; omega), hall⟩
      subst r1
      obtain ⟨_, z1, _⟩ := HO.out (by trivial)
      obtain rfl := z1 (by trivial)
      go_wp2_with fail
      refine (spoken_a _ (hEn.up hall)).mono ?_
      rintro e w9 ⟨rfl, hx⟩
      replace kf := (hx.block _ (Array.getElem?_eq_some_iff.1 kf).1).trans kf; replace kc := (hx.block _ (Array.getElem?_eq_some_iff.1 kc).1).trans kc; replace hall : Below w.heap.size w _ := hall.trans (hx.mono hall.size); (try clear l01 l02); have l01 := ld_row kf Tryz.underlying28 rfl info_fld; have l02 := ld_row kc Tryz.underlying48 rfl info_cal; (try clear hcf hff hcc hfc); obtain ⟨hcf, hff⟩ := blk_cells kf; obtain ⟨hcc, hfc⟩ := blk_cells kc; clear hx
      go_wp2_with fail
      go_ret
      exact ⟨by first | rfl | (simp; done) | (simp; omega), hall⟩
    case pos =>
      have HK := Lib.hid (D4.out rfl (by rw [g4]; exact g5))
      have hlen := D5.out rfl
      have hpt : Hid (∀ b ∈ Pl.nature f.st.length f.li.length, b.fr < y.length ∧ b.till < y.length) := Lib.hid fun b hb => by
        have := Pl.nature_pts b hb
        rw [hlen]
        exact ⟨this.1, this.2.1⟩
      have HL := Lib.hid hlen
      rw [g5] at q0 q1
      clear g4 g5 hlen
      go_wp2_with fail
      refine (keeps_a X (some ⟨g, off, none⟩) x cy _ y D _ hN hnl (hyy.up hall) (by omega) hpt.out HR.out HK).mono ?_
      rintro e w6 ⟨rfl, hx⟩
      replace kf := (hx.block _ (Array.getElem?_eq_some_iff.1 kf).1).trans kf; replace kc := (hx.block _ (Array.getElem?_eq_some_iff.1 kc).1).trans kc; replace hall : Below w.heap.size w _ := hall.trans (hx.mono hall.size); (try clear l01 l02); have l01 := ld_row kf Tryz.underlying28 rfl info_fld; have l02 := ld_row kc Tryz.underlying48 rfl info_cal; (try clear hcf hff hcc hfc); obtain ⟨hcf, hff⟩ := blk_cells kf; obtain ⟨hcc, hfc⟩ := blk_cells kc; clear hx
      cases D with
      | false =>
        go_wp2_with fail
        refine (Bounds_h A1 A2 A3 A4 c1 c2 c3 c4 f c 1 l EB _ HB HBE (hf.up hall) hm hc hk).mono ?_
        rintro e w7 ⟨Z, z, rfl, hBd, _, _, hx⟩
        replace kf := (hx.block _ (Array.getElem?_eq_some_iff.1 kf).1).trans kf; replace kc := (hx.block _ (Array.getElem?_eq_some_iff.1 kc).1).trans kc; replace hall : Below w.heap.size w _ := hall.trans (hx.mono hall.size); (try clear l01 l02); have l01 := ld_row kf Tryz.underlying28 rfl info_fld; have l02 := ld_row kc Tryz.underlying48 rfl info_cal; (try clear hcf hff hcc hfc); obtain ⟨hcf, hff⟩ := blk_cells kf; obtain ⟨hcc, hfc⟩ := blk_cells kc; clear hx
        go_wp2_with fail
        refine (Allows_h A1 A2 A3 A4 c1 c2 c3 c4 f c _ cy y b EA _ HA HAE (hf.up hall) hm hc hk (by first | exact hyy.up hall | exact hy.up hall) (by omega)).mono ?_
        rintro e w8 ⟨rfl, hx⟩
        have hBd := hBd.up hx
        replace kf := (hx.block _ (Array.getElem?_eq_some_iff.1 kf).1).trans kf; replace kc := (hx.block _ (Array.getElem?_eq_some_iff.1 kc).1).trans kc; replace hall : Below w.heap.size w _ := hall.trans (hx.mono hall.size); (try clear l01 l02); have l01 := ld_row kf Tryz.underlying28 rfl info_fld; have l02 := ld_row kc Tryz.underlying48 rfl info_cal; (try clear hcf hff hcc hfc); obtain ⟨hcf, hff⟩ := blk_cells kf; obtain ⟨hcc, hfc⟩ := blk_cells kc; clear hx
        by_cases r1 : EB = 0
        case neg =>
          have r2 : (EB != 0) = true := by simpa using r1
          obtain rfl := HW.out r1
          go_wp2_with fail
          refine (spoken_a _ (hEn.up hall)).mono ?_
          rintro e w9 ⟨rfl, hx⟩
          replace kf := (hx.block _ (Array.getElem?_eq_some_iff.1 kf).1).trans kf; replace kc := (hx.block _ (Array.getElem?_eq_some_iff.1 kc).1).trans kc; replace hall : Below w.heap.size w _ := hall.trans (hx.mono hall.size); (try clear l01 l02); have l01 := ld_row kf Tryz.underlying28 rfl info_fld; have l02 := ld_row kc Tryz.underlying48 rfl info_cal; (try clear hcf hff hcc hfc); obtain ⟨hcf, hff⟩ := blk_cells kf; obtain ⟨hcc, hfc⟩ := blk_cells kc; clear hx
          go_wp2_with fail
          go_ret
          exact ⟨by first | rfl | (simp; done) | (simp; omega), hall⟩
        subst r1
        obtain ⟨_, z1, _⟩ := HO.out (by trivial)
        obtain rfl := z1 (by trivial)
        go_wp2_with fail
        refine (spoken_a _ (hEn.up hall)).mono ?_
        rintro e w9 ⟨rfl, hx⟩
        replace kf := (hx.block _ (Array.getElem?_eq_some_iff.1 kf).1).trans kf; replace kc := (hx.block _ (Array.getElem?_eq_some_iff.1 kc).1).trans kc; replace hall : Below w.heap.size w _ := hall.trans (hx.mono hall.size); (try clear l01 l02); have l01 := ld_row kf Tryz.underlying28 rfl info_fld; have l02 := ld_row kc Tryz.underlying48 rfl info_cal; (try clear hcf hff hcc hfc); obtain ⟨hcf, hff⟩ := blk_cells kf; obtain ⟨hcc, hfc⟩ := blk_cells kc; clear hx
        go_wp2_with fail
        go_ret
        exact ⟨by first | rfl | (simp; done) | (simp; omega), hall⟩
      | true =>
        go_wp2_with fail
        refine (Bounds_h A1 A2 A3 A4 c1 c2 c3 c4 f c 1 l EB _ HB HBE (hf.up hall) hm hc hk).mono ?_
        rintro e w7 ⟨Z, z, rfl, hBd, _, _, hx⟩
        replace kf := (hx.block _ (Array.getElem?_eq_some_iff.1 kf).1).trans kf; replace kc := (hx.block _ (Array.getElem?_eq_some_iff.1 kc).1).trans kc; replace hall : Below w.heap.size w _ := hall.trans (hx.mono hall.size); (try clear l01 l02); have l01 := ld_row kf Tryz.underlying28 rfl info_fld; have l02 := ld_row kc Tryz.underlying48 rfl info_cal; (try clear hcf hff hcc hfc); obtain ⟨hcf, hff⟩ := blk_cells kf; obtain ⟨hcc, hfc⟩ := blk_cells kc; clear hx
        go_wp2_with fail
        refine (Allows_h A1 A2 A3 A4 c1 c2 c3 c4 f c _ cy y b EA _ HA HAE (hf.up hall) hm hc hk (by first | exact hyy.up hall | exact hy.up hall) (by omega)).mono ?_
        rintro e w8 ⟨rfl, hx⟩
        have hBd := hBd.up hx
        replace kf := (hx.block _ (Array.getElem?_eq_some_iff.1 kf).1).trans kf; replace kc := (hx.block _ (Array.getElem?_eq_some_iff.1 kc).1).trans kc; replace hall : Below w.heap.size w _ := hall.trans (hx.mono hall.size); (try clear l01 l02); have l01 := ld_row kf Tryz.underlying28 rfl info_fld; have l02 := ld_row kc Tryz.underlying48 rfl info_cal; (try clear hcf hff hcc hfc); obtain ⟨hcf, hff⟩ := blk_cells kf; obtain ⟨hcc, hfc⟩ := blk_cells kc; clear hx
        by_cases r1 : EB = 0
        case neg =>
          have r2 : (EB != 0) = true := by simpa using r1
          obtain rfl := HW.out r1
          go_wp2_with fail
          refine (spoken_a _ (hEn.up hall)).mono ?_
          rintro e w9 ⟨rfl, hx⟩
          replace kf := (hx.block _ (Array.getElem?_eq_some_iff.1 kf).1).trans kf; replace kc := (hx.block _ (Array.getElem?_eq_some_iff.1 kc).1).trans kc; replace hall : Below w.heap.size w _ := hall.trans (hx.mono hall.size); (try clear l01 l02); have l01 := ld_row kf Tryz.underlying28 rfl info_fld; have l02 := ld_row kc Tryz.underlying48 rfl info_cal; (try clear hcf hff hcc hfc); obtain ⟨hcf, hff⟩ := blk_cells kf; obtain ⟨hcc, hfc⟩ := blk_cells kc; clear hx
          go_wp2_with fail
          go_ret
          exact ⟨by first | rfl | (simp; done) | (simp; omega), hall⟩
        subst r1
        · obtain ⟨_, _, z2⟩ := HO.out (by trivial)
          obtain ⟨z3, z4, z5⟩ := z2 (by trivial)
          subst z3
          have HKL := Lib.hid z4.symm
          have hpt2 : Hid (∀ x ∈ l, x.fr < y.length ∧ x.till < y.length) := Lib.hid fun x hx => by rw [HL.out]; exact z5 x hx
          clear z2 z4 z5
          go_wp2_with fail
          refine (spoken_a _ (hEn.up hall)).mono ?_
          rintro e w9 ⟨rfl, hx⟩
          have hBd := hBd.up hx
          replace kf := (hx.block _ (Array.getElem?_eq_some_iff.1 kf).1).trans kf; replace kc := (hx.block _ (Array.getElem?_eq_some_iff.1 kc).1).trans kc; replace hall : Below w.heap.size w _ := hall.trans (hx.mono hall.size); (try clear l01 l02); have l01 := ld_row kf Tryz.underlying28 rfl info_fld; have l02 := ld_row kc Tryz.underlying48 rfl info_cal; (try clear hcf hff hcc hfc); obtain ⟨hcf, hff⟩ := blk_cells kf; obtain ⟨hcc, hfc⟩ := blk_cells kc; clear hx
          go_wp2_with fail
          refine (keeps_a Z (some ⟨g, off, none⟩) z cy l y b _ hBd hll (hyy.up hall) (by omega) hpt2.out HR.out HKL).mono ?_
          rintro e w10 ⟨rfl, hx⟩
          replace kf := (hx.block _ (Array.getElem?_eq_some_iff.1 kf).1).trans kf; replace kc := (hx.block _ (Array.getElem?_eq_some_iff.1 kc).1).trans kc; replace hall : Below w.heap.size w _ := hall.trans (hx.mono hall.size); (try clear l01 l02); have l01 := ld_row kf Tryz.underlying28 rfl info_fld; have l02 := ld_row kc Tryz.underlying48 rfl info_cal; (try clear hcf hff hcc hfc); obtain ⟨hcf, hff⟩ := blk_cells kf; obtain ⟨hcc, hfc⟩ := blk_cells kc; clear hx
          go_wp2_with fail
          go_ret
          exact ⟨by first | rfl | simp, hall⟩
end Go.Proofs.YtgbpekeoegfjpaaGreatDoor
