/- Walk: the law DeedNarrows. -/
import Derived.Test.YtgbpekeoegfjpaaGreatDoorProg
import Derived.WalkKit
import Derived.WalkLawsBesides
import Derived.WalkSpells
import Derived.Handy
import Derived.Lib.Hide
import Derived.Great.BuildSlice
import Derived.Deep.QuietTactic
import Derived.BigQuiet
import Derived.Deep.RegionHeld3
import Derived.Deep.DeepCutAuto
import Derived.Test.YtgbpekeoegfjpaaGreatDoorFCa
import Derived.Test.YtgbpekeoegfjpaaGreatDoorFD
import Derived.Test.YtgbpekeoegfjpaaGreatDoorNa
import Derived.Test.YtgbpekeoegfjpaaGreatDoorPlX
namespace Go.Proofs.YtgbpekeoegfjpaaGreatDoor
open Go.RowKit
attribute [-go_sem] run_equalIn_agg storeVar loadVar
attribute [local go_sem] lv_int lv_bool lv_u8 lv_string lv_strings lv_stas lv_pars lv_vars sv_int

theorem checkCallE_less {f : Pl.Fld} {c : Pl.Cal} {y : List Int} {d : Pl.Cal} (hc : Pl.checkCallE f c = 0) (hs : ∀ x ∈ Pl.spans f c, ∃ x' ∈ Pl.spans f d, x'.fr = x.fr ∧ x'.till = x.till ∧ x.lo ≤ x'.lo ∧ x'.hi ≤ x.hi) (hd : Pl.allowsE f d y = 0) :
    Pl.allowsE f c y = 0 ∧ (Pl.allowsV f d y = true → Pl.allowsV f c y = true) := by
  have hdr : Pl.drawnB f.st.length f.li.length y = true := by
    unfold Pl.allowsE at hd
    split at hd
    · split at hd
      · assumption
      · cases hd
    · exact absurd hd ‹_›
  have h0 : Pl.allowsE f c y = 0 := by unfold Pl.allowsE; rw [if_pos hc, if_pos hdr]
  refine ⟨h0, fun h => ?_⟩
  unfold Pl.allowsV at h ⊢
  rw [if_pos hd] at h
  rw [if_pos h0]
  exact Pl.keepsB_mono hs h
theorem checkCallE_course {f : Pl.Fld} {c : Pl.Cal} (hk : c.kind = 3) (h : Pl.checkCallE f c = 0) : (Pl.com f.va [c.crs] (Pl.runC f.st c)).2.2 = true := by
  unfold Pl.checkCallE at h
  split at h
  · exact Pl.callE_course hk h
  · exact absurd h ‹_›
/- The law, where it asks nothing. -/
set_option maxRecDepth 100000 in
set_option maxHeartbeats 4000000 in
theorem deedNarrows_idle (A1 A2 A3 A4 : Option Addr) (c1 c2 c3 c4 : Nat) (f : Pl.Fld) (c : Pl.Cal) (less needle slack : Int) (A : Option Addr) (cy : Nat) (y : List Int) (w : World) (hEn : Env w) (hf : FldS w w.heap.size A1 A2 A3 A4 f) (hc : Caps c1 c2 c3 c4 f) (hk : c.kind ≤ 255) (hym : y.length ≤ 9223372036854775807)
    (h : Pl.vast f = true ∨ 130 < y.length ∨ Pl.checkCallE f c ≠ 0) :
    Calls Tryz.prog 8 #[.agg #[.slice A1 f.st.length c1, .slice A2 f.li.length c2, .slice A3 f.pa.length c3, .slice A4 f.va.length c4], .agg #[.int .u8 (c.kind : Int), .int .i64 c.lim, .int .i64 c.oth, .int .i64 c.fr, .int .i64 c.till, .int .i64 c.size, .int .i64 c.er, .int .i64 c.crs.b, .int .i64 c.crs.n, .int .i64 c.crs.l, .int .i64 c.crs.y, .int .i64 c.crs.x, .int .i64 c.crs.s], .int .i64 less, .int .i64 needle, .int .i64 slack, .slice A y.length cy] w fun e w' => e = .returned (.bool true) ∧ Below w.heap.size w w' := by
  have kf := (heap_alloc_new w (.cells #[.slice A1 f.st.length c1, .slice A2 f.li.length c2, .slice A3 f.pa.length c3, .slice A4 f.va.length c4] 28))
  have kc := (heap_alloc_new (w.alloc (.cells #[.slice A1 f.st.length c1, .slice A2 f.li.length c2, .slice A3 f.pa.length c3, .slice A4 f.va.length c4] 28)) (.cells #[.int .u8 (c.kind : Int), .int .i64 c.lim, .int .i64 c.oth, .int .i64 c.fr, .int .i64 c.till, .int .i64 c.size, .int .i64 c.er, .int .i64 c.crs.b, .int .i64 c.crs.n, .int .i64 c.crs.l, .int .i64 c.crs.y, .int .i64 c.crs.x, .int .i64 c.crs.s] 48))
  rw [World.size_alloc] at kc
  have kf := (Below.heap_alloc _ (.cells #[.int .u8 (c.kind : Int), .int .i64 c.lim, .int .i64 c.oth, .int .i64 c.fr, .int .i64 c.till, .int .i64 c.size, .int .i64 c.er, .int .i64 c.crs.b, .int .i64 c.crs.n, .int .i64 c.crs.l, .int .i64 c.crs.y, .int .i64 c.crs.x, .int .i64 c.crs.s] 48) _ (Array.getElem?_eq_some_iff.1 kf).1).trans kf
  have l01 := ld_row kf Tryz.underlying28 rfl info_fld
  have l02 := ld_row kc Tryz.underlying48 rfl info_cal
  have hall : Below w.heap.size w ((w.alloc (.cells #[.slice A1 f.st.length c1, .slice A2 f.li.length c2, .slice A3 f.pa.length c3, .slice A4 f.va.length c4] 28)).alloc (.cells #[.int .u8 (c.kind : Int), .int .i64 c.lim, .int .i64 c.oth, .int .i64 c.fr, .int .i64 c.till, .int .i64 c.size, .int .i64 c.er, .int .i64 c.crs.b, .int .i64 c.crs.n, .int .i64 c.crs.l, .int .i64 c.crs.y, .int .i64 c.crs.x, .int .i64 c.crs.s] 48)) := ((Below.refl _ w).alloc (Nat.le_refl _) _).alloc (by simp) _
  by_cases h1 : Pl.vast f = true
  · have hv := Lib.hid h1
    clear h h1
    go_enter Tryz.func8, Tryz.ntmps8
    go_wp2_with fail
    refine (vast_a A1 A2 A3 A4 c1 c2 c3 c4 f _ (hf.up hall) true hv).mono ?_
    rintro e w1 ⟨rfl, hx⟩
    replace kf := (hx.block _ (Array.getElem?_eq_some_iff.1 kf).1).trans kf; replace kc := (hx.block _ (Array.getElem?_eq_some_iff.1 kc).1).trans kc; replace hall : Below w.heap.size w _ := hall.trans (hx.mono hall.size); (try clear l01 l02); have l01 := ld_row kf Tryz.underlying28 rfl info_fld; have l02 := ld_row kc Tryz.underlying48 rfl info_cal; (try clear hcf hff hcc hfc); obtain ⟨hcf, hff⟩ := blk_cells kf; obtain ⟨hcc, hfc⟩ := blk_cells kc; clear hx
    go_wp2_with fail
    refine (spoken_a _ (hEn.up hall)).mono ?_
    rintro e w7 ⟨rfl, hx⟩
    replace kf := (hx.block _ (Array.getElem?_eq_some_iff.1 kf).1).trans kf; replace kc := (hx.block _ (Array.getElem?_eq_some_iff.1 kc).1).trans kc; replace hall : Below w.heap.size w _ := hall.trans (hx.mono hall.size); (try clear l01 l02); have l01 := ld_row kf Tryz.underlying28 rfl info_fld; have l02 := ld_row kc Tryz.underlying48 rfl info_cal; (try clear hcf hff hcc hfc); obtain ⟨hcf, hff⟩ := blk_cells kf; obtain ⟨hcc, hfc⟩ := blk_cells kc; clear hx
    go_wp2_with fail
    go_ret
    exact ⟨rfl, hall⟩
  · have h1' : Pl.vast f = false := by simpa using h1
    have hm := Pl.vast_small h1'
    have hv := Lib.hid h1'
    clear h1 h1'
    by_cases h2 : 130 < y.length
    · have e2 : (130 : Int) < (y.length : Int) := by omega
      clear h
      go_enter Tryz.func8, Tryz.ntmps8
      go_wp2_with fail
      refine (vast_a A1 A2 A3 A4 c1 c2 c3 c4 f _ (hf.up hall) false hv).mono ?_
      rintro e w1 ⟨rfl, hx⟩
      replace kf := (hx.block _ (Array.getElem?_eq_some_iff.1 kf).1).trans kf; replace kc := (hx.block _ (Array.getElem?_eq_some_iff.1 kc).1).trans kc; replace hall : Below w.heap.size w _ := hall.trans (hx.mono hall.size); (try clear l01 l02); have l01 := ld_row kf Tryz.underlying28 rfl info_fld; have l02 := ld_row kc Tryz.underlying48 rfl info_cal; (try clear hcf hff hcc hfc); obtain ⟨hcf, hff⟩ := blk_cells kf; obtain ⟨hcc, hfc⟩ := blk_cells kc; clear hx
      go_wp2_with fail
      refine (spoken_a _ (hEn.up hall)).mono ?_
      rintro e w7 ⟨rfl, hx⟩
      replace kf := (hx.block _ (Array.getElem?_eq_some_iff.1 kf).1).trans kf; replace kc := (hx.block _ (Array.getElem?_eq_some_iff.1 kc).1).trans kc; replace hall : Below w.heap.size w _ := hall.trans (hx.mono hall.size); (try clear l01 l02); have l01 := ld_row kf Tryz.underlying28 rfl info_fld; have l02 := ld_row kc Tryz.underlying48 rfl info_cal; (try clear hcf hff hcc hfc); obtain ⟨hcf, hff⟩ := blk_cells kf; obtain ⟨hcc, hfc⟩ := blk_cells kc; clear hx
      go_wp2_with fail
      go_ret
      exact ⟨rfl, hall⟩
    · have e2 : ¬ (130 : Int) < (y.length : Int) := by omega
      obtain ⟨E, hE⟩ : ∃ E, Pl.checkCallE f c = E := ⟨_, rfl⟩
      have h0 : E ≠ 0 := by rcases h with h | h | h; exact absurd (hv.out.symm.trans h) (by decide); exact absurd h h2; rwa [hE] at h
      have HC := Lib.hid hE
      have q0 : (E != 0) = true := by simpa using h0
      clear h hE
      go_enter Tryz.func8, Tryz.ntmps8
      go_wp2_with fail
      refine (vast_a A1 A2 A3 A4 c1 c2 c3 c4 f _ (hf.up hall) false hv).mono ?_
      rintro e w1 ⟨rfl, hx⟩
      replace kf := (hx.block _ (Array.getElem?_eq_some_iff.1 kf).1).trans kf; replace kc := (hx.block _ (Array.getElem?_eq_some_iff.1 kc).1).trans kc; replace hall : Below w.heap.size w _ := hall.trans (hx.mono hall.size); (try clear l01 l02); have l01 := ld_row kf Tryz.underlying28 rfl info_fld; have l02 := ld_row kc Tryz.underlying48 rfl info_cal; (try clear hcf hff hcc hfc); obtain ⟨hcf, hff⟩ := blk_cells kf; obtain ⟨hcc, hfc⟩ := blk_cells kc; clear hx
      go_wp2_with fail
      refine (checkCall_h A1 A2 A3 A4 c1 c2 c3 c4 f c E _ HC (hf.up hall) hm hc hk).mono ?_
      rintro e w2 ⟨rfl, hx⟩
      replace kf := (hx.block _ (Array.getElem?_eq_some_iff.1 kf).1).trans kf; replace kc := (hx.block _ (Array.getElem?_eq_some_iff.1 kc).1).trans kc; replace hall : Below w.heap.size w _ := hall.trans (hx.mono hall.size); (try clear l01 l02); have l01 := ld_row kf Tryz.underlying28 rfl info_fld; have l02 := ld_row kc Tryz.underlying48 rfl info_cal; (try clear hcf hff hcc hfc); obtain ⟨hcf, hff⟩ := blk_cells kf; obtain ⟨hcc, hfc⟩ := blk_cells kc; clear hx
      go_wp2_with fail
      refine (spoken_a _ (hEn.up hall)).mono ?_
      rintro e w7 ⟨rfl, hx⟩
      replace kf := (hx.block _ (Array.getElem?_eq_some_iff.1 kf).1).trans kf; replace kc := (hx.block _ (Array.getElem?_eq_some_iff.1 kc).1).trans kc; replace hall : Below w.heap.size w _ := hall.trans (hx.mono hall.size); (try clear l01 l02); have l01 := ld_row kf Tryz.underlying28 rfl info_fld; have l02 := ld_row kc Tryz.underlying48 rfl info_cal; (try clear hcf hff hcc hfc); obtain ⟨hcf, hff⟩ := blk_cells kf; obtain ⟨hcc, hfc⟩ := blk_cells kc; clear hx
      go_wp2_with fail
      go_ret
      exact ⟨rfl, hall⟩
theorem ld_crs {w : World} {g : Nat} {a0 a1 a2 a3 a4 a5 a6 b n l y x s : Value} (hg : w.heap[g]? = some (.cells #[a0, a1, a2, a3, a4, a5, a6, b, n, l, y, x, s] 48 (0, 0))) :
    (loadVar 46 ⟨g, 7, none⟩).run Tryz.prog w = .ok (.agg #[b, n, l, y, x, s]) w :=
  run_loadVar_mid w g 7 _ _ _ (mid_of (n := 6) hg rfl) Tryz.underlying46 rfl (by kernel_rfl)
/-- The narrower calls. -/
theorem narrows_z {f : Pl.Fld} {c d : Pl.Cal} {y : List Int} {V1 V2 : Bool} {E1 E2 : Int} (hC : Pl.checkCallE f c = 0) (hs : Pl.checkCallE f d = 0 → ∀ x ∈ Pl.spans f c, ∃ x' ∈ Pl.spans f d, x'.fr = x.fr ∧ x'.till = x.till ∧ x.lo ≤ x'.lo ∧ x'.hi ≤ x.hi)
    (h1 : Pl.allowsV f d y = V1) (h2 : Pl.allowsE f d y = E1) (h3 : Pl.allowsV f c y = V2) (h4 : Pl.allowsE f c y = E2) : E1 = 0 → E2 = 0 ∧ (V1 = true → V2 = true) := by
  intro h
  subst h1 h2 h3 h4
  have hd : Pl.checkCallE f d = 0 := by
    unfold Pl.allowsE at h
    split at h
    · assumption
    · exact h
  exact checkCallE_less hC (hs hd) h
set_option maxRecDepth 100000 in
set_option maxHeartbeats 4000000 in
theorem deedNarrows_fixed (A1 A2 A3 A4 : Option Addr) (c1 c2 c3 c4 : Nat) (f : Pl.Fld) (c : Pl.Cal) (less needle slack : Int) (A : Option Addr) (cy : Nat) (y : List Int) (w : World) (hEn : Env w) (hf : FldS w w.heap.size A1 A2 A3 A4 f) (hm : Small f) (hc : Caps c1 c2 c3 c4 f) (hk : c.kind ≤ 255) (hy : Ints w w.heap.size A y) (hv : Hid (Pl.vast f = false)) (hym : y.length ≤ 130) (HC : Hid (Pl.checkCallE f c = 0)) (h3 : c.kind ≠ 3) :
    Calls Tryz.prog 8 #[.agg #[.slice A1 f.st.length c1, .slice A2 f.li.length c2, .slice A3 f.pa.length c3, .slice A4 f.va.length c4], .agg #[.int .u8 (c.kind : Int), .int .i64 c.lim, .int .i64 c.oth, .int .i64 c.fr, .int .i64 c.till, .int .i64 c.size, .int .i64 c.er, .int .i64 c.crs.b, .int .i64 c.crs.n, .int .i64 c.crs.l, .int .i64 c.crs.y, .int .i64 c.crs.x, .int .i64 c.crs.s], .int .i64 less, .int .i64 needle, .int .i64 slack, .slice A y.length cy] w fun e w' => e = .returned (.bool true) ∧ Below w.heap.size w w' := by
  have kf := (heap_alloc_new w (.cells #[.slice A1 f.st.length c1, .slice A2 f.li.length c2, .slice A3 f.pa.length c3, .slice A4 f.va.length c4] 28))
  have kc := (heap_alloc_new (w.alloc (.cells #[.slice A1 f.st.length c1, .slice A2 f.li.length c2, .slice A3 f.pa.length c3, .slice A4 f.va.length c4] 28)) (.cells #[.int .u8 (c.kind : Int), .int .i64 c.lim, .int .i64 c.oth, .int .i64 c.fr, .int .i64 c.till, .int .i64 c.size, .int .i64 c.er, .int .i64 c.crs.b, .int .i64 c.crs.n, .int .i64 c.crs.l, .int .i64 c.crs.y, .int .i64 c.crs.x, .int .i64 c.crs.s] 48))
  rw [World.size_alloc] at kc
  have kf := (Below.heap_alloc _ (.cells #[.int .u8 (c.kind : Int), .int .i64 c.lim, .int .i64 c.oth, .int .i64 c.fr, .int .i64 c.till, .int .i64 c.size, .int .i64 c.er, .int .i64 c.crs.b, .int .i64 c.crs.n, .int .i64 c.crs.l, .int .i64 c.crs.y, .int .i64 c.crs.x, .int .i64 c.crs.s] 48) _ (Array.getElem?_eq_some_iff.1 kf).1).trans kf
  have l01 := ld_row kf Tryz.underlying28 rfl info_fld
  have l02 := ld_row kc Tryz.underlying48 rfl info_cal
  have hall : Below w.heap.size w ((w.alloc (.cells #[.slice A1 f.st.length c1, .slice A2 f.li.length c2, .slice A3 f.pa.length c3, .slice A4 f.va.length c4] 28)).alloc (.cells #[.int .u8 (c.kind : Int), .int .i64 c.lim, .int .i64 c.oth, .int .i64 c.fr, .int .i64 c.till, .int .i64 c.size, .int .i64 c.er, .int .i64 c.crs.b, .int .i64 c.crs.n, .int .i64 c.crs.l, .int .i64 c.crs.y, .int .i64 c.crs.x, .int .i64 c.crs.s] 48)) := ((Below.refl _ w).alloc (Nat.le_refl _) _).alloc (by simp) _
  have e2 : ¬ (130 : Int) < (y.length : Int) := by omega
  have q3 : ((c.kind : Int) == 3) = false := by rw [beq_eq_false_iff_ne]; omega
  go_enter Tryz.func8, Tryz.ntmps8
  go_wp2_with fail
  refine (vast_a A1 A2 A3 A4 c1 c2 c3 c4 f _ (hf.up hall) false hv).mono ?_
  rintro e w1 ⟨rfl, hx⟩
  replace kf := (hx.block _ (Array.getElem?_eq_some_iff.1 kf).1).trans kf; replace kc := (hx.block _ (Array.getElem?_eq_some_iff.1 kc).1).trans kc; replace hall : Below w.heap.size w _ := hall.trans (hx.mono hall.size); (try clear l01 l02); have l01 := ld_row kf Tryz.underlying28 rfl info_fld; have l02 := ld_row kc Tryz.underlying48 rfl info_cal; (try clear hcf hff hcc hfc); obtain ⟨hcf, hff⟩ := blk_cells kf; obtain ⟨hcc, hfc⟩ := blk_cells kc; clear hx
  go_wp2_with fail
  refine (checkCall_h A1 A2 A3 A4 c1 c2 c3 c4 f c 0 _ HC (hf.up hall) hm hc hk).mono ?_
  rintro e w2 ⟨rfl, hx⟩
  replace kf := (hx.block _ (Array.getElem?_eq_some_iff.1 kf).1).trans kf; replace kc := (hx.block _ (Array.getElem?_eq_some_iff.1 kc).1).trans kc; replace hall : Below w.heap.size w _ := hall.trans (hx.mono hall.size); (try clear l01 l02); have l01 := ld_row kf Tryz.underlying28 rfl info_fld; have l02 := ld_row kc Tryz.underlying48 rfl info_cal; (try clear hcf hff hcc hfc); obtain ⟨hcf, hff⟩ := blk_cells kf; obtain ⟨hcc, hfc⟩ := blk_cells kc; clear hx
  have l04 := l02
  have kc0 := Lib.hid kc
  obtain ⟨W2, st2, kd, hx⟩ := sp_2 #[.int .u8 (c.kind : Int), .int .i64 c.lim, .int .i64 c.oth, .int .i64 c.fr, .int .i64 c.till, .int .i64 c.size, .int .i64 c.er, .int .i64 c.crs.b, .int .i64 c.crs.n, .int .i64 c.crs.l, .int .i64 c.crs.y, .int .i64 c.crs.x, .int .i64 c.crs.s] rfl (by simp [Value.oneCell']) w2
  replace kf := (hx.block _ (Array.getElem?_eq_some_iff.1 kf).1).trans kf; replace kc := (hx.block _ (Array.getElem?_eq_some_iff.1 kc).1).trans kc; replace hall : Below w.heap.size w _ := hall.trans (hx.mono hall.size); (try clear l01 l02); have l01 := ld_row kf Tryz.underlying28 rfl info_fld; have l02 := ld_row kc Tryz.underlying48 rfl info_cal; (try clear hcf hff hcc hfc); obtain ⟨hcf, hff⟩ := blk_cells kf; obtain ⟨hcc, hfc⟩ := blk_cells kc; clear hx
  have hlt2 : w.heap.size + 1 < w2.heap.size := (Array.getElem?_eq_some_iff.1 kc0.out).1
  have hltd : w2.heap.size < W2.heap.size := (Array.getElem?_eq_some_iff.1 kd).1
  obtain ⟨hcd, hfd⟩ := blk_cells kd
  by_cases g1 : less < 0 ∨ c.er < less
  · have g2 : Hid (less < 0 ∨ c.er < less) := g1
    by_cases g3 : less < 0
    · go_wp2_with fail
      refine (spoken_a _ (hEn.up hall)).mono ?_
      rintro e w9 ⟨rfl, hx⟩
      replace kd := (hx.block _ (Array.getElem?_eq_some_iff.1 kd).1).trans kd; (try clear l03); have l03 := ld_row kd Tryz.underlying48 rfl info_cal; replace kf := (hx.block _ (Array.getElem?_eq_some_iff.1 kf).1).trans kf; replace kc := (hx.block _ (Array.getElem?_eq_some_iff.1 kc).1).trans kc; replace hall : Below w.heap.size w _ := hall.trans (hx.mono hall.size); (try clear l01 l02); have l01 := ld_row kf Tryz.underlying28 rfl info_fld; have l02 := ld_row kc Tryz.underlying48 rfl info_cal; (try clear hcf hff hcc hfc); obtain ⟨hcf, hff⟩ := blk_cells kf; obtain ⟨hcc, hfc⟩ := blk_cells kc; clear hx
      go_wp2_with fail
      go_ret
      exact ⟨by first | rfl | (simp; done), hall⟩
    · have g4 : c.er < less := by omega
      clear g1
      go_wp2_with fail
      refine (spoken_a _ (hEn.up hall)).mono ?_
      rintro e w9 ⟨rfl, hx⟩
      replace kd := (hx.block _ (Array.getElem?_eq_some_iff.1 kd).1).trans kd; (try clear l03); have l03 := ld_row kd Tryz.underlying48 rfl info_cal; replace kf := (hx.block _ (Array.getElem?_eq_some_iff.1 kf).1).trans kf; replace kc := (hx.block _ (Array.getElem?_eq_some_iff.1 kc).1).trans kc; replace hall : Below w.heap.size w _ := hall.trans (hx.mono hall.size); (try clear l01 l02); have l01 := ld_row kf Tryz.underlying28 rfl info_fld; have l02 := ld_row kc Tryz.underlying48 rfl info_cal; (try clear hcf hff hcc hfc); obtain ⟨hcf, hff⟩ := blk_cells kf; obtain ⟨hcc, hfc⟩ := blk_cells kc; clear hx
      go_wp2_with fail
      go_ret
      exact ⟨by first | rfl | (simp; done), hall⟩
  · have g3 : ¬ less < 0 := by omega
    have g4 : ¬ c.er < less := by omega
    obtain ⟨V1, hV1⟩ : ∃ V, Pl.allowsV f { c with er := less } y = V := ⟨_, rfl⟩
    obtain ⟨E1, hE1⟩ : ∃ V, Pl.allowsE f { c with er := less } y = V := ⟨_, rfl⟩
    obtain ⟨V2, hV2⟩ : ∃ V, Pl.allowsV f c y = V := ⟨_, rfl⟩
    obtain ⟨E2, hE2⟩ : ∃ V, Pl.allowsE f c y = V := ⟨_, rfl⟩
    have HZ := Lib.hid (narrows_z HC.out (fun _ => Pl.less_spans (by omega) h3) hV1 hE1 hV2 hE2)
    have HV1 := Lib.hid hV1
    have HE1 := Lib.hid hE1
    have HV2 := Lib.hid hV2
    have HE2 := Lib.hid hE2
    clear hV1 hE1 hV2 hE2 g1
    obtain ⟨W3, hW3⟩ : ∃ W3, W2.setCell ⟨w2.heap.size, 6, none⟩ (.int .i64 less) = W3 := ⟨_, rfl⟩
    have kd3 := heap_setCell_same _ _ 6 _ _ (.int .i64 less) kd
    have kf3 := (Below.heap_setCell W2 ⟨w2.heap.size, 6, none⟩ (.int .i64 less) _ (show w.heap.size ≠ w2.heap.size by omega)).trans kf
    have kc3 := (Below.heap_setCell W2 ⟨w2.heap.size, 6, none⟩ (.int .i64 less) _ (show w.heap.size + 1 ≠ w2.heap.size by omega)).trans kc
    have hall3 := hall.setCell (p := ⟨w2.heap.size, 6, none⟩) (show w.heap.size ≤ w2.heap.size by omega) (.int .i64 less)
    rw [hW3] at kd3 kf3 kc3 hall3
    simp only [List.setIfInBounds_toArray, List.set_cons_succ, List.set_cons_zero] at kd3
    have l5 := ld_row kf3 Tryz.underlying28 rfl info_fld
    have l6 := ld_row kc3 Tryz.underlying48 rfl info_cal
    have l7 := ld_row kd3 Tryz.underlying48 rfl info_cal
    have kd0 := Lib.hid kd
    go_wp2_with fail
    refine (Allows_h A1 A2 A3 A4 c1 c2 c3 c4 f { c with er := less } A cy y V1 E1 _ HV1 HE1 (hf.up hall3) hm hc hk (hy.up hall3) (by omega)).mono ?_
    rintro e w3 ⟨rfl, hx⟩
    clear l5 l6 l7 hcd hfd hcf hff hcc hfc
    replace kd := kd3
    replace kf := kf3
    replace kc := kc3
    replace hall := hall3
    replace kd := (hx.block _ (Array.getElem?_eq_some_iff.1 kd).1).trans kd; (try clear l03); have l03 := ld_row kd Tryz.underlying48 rfl info_cal; replace kf := (hx.block _ (Array.getElem?_eq_some_iff.1 kf).1).trans kf; replace kc := (hx.block _ (Array.getElem?_eq_some_iff.1 kc).1).trans kc; replace hall : Below w.heap.size w _ := hall.trans (hx.mono hall.size); (try clear l01 l02); have l01 := ld_row kf Tryz.underlying28 rfl info_fld; have l02 := ld_row kc Tryz.underlying48 rfl info_cal; (try clear hcf hff hcc hfc); obtain ⟨hcf, hff⟩ := blk_cells kf; obtain ⟨hcc, hfc⟩ := blk_cells kc; clear hx
    go_wp2_with fail
    refine (Allows_h A1 A2 A3 A4 c1 c2 c3 c4 f c A cy y V2 E2 _ HV2 HE2 (hf.up hall) hm hc hk (hy.up hall) (by omega)).mono ?_
    rintro e w4 ⟨rfl, hx⟩
    replace kd := (hx.block _ (Array.getElem?_eq_some_iff.1 kd).1).trans kd; (try clear l03); have l03 := ld_row kd Tryz.underlying48 rfl info_cal; replace kf := (hx.block _ (Array.getElem?_eq_some_iff.1 kf).1).trans kf; replace kc := (hx.block _ (Array.getElem?_eq_some_iff.1 kc).1).trans kc; replace hall : Below w.heap.size w _ := hall.trans (hx.mono hall.size); (try clear l01 l02); have l01 := ld_row kf Tryz.underlying28 rfl info_fld; have l02 := ld_row kc Tryz.underlying48 rfl info_cal; (try clear hcf hff hcc hfc); obtain ⟨hcf, hff⟩ := blk_cells kf; obtain ⟨hcc, hfc⟩ := blk_cells kc; clear hx
    by_cases z1 : E1 = 0
    case neg =>
      have z2 : (E1 != 0) = true := by simpa using z1
      go_wp2_with fail
      refine (spoken_a _ (hEn.up hall)).mono ?_
      rintro e w9 ⟨rfl, hx⟩
      replace kd := (hx.block _ (Array.getElem?_eq_some_iff.1 kd).1).trans kd; (try clear l03); have l03 := ld_row kd Tryz.underlying48 rfl info_cal; replace kf := (hx.block _ (Array.getElem?_eq_some_iff.1 kf).1).trans kf; replace kc := (hx.block _ (Array.getElem?_eq_some_iff.1 kc).1).trans kc; replace hall : Below w.heap.size w _ := hall.trans (hx.mono hall.size); (try clear l01 l02); have l01 := ld_row kf Tryz.underlying28 rfl info_fld; have l02 := ld_row kc Tryz.underlying48 rfl info_cal; (try clear hcf hff hcc hfc); obtain ⟨hcf, hff⟩ := blk_cells kf; obtain ⟨hcc, hfc⟩ := blk_cells kc; clear hx
      go_wp2_with fail
      go_ret
      exact ⟨by first | rfl | (simp; done), hall⟩
    case pos =>
      obtain ⟨z3, z4⟩ := HZ.out z1
      subst z1 z3
      go_wp2_with fail
      refine (spoken_a _ (hEn.up hall)).mono ?_
      rintro e w9 ⟨rfl, hx⟩
      replace kd := (hx.block _ (Array.getElem?_eq_some_iff.1 kd).1).trans kd; (try clear l03); have l03 := ld_row kd Tryz.underlying48 rfl info_cal; replace kf := (hx.block _ (Array.getElem?_eq_some_iff.1 kf).1).trans kf; replace kc := (hx.block _ (Array.getElem?_eq_some_iff.1 kc).1).trans kc; replace hall : Below w.heap.size w _ := hall.trans (hx.mono hall.size); (try clear l01 l02); have l01 := ld_row kf Tryz.underlying28 rfl info_fld; have l02 := ld_row kc Tryz.underlying48 rfl info_cal; (try clear hcf hff hcc hfc); obtain ⟨hcf, hff⟩ := blk_cells kf; obtain ⟨hcc, hfc⟩ := blk_cells kc; clear hx
      cases V1 with
      | false =>
        go_wp2_with fail
        go_ret
        exact ⟨by first | rfl | (simp; done), hall⟩
      | true =>
        obtain rfl := z4 (by trivial)
        go_wp2_with fail
        go_ret
        exact ⟨by first | rfl | (simp; done), hall⟩
end Go.Proofs.YtgbpekeoegfjpaaGreatDoor
