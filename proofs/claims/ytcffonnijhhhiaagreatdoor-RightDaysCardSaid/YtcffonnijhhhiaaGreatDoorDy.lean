/- Walk: the law RightDays. -/
import Derived.Test.YtcffonnijhhhiaaGreatDoorProg
import Derived.WalkKit
import Derived.WalkLawsBesides
import Derived.WalkSpells
import Derived.Handy
import Derived.Lib.Hide
import Derived.Great.BuildSlice
import Derived.Deep.QuietTactic
import Derived.BigQuiet
import Derived.Deep.RegionHeld3
import Derived.Deep.DeepCutAuto
import Derived.Test.YtcffonnijhhhiaaGreatDoorCm
import Derived.Test.YtcffonnijhhhiaaGreatDoorRa
set_option linter.all false
set_option linter.unusedSimpArgs false
set_option linter.unusedVariables false
set_option linter.unusedSectionVars false
namespace Go.Proofs.Rt
theorem on_on (l : List Deal) (day : Int) : onDay (onDay l day) day = onDay l day := by
  unfold onDay
  rw [List.filter_filter]
  congr 1
  funext x
  simp
theorem check_app (l : List Deal) (x : Deal) : (check (l ++ [x])).2 = 0 ↔ (check l).2 = 0 ∧ refused (stOf l) l x = 0 := by
  unfold check
  rw [checkGo_iff, checkGo_iff, right_app]
  simp [rightFrom, stOf]
theorem on_app_late {l : List Deal} {x : Deal} {day : Int} (h : day < x.day) : onDay (l ++ [x]) day = onDay l day := by
  unfold onDay
  rw [List.filter_append, List.filter_cons]
  have : ¬ (decide (x.day ≤ day) = true) := by simp; omega
  rw [if_neg this]
  simp
end Go.Proofs.Rt
namespace Go.Proofs.YtcffonnijhhhiaaGreatDoor
open Go Go.RowKit Go.Maps Mp
attribute [-simp] Prod.forall Prod.exists
attribute [-go_sem] loadVar storeVar Builtin.append_
attribute [local go_sem] lk_int lk_u8 lk_ints lk_sL lk_sE lk_sS

theorem onR_on {l : List Dl} (h : (Rt.check l).2 = 0) (day : Int) : onR (Rt.onDay l day) day = onR l day := by
  unfold onR stDay
  rw [if_pos h, if_pos (Rt.on_right h day), Rt.on_on]
theorem onR_late {l : List Dl} {x : Dl} {day : Int} (h : (Rt.check l).2 = 0) (h2 : (Rt.check (l ++ [x])).2 = 0) (hd : day < x.day) : onR (l ++ [x]) day = onR l day := by
  unfold onR stDay
  rw [if_pos h, if_pos h2, Rt.on_app_late hd]
set_option maxRecDepth 100000 in
set_option maxHeartbeats 8000000 in
theorem rightDays_w (A : Option Addr) (c : Nat) (L : List Dp) (day : Int) (p : Dp) (w : World) (hE : Env w) (h : Dlo w w.heap.size A L) (hc : L.length ≤ c) (hm : c ≤ maxLen) (hp : Dpo w w.heap.size p) :
    Calls Tryz.prog 9 #[.slice A L.length c, .int .i64 day, .agg (xcs p.x p.A1 p.A2 p.c1 p.c2)] w fun e w' => e = .returned (.bool true) ∧ Below w.heap.size w w' := by
  have b0 : Below w.heap.size w (w.alloc (oDl p.x p.A1 p.A2 p.c1 p.c2)) := by go_grown
  have k0 := heap_alloc_new w (oDl p.x p.A1 p.A2 p.c1 p.c2)
  have h1 := h.up b0
  have hfe := few30_h A c L _ h1.seg (Nat.le_trans hc hm)
  have hal := alive_a _ (hE.up b0)
  obtain ⟨hcx, hfx⟩ := blk_cells k0
  have d9 : _ = some (Value.slice p.A1 p.x.into.length p.c1) := hcx 9
  have d10 : _ = some (Value.slice p.A2 p.x.sizes.length p.c2) := hcx 10
  have B0 := Lib.hid b0
  by_cases hf : Rt.few (dls L) 30 = true
  case neg =>
    have hf2 : Rt.few (dls L) 30 = false := by simpa using hf
    rw [hf2] at hfe
    clear hf hf2 h h1 hE hc hm hp k0 hcx hfx d9 d10 b0
    go_enter Tryz.func9, Tryz.ntmps9
    go_wp2_with fail
    refine hfe.mono ?_
    clear hfe
    rintro e w' ⟨rfl, rfl⟩
    go_wp2_with fail
    refine hal.mono ?_
    rintro e w1 ⟨rfl, hb⟩
    go_wp2
    go_ret
    exact ⟨rfl, B0.out.trans (hb.mono B0.out.size)⟩
  rw [hf] at hfe
  obtain ⟨hD, hl30⟩ := h1.few hf
  by_cases hi : p.x.into.length ≤ 12
  case neg =>
    have q1 : (12 : Int) < (p.x.into.length : Int) := by omega
    have q2 : ¬ ((p.x.into.length : Int) ≤ 12) := by omega
    clear hf h h1 hE hc hm hp k0 hcx hfx d10 b0 hi hD hl30
    go_enter Tryz.func9, Tryz.ntmps9
    go_wp2_with fail
    refine hfe.mono ?_
    clear hfe
    rintro e w' ⟨rfl, rfl⟩
    go_wp2_with fail
    refine hal.mono ?_
    rintro e w1 ⟨rfl, hb⟩
    go_wp2
    go_ret
    exact ⟨rfl, B0.out.trans (hb.mono B0.out.size)⟩
  by_cases hs : p.x.sizes.length ≤ 12
  case neg =>
    have q0 : ¬ ((12 : Int) < (p.x.into.length : Int)) := by omega
    have q1 : (12 : Int) < (p.x.sizes.length : Int) := by omega
    clear hf h h1 hE hc hm hp k0 hcx hfx b0 hi hs hD hl30
    go_enter Tryz.func9, Tryz.ntmps9
    go_wp2_with fail
    refine hfe.mono ?_
    clear hfe
    rintro e w' ⟨rfl, rfl⟩
    go_wp2_with fail
    refine hal.mono ?_
    rintro e w1 ⟨rfl, hb⟩
    go_wp2
    go_ret
    exact ⟨rfl, B0.out.trans (hb.mono B0.out.size)⟩
  have q0 : ¬ ((12 : Int) < (p.x.into.length : Int)) := by omega
  have q1 : ¬ ((12 : Int) < (p.x.sizes.length : Int)) := by omega
  have hro := rollF_a A c L day _ hD (by omega)
  have HD := Lib.hid hD
  have HL30 := Lib.hid hl30
  have HP := Lib.hid (hp.up b0)
  have HE := Lib.hid (hE.up b0)
  have HI := Lib.hid (And.intro hi hs)
  have K0 := Lib.hid k0
  unfold EndRf at hro
  clear hf h h1 hE hc hm hp k0 hcx hfx b0 hi hs hD hl30 hal
  obtain ⟨W0, hW0⟩ : ∃ W0, w.alloc (oDl p.x p.A1 p.A2 p.c1 p.c2) = W0 := ⟨_, rfl⟩
  rw [hW0] at HD HP HE B0 K0 hro d9 d10
  have HX0 : Hid (w.heap.size < W0.heap.size) := Lib.hid (by rw [← hW0]; simp)
  have HW0 := Lib.hid hW0
  clear hW0
  by_cases h0 : (Rt.check (dls L)).2 = 0
  case neg =>
    obtain ⟨E, hEE⟩ : ∃ E, (Rt.check (dls L)).2 = E := ⟨_, rfl⟩
    rw [hEE] at hro h0
    have hq : (E != 0) = true := by simpa using h0
    clear h0 hEE
    go_enter Tryz.func9, Tryz.ntmps9
    go_wp2_with fail
    refine hfe.mono ?_
    clear hfe
    rintro e w' ⟨rfl, rfl⟩
    rw [HW0.out]
    go_wp2_with fail
    refine hro.mono ?_
    clear hro d9 d10
    rintro e w1 ⟨A1, c1, A2, c2, A3, c3, M, rfl, _, _, _, _, _, _, _, _, _, b1, _⟩
    obtain ⟨w2, st2, k2, b2, x2⟩ := new_row w1 50 zcR #[.slice A1 (onR (dls L) day).lots.length c1, .slice A2 (onR (dls L) day).eases.length c2, .slice A3 (onR (dls L) day).stints.length c3] info_roll rfl (by simp [Value.oneCell'])
    have HB2 := Lib.hid (b1.trans (b2.mono b1.size))
    have hal := alive_a w2 (HE.out.up HB2.out)
    clear b1 b2 k2 x2
    go_wp2_with fail
    refine hal.mono ?_
    clear hal st2
    rintro e w3 ⟨rfl, b3⟩
    go_wp2
    go_ret
    exact ⟨rfl, B0.out.trans ((HB2.out.trans (b3.mono HB2.out.size)).mono B0.out.size)⟩
  have hr2 := onR_on h0 day
  have hck2 := Rt.on_right h0 day
  have HH0 := Lib.hid h0
  rw [h0] at hro
  obtain ⟨r, hr⟩ : ∃ r, onR (dls L) day = r := ⟨_, rfl⟩
  rw [hr] at hro hr2
  have HR := Lib.hid hr
  have HR2 := Lib.hid hr2
  have HCK2 := Lib.hid hck2
  have HON : Hid (∀ V, Below W0.heap.size W0 V → Calls Tryz.prog 49 #[.slice A L.length c, .int .i64 day] V (EndOn V (dls L) day)) := Lib.hid fun V hV => on_a A c L day V (HD.out.up hV) (by have := HL30.out; omega)
  have HAP : Hid (∀ V, Below W0.heap.size W0 V → Calls Tryz.prog 33 #[.slice A L.length c, .agg (xcs p.x p.A1 p.A2 p.c1 p.c2)] V (EndA V L p.x (appE (dls L) p.x))) := Lib.hid fun V hV => by
    have hpv := HP.out.up hV
    exact append_a A c L p.x p.A1 p.A2 p.c1 p.c2 V (HD.out.up hV) (by have := HL30.out; omega) (hpv.ds (by have := HI.out.1; omega) (by have := HI.out.2; omega)) hpv.h1 hpv.h2
  clear h0 hr hr2 hck2
  go_enter Tryz.func9, Tryz.ntmps9
  go_wp2_with fail
  refine hfe.mono ?_
  clear hfe
  rintro e w' ⟨rfl, rfl⟩
  rw [HW0.out]
  go_wp2_with fail
  refine hro.mono ?_
  clear hro d9 d10 q0 q1
  rintro e w1 ⟨A1, c1, A2, c2, A3, c3, M, rfl, hRo, _, _, _, _, _, _, _, _, b1, hfew⟩
  obtain ⟨w2, st2, k2, b2, x2⟩ := new_row w1 50 zcR #[.slice A1 r.lots.length c1, .slice A2 r.eases.length c2, .slice A3 r.stints.length c3] info_roll rfl (by simp [Value.oneCell'])
  have HB2 := Lib.hid (b1.trans (b2.mono b1.size))
  have HRo2 := Lib.hid (hRo.up b2)
  have HFW := Lib.hid hfew
  have K2 := Lib.hid k2
  have X2 := Lib.hid x2
  have hon := HON.out w2 HB2.out
  unfold EndOn at hon
  clear b1 b2 k2 x2 hRo hfew
  go_wp2_with fail
  refine hon.mono ?_
  clear hon st2
  rintro e w3 ⟨A', c', M', rfl, hDM, hdls, _, _, _, b3, _⟩
  have hro2 := rollF_a A' c' M' day w3 hDM (by
    have h1 : M'.length = (dls M').length := by simp
    rw [h1, hdls]
    have h2 : (Rt.onDay (dls L) day).length ≤ (dls L).length := List.length_filter_le _ _
    have := HL30.out
    simp only [List.length_map] at h2
    omega)
  rw [hdls, HR2.out, HCK2.out] at hro2
  unfold EndRf at hro2
  have HB3 := Lib.hid b3
  clear hDM hdls b3
  go_wp2_with fail
  refine hro2.mono ?_
  clear hro2
  rintro e w4 ⟨P1, f1, P2, f2, P3, f3, M2, rfl, hRo2, _, _, _, _, _, _, _, _, b4, _⟩
  obtain ⟨w5, st5, k5, b5, x5⟩ := new_row w4 50 zcR #[.slice P1 r.lots.length f1, .slice P2 r.eases.length f2, .slice P3 r.stints.length f3] info_roll rfl (by simp [Value.oneCell'])
  have HB35 := Lib.hid (b4.trans (b5.mono b4.size))
  have HB25 := Lib.hid (HB3.out.trans (HB35.out.mono HB3.out.size))
  have HRo5 := Lib.hid (HRo2.out.up HB25.out)
  have HRo5' := Lib.hid (hRo2.up b5)
  have K25 := Lib.hid ((HB25.out.block _ X2.out).trans K2.out)
  have k25 := K25.out
  have l2 := ld_row k25 Tryz.underlying50 rfl info_roll
  have l5 := ld_row k5 Tryz.underlying50 rfl info_roll
  have heq := equal_h A1 A2 A3 P1 P2 P3 c1 c2 c3 f1 f2 f3 M M2 r r w5 HRo5.out HRo5'.out HFW.out
  rw [decide_eq_true rfl] at heq
  unfold rowR at heq
  have HB5 := Lib.hid (HB2.out.trans (HB25.out.mono HB2.out.size))
  clear b4 b5 k5 x5 hRo2 k25
  go_wp2_with fail
  refine heq.mono ?_
  clear heq st5 l2 l5
  rintro e w6 ⟨rfl, b6⟩
  have HB6 := Lib.hid (HB5.out.trans (b6.mono HB5.out.size))
  have K26 := Lib.hid ((b6.block _ (Nat.lt_of_lt_of_le X2.out HB25.out.size)).trans K25.out)
  have HRo6 := Lib.hid (HRo5.out.up b6)
  have k06 := (HB6.out.block _ HX0.out).trans K0.out
  have l06 := ld_row k06 Tryz.underlying24 rfl info_deal
  have hap := HAP.out w6 HB6.out
  unfold EndA at hap
  have hx26 : Hid (w1.heap.size < w6.heap.size) := Lib.hid (Nat.lt_of_lt_of_le (Nat.lt_of_lt_of_le X2.out HB25.out.size) b6.size)
  clear b6 k06
  obtain ⟨E, hE2⟩ : ∃ E, appE (dls L) p.x = E := ⟨_, rfl⟩
  rw [hE2] at hap
  have HE2 := Lib.hid hE2
  clear hE2
  by_cases he0 : E = 0
  case neg =>
    simp only [if_neg he0] at hap
    have hq : (E != 0) = true := by simpa using he0
    clear he0
    go_wp2_with fail
    refine hap.mono ?_
    clear hap l06
    rintro e w7 ⟨b7, rfl⟩
    have HB7 := Lib.hid (HB6.out.trans (b7.mono HB6.out.size))
    have hal := alive_a w7 (HE.out.up HB7.out)
    clear b7
    go_wp2_with fail
    refine hal.mono ?_
    clear hal
    rintro e w8 ⟨rfl, b8⟩
    go_wp2
    go_ret
    exact ⟨rfl, B0.out.trans ((HB7.out.trans (b8.mono HB7.out.size)).mono B0.out.size)⟩
  subst he0
  simp only [if_true] at hap
  go_wp2_with fail
  refine hap.mono ?_
  clear hap l06
  rintro e w7 ⟨b7, A7, c7, M7, rfl, hDM, hdls, hlen, _, _, _, _⟩
  have HB7 := Lib.hid (HB6.out.trans (b7.mono HB6.out.size))
  have K27 := Lib.hid ((b7.block _ hx26.out).trans K26.out)
  have HX27 : Hid (w1.heap.size < w7.heap.size) := Lib.hid (Nat.lt_of_lt_of_le hx26.out b7.size)
  have HRo7 := Lib.hid (HRo6.out.up b7)
  have k07 := (HB7.out.block _ HX0.out).trans K0.out
  obtain ⟨hcx, _⟩ := blk_cells k07
  have e1 : _ = some (Value.int .i64 p.x.day) := hcx 1
  have HDM := Lib.hid hDM
  have HDLS := Lib.hid hdls
  have HLEN := Lib.hid hlen
  clear b7 k07 hcx hDM hdls hlen
  by_cases hd : p.x.day ≤ day
  case pos =>
    have hal := alive_a w7 (HE.out.up HB7.out)
    go_wp2_with fail
    refine hal.mono ?_
    clear hal
    rintro e w8 ⟨rfl, b8⟩
    go_wp2
    go_ret
    exact ⟨rfl, B0.out.trans ((HB7.out.trans (b8.mono HB7.out.size)).mono B0.out.size)⟩
  have hck3 : (Rt.check (dls L ++ [p.x])).2 = 0 := (Rt.check_app _ _).2 ⟨HH0.out, by have := HE2.out; unfold appE at this; rwa [if_pos HH0.out] at this⟩
  have hr3 := onR_late (day := day) HH0.out hck3 (by omega)
  have hro3 := rollF_a A7 c7 M7 day w7 HDM.out (by have := HLEN.out; have := HL30.out; omega)
  rw [HDLS.out, hck3, hr3, HR.out, HLEN.out] at hro3
  unfold EndRf at hro3
  clear hck3 hr3
  go_wp2_with fail
  refine hro3.mono ?_
  clear hro3 e1
  rintro e w8 ⟨Q1, g1, Q2, g2, Q3, g3, M8, rfl, hRo8, _, _, _, _, _, _, _, _, b8, _⟩
  obtain ⟨w9, st9, k9, b9, x9⟩ := new_row w8 50 zcR #[.slice Q1 r.lots.length g1, .slice Q2 r.eases.length g2, .slice Q3 r.stints.length g3] info_roll rfl (by simp [Value.oneCell'])
  have HB79 := Lib.hid (b8.trans (b9.mono b8.size))
  have HB9 := Lib.hid (HB7.out.trans (HB79.out.mono HB7.out.size))
  have HRo9 := Lib.hid (HRo7.out.up HB79.out)
  have HRo9' := Lib.hid (hRo8.up b9)
  have K29 := Lib.hid ((HB79.out.block _ HX27.out).trans K27.out)
  have HX29 : Hid (w1.heap.size < w9.heap.size) := Lib.hid (Nat.lt_of_lt_of_le HX27.out HB79.out.size)
  have K9 := Lib.hid k9
  have X9 := Lib.hid x9
  have hal := alive_a w9 (HE.out.up HB9.out)
  clear b8 b9 k9 x9 hRo8
  go_wp2_with fail
  refine hal.mono ?_
  clear hal st9
  rintro e w10 ⟨rfl, b10⟩
  have HB10 := Lib.hid (HB9.out.trans (b10.mono HB9.out.size))
  have l2 := ld_row ((b10.block _ HX29.out).trans K29.out) Tryz.underlying50 rfl info_roll
  have l9 := ld_row ((b10.block _ X9.out).trans K9.out) Tryz.underlying50 rfl info_roll
  have heq := equal_h A1 A2 A3 Q1 Q2 Q3 c1 c2 c3 g1 g2 g3 M M8 r r w10 (HRo9.out.up b10) (HRo9'.out.up b10) HFW.out
  rw [decide_eq_true rfl] at heq
  unfold rowR at heq
  clear b10
  go_wp2_with fail
  refine heq.mono ?_
  clear heq l2 l9
  rintro e w11 ⟨rfl, b11⟩
  go_wp2
  go_ret
  exact ⟨rfl, B0.out.trans ((HB10.out.trans (b11.mono HB10.out.size)).mono B0.out.size)⟩
end Go.Proofs.YtcffonnijhhhiaaGreatDoor
