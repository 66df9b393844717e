/- Walk: Allows. -/
import Derived.Test.YtgbpekeoegfjpaaGreatDoorProg
import Derived.WalkKit
import Derived.WalkLawsBesides
import Derived.WalkSpells
import Derived.Handy
import Derived.Lib.Hide
import Derived.Great.BuildSlice
import Derived.Deep.QuietTactic
import Derived.BigQuiet
import Derived.Deep.RegionHeld3
import Derived.Deep.DeepCutAuto
import Derived.Test.YtgbpekeoegfjpaaGreatDoorM22
import Derived.Test.YtgbpekeoegfjpaaGreatDoorM24
import Derived.Test.YtgbpekeoegfjpaaGreatDoorPlW
namespace Go.Proofs.YtgbpekeoegfjpaaGreatDoor
open Go.RowKit
attribute [-go_sem] run_equalIn_agg storeVar loadVar
attribute [local go_sem] lv_int lv_bool lv_u8 lv_string lv_vars

/-- What is wrong with a call and a drawing. -/
noncomputable def Pl.allowsE (f : Pl.Fld) (c : Pl.Cal) (y : List Int) : Int := if Pl.checkCallE f c = 0 then (if Pl.drawnB f.st.length f.li.length y = true then 0 else 1) else Pl.checkCallE f c
/-- Whether a call allows a drawing. -/
noncomputable def Pl.allowsV (f : Pl.Fld) (c : Pl.Cal) (y : List Int) : Bool := if Pl.allowsE f c y = 0 then Pl.keepsB (Pl.boundsC f c 0) y else false
set_option maxRecDepth 100000 in
set_option maxHeartbeats 2000000 in
theorem Allows_a (A1 A2 A3 A4 : Option Addr) (c1 c2 c3 c4 : Nat) (f : Pl.Fld) (c : Pl.Cal) (A : Option Addr) (cy : Nat) (y : List Int) (w : World) (hf : FldS w w.heap.size A1 A2 A3 A4 f) (hm : Small f) (hc : Caps c1 c2 c3 c4 f) (hk : c.kind ≤ 255) (hy : Ints w w.heap.size A y) (hym : y.length ≤ 100000) :
    Calls Tryz.prog 37 #[.agg #[.slice A1 f.st.length c1, .slice A2 f.li.length c2, .slice A3 f.pa.length c3, .slice A4 f.va.length c4], .agg #[.int .u8 (c.kind : Int), .int .i64 c.lim, .int .i64 c.oth, .int .i64 c.fr, .int .i64 c.till, .int .i64 c.size, .int .i64 c.er, .int .i64 c.crs.b, .int .i64 c.crs.n, .int .i64 c.crs.l, .int .i64 c.crs.y, .int .i64 c.crs.x, .int .i64 c.crs.s], .slice A y.length cy] w fun e w' => e = .returned (.tuple #[.bool (Pl.allowsV f c y), .int .i64 (Pl.allowsE f c y)]) ∧ Below w.heap.size w w' := by
  have kf := (heap_alloc_new w (.cells #[.slice A1 f.st.length c1, .slice A2 f.li.length c2, .slice A3 f.pa.length c3, .slice A4 f.va.length c4] 28))
  have kc := (heap_alloc_new (w.alloc (.cells #[.slice A1 f.st.length c1, .slice A2 f.li.length c2, .slice A3 f.pa.length c3, .slice A4 f.va.length c4] 28)) (.cells #[.int .u8 (c.kind : Int), .int .i64 c.lim, .int .i64 c.oth, .int .i64 c.fr, .int .i64 c.till, .int .i64 c.size, .int .i64 c.er, .int .i64 c.crs.b, .int .i64 c.crs.n, .int .i64 c.crs.l, .int .i64 c.crs.y, .int .i64 c.crs.x, .int .i64 c.crs.s] 48))
  rw [World.size_alloc] at kc
  have kf := (Below.heap_alloc _ (.cells #[.int .u8 (c.kind : Int), .int .i64 c.lim, .int .i64 c.oth, .int .i64 c.fr, .int .i64 c.till, .int .i64 c.size, .int .i64 c.er, .int .i64 c.crs.b, .int .i64 c.crs.n, .int .i64 c.crs.l, .int .i64 c.crs.y, .int .i64 c.crs.x, .int .i64 c.crs.s] 48) _ (lO kf)).trans kf
  have l01 := ld_row kf Tryz.underlying28 rfl info_fld
  have l02 := ld_row kc Tryz.underlying48 rfl info_cal
  have hall : Below w.heap.size w ((w.alloc (.cells #[.slice A1 f.st.length c1, .slice A2 f.li.length c2, .slice A3 f.pa.length c3, .slice A4 f.va.length c4] 28)).alloc (.cells #[.int .u8 (c.kind : Int), .int .i64 c.lim, .int .i64 c.oth, .int .i64 c.fr, .int .i64 c.till, .int .i64 c.size, .int .i64 c.er, .int .i64 c.crs.b, .int .i64 c.crs.n, .int .i64 c.crs.l, .int .i64 c.crs.y, .int .i64 c.crs.x, .int .i64 c.crs.s] 48)) := ((Below.refl _ w).alloc (Nat.le_refl _) _).alloc (by simp) _
  obtain ⟨E, hE⟩ : ∃ E, Pl.checkCallE f c = E := ⟨_, rfl⟩
  have HC := Lib.hid hE
  clear hE
  by_cases h0 : E = 0
  · subst h0
    obtain ⟨hok, ht⟩ := tab_of HC.out
    have b0 := hok.li1
    have b1 := hok.li10
    have b2 := hok.st12
    have hdr := fun W (hW : Below w.heap.size w W) => drawn_a A1 A2 A3 A4 c1 c2 c3 c4 f A cy y W b2 b0 b1 (hy.up hW) hym
    obtain ⟨D, hD⟩ : ∃ D, Pl.drawnB f.st.length f.li.length y = D := ⟨_, rfl⟩
    rw [hD] at hdr
    cases D with
    | false =>
      have HB : Hid (Pl.allowsE f c y = 1) := Lib.hid (by unfold Pl.allowsE; rw [if_pos HC.out, if_neg (by rw [hD]; decide)])
      have HV : Hid (Pl.allowsV f c y = false) := Lib.hid (by unfold Pl.allowsV; rw [if_neg (by rw [HB.out]; decide)])
      clear hD hok ht
      go_enter Tryz.func37, Tryz.ntmps37
      go_wp2_with first
        | (go_at_call 38; refine (checkCall_h A1 A2 A3 A4 c1 c2 c3 c4 f c 0 _ HC (hf.up hall) hm hc hk).mono ?_; rintro e w1 ⟨rfl, hx⟩; have kf := (hx.block _ (lO kf)).trans kf; have kc := (hx.block _ (lO kc)).trans kc; have hall : Below w.heap.size w _ := hall.trans (hx.mono hall.size); clear l01 l02; have l01 := ld_row kf Tryz.underlying28 rfl info_fld; have l02 := ld_row kc Tryz.underlying48 rfl info_cal; clear hx)
        | (go_at_call 105; refine (hdr _ hall).mono ?_; rintro e w1 ⟨rfl, hx⟩; have kf := (hx.block _ (lO kf)).trans kf; have kc := (hx.block _ (lO kc)).trans kc; have hall : Below w.heap.size w _ := hall.trans (hx.mono hall.size); clear l01 l02; have l01 := ld_row kf Tryz.underlying28 rfl info_fld; have l02 := ld_row kc Tryz.underlying48 rfl info_cal; clear hx)
      go_ret2
      exact ⟨by rw [HB.out, HV.out]; try rfl, hall⟩
    | true =>
      have HB : Hid (Pl.allowsE f c y = 0) := Lib.hid (by unfold Pl.allowsE; rw [if_pos HC.out, if_pos hD])
      obtain ⟨K, hK⟩ : ∃ K, Pl.keepsB (Pl.boundsC f c 0) y = K := ⟨_, rfl⟩
      have HV : Hid (Pl.allowsV f c y = K) := Lib.hid (by unfold Pl.allowsV; rw [if_pos HB.out, hK])
      have hylen := Pl.drawnB_len hD
      have hpt : Hid (∀ b ∈ Pl.boundsC f c 0, b.fr < y.length ∧ b.till < y.length) := Lib.hid (by rw [hylen]; exact Pl.bounds_pts ht)
      have hr := Lib.hid (Pl.drawnB_ranged hD)
      have hlen : (Pl.boundsC f c 0).length ≤ 100000 := by
        have hsl : (Pl.spans f c).length ≤ 100 := by
          obtain ⟨_, ⟨f0, f1⟩, h⟩ := ht
          unfold Pl.spans
          split <;> rename_i hk2 <;> simp only [List.length_map, List.length_range, List.length_cons, List.length_nil] <;> rcases h with h | h | h | h | h <;> omega
        rw [Pl.boundsC_len]; omega
      have hbd := fun W (hW : FldS W W.heap.size A1 A2 A3 A4 f) => bounds_a A1 A2 A3 A4 c1 c2 c3 c4 f c 0 W ht (by omega) (by omega) hW hm.va hok.x (spans_lo ht) (spans_len ht (by omega))
      obtain ⟨L, hL⟩ : ∃ L, Pl.boundsC f c 0 = L := ⟨_, rfl⟩
      rw [hL] at hbd hlen hpt hK
      have HK := Lib.hid hK
      clear hL hK hD hok ht hylen
      go_enter Tryz.func37, Tryz.ntmps37
      go_wp2_with first
        | (go_at_call 38; refine (checkCall_h A1 A2 A3 A4 c1 c2 c3 c4 f c 0 _ HC (hf.up hall) hm hc hk).mono ?_; rintro e w1 ⟨rfl, hx⟩; have kf := (hx.block _ (lO kf)).trans kf; have kc := (hx.block _ (lO kc)).trans kc; have hall : Below w.heap.size w _ := hall.trans (hx.mono hall.size); clear l01 l02; have l01 := ld_row kf Tryz.underlying28 rfl info_fld; have l02 := ld_row kc Tryz.underlying48 rfl info_cal; clear hx)
        | (go_at_call 105; refine (hdr _ hall).mono ?_; rintro e w1 ⟨rfl, hx⟩; have kf := (hx.block _ (lO kf)).trans kf; have kc := (hx.block _ (lO kc)).trans kc; have hall : Below w.heap.size w _ := hall.trans (hx.mono hall.size); clear l01 l02; have l01 := ld_row kf Tryz.underlying28 rfl info_fld; have l02 := ld_row kc Tryz.underlying48 rfl info_cal; clear hx)
        | (go_at_call 90; refine (hbd _ (hf.up hall)).mono ?_; rintro e w1 ⟨X, k, rfl, hS, hle, hF, hx⟩; have kf := (hx.block _ (lO kf)).trans kf; have kc := (hx.block _ (lO kc)).trans kc; have hall : Below w.heap.size w _ := hall.trans (hx.mono hall.size); clear l01 l02; have l01 := ld_row kf Tryz.underlying28 rfl info_fld; have l02 := ld_row kc Tryz.underlying48 rfl info_cal; clear hx)
        | (go_at_call 107; refine (kept_a X A k cy L y K _ hS hlen (hy.up hall) hpt.out hr.out HK).mono ?_; rintro e w1 ⟨rfl, hx⟩; have hall : Below w.heap.size w _ := hall.trans (hx.mono hall.size); clear hx)
      go_ret2
      exact ⟨by rw [HB.out, HV.out]; try rfl, hall⟩
  · have HB : Hid (Pl.allowsE f c y = E) := Lib.hid (by unfold Pl.allowsE; rw [HC.out, if_neg h0])
    have HV : Hid (Pl.allowsV f c y = false) := Lib.hid (by unfold Pl.allowsV; rw [HB.out, if_neg h0])
    go_enter Tryz.func37, Tryz.ntmps37
    go_wp2_with (go_at_call 38; refine (checkCall_h A1 A2 A3 A4 c1 c2 c3 c4 f c E _ HC (hf.up hall) hm hc hk).mono ?_; rintro e w1 ⟨rfl, hx⟩; have kf := (hx.block _ (lO kf)).trans kf; have kc := (hx.block _ (lO kc)).trans kc; have hall : Below w.heap.size w _ := hall.trans (hx.mono hall.size); clear l01 l02; have l01 := ld_row kf Tryz.underlying28 rfl info_fld; have l02 := ld_row kc Tryz.underlying48 rfl info_cal; clear hx)
    go_ret2
    exact ⟨by rw [HB.out, HV.out]; try rfl, hall⟩
theorem Allows_h (A1 A2 A3 A4 : Option Addr) (c1 c2 c3 c4 : Nat) (f : Pl.Fld) (c : Pl.Cal) (A : Option Addr) (cy : Nat) (y : List Int) (b : Bool) (E : Int) (w : World) (h1 : Hid (Pl.allowsV f c y = b)) (h2 : Hid (Pl.allowsE f c y = E)) (hf : FldS w w.heap.size A1 A2 A3 A4 f) (hm : Small f) (hc : Caps c1 c2 c3 c4 f) (hk : c.kind ≤ 255) (hy : Ints w w.heap.size A y) (hym : y.length ≤ 100000) :
    Calls Tryz.prog 37 #[.agg #[.slice A1 f.st.length c1, .slice A2 f.li.length c2, .slice A3 f.pa.length c3, .slice A4 f.va.length c4], .agg #[.int .u8 (c.kind : Int), .int .i64 c.lim, .int .i64 c.oth, .int .i64 c.fr, .int .i64 c.till, .int .i64 c.size, .int .i64 c.er, .int .i64 c.crs.b, .int .i64 c.crs.n, .int .i64 c.crs.l, .int .i64 c.crs.y, .int .i64 c.crs.x, .int .i64 c.crs.s], .slice A y.length cy] w fun e w' => e = .returned (.tuple #[.bool b, .int .i64 E]) ∧ Below w.heap.size w w' := by
  have := Allows_a A1 A2 A3 A4 c1 c2 c3 c4 f c A cy y w hf hm hc hk hy hym
  rw [h1.out, h2.out] at this
  exact this
end Go.Proofs.YtgbpekeoegfjpaaGreatDoor
