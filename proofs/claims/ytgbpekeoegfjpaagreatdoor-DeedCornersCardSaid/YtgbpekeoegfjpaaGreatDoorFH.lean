/- Walk: the law DeedCorners, at every input. -/
import Derived.Test.YtgbpekeoegfjpaaGreatDoorProg
import Derived.WalkKit
import Derived.WalkLawsBesides
import Derived.WalkSpells
import Derived.Handy
import Derived.Lib.Hide
import Derived.Great.BuildSlice
import Derived.Deep.QuietTactic
import Derived.BigQuiet
import Derived.Deep.RegionHeld3
import Derived.Deep.DeepCutAuto
import Derived.Test.YtgbpekeoegfjpaaGreatDoorFC
namespace Go.Proofs.YtgbpekeoegfjpaaGreatDoor
open Go.RowKit
attribute [-go_sem] run_equalIn_agg storeVar loadVar
attribute [local go_sem] lv_int lv_bool lv_u8 lv_string lv_strings lv_stas lv_pars lv_vars

set_option maxRecDepth 100000 in
set_option maxHeartbeats 4000000 in
theorem deedCorners_w (A1 A2 A3 A4 : Option Addr) (c1 c2 c3 c4 : Nat) (f : Pl.Fld) (l s p : Int) (w : World) (hEn : Env w) (hf : FldS w w.heap.size A1 A2 A3 A4 f) (hc : Caps c1 c2 c3 c4 f) :
    Calls Tryz.prog 9 #[.agg #[.slice A1 f.st.length c1, .slice A2 f.li.length c2, .slice A3 f.pa.length c3, .slice A4 f.va.length c4], .int .i64 l, .int .i64 s, .int .i64 p] w fun e w' => e = .returned (.bool true) ∧ Below w.heap.size w w' := by
  cases hv : Pl.vast f with
  | false =>
    obtain ⟨P, e1, hP⟩ : ∃ P e, Pl.pointE f l s = (P, e) := ⟨_, _, rfl⟩
    obtain ⟨a, b, e2, hC⟩ : ∃ a b e, Pl.cornerE f p = (a, b, e) := ⟨_, _, _, rfl⟩
    exact deedCorners_ok A1 A2 A3 A4 c1 c2 c3 c4 f l s p P e1 a b e2 _ w hEn hf (Pl.vast_small hv) hc (Lib.hid hv) ⟨hP, hC, rfl⟩
  | true =>
    have hv := Lib.hid hv
    have kf := (heap_alloc_new w (.cells #[.slice A1 f.st.length c1, .slice A2 f.li.length c2, .slice A3 f.pa.length c3, .slice A4 f.va.length c4] 28))
    have l0 := ld_row kf Tryz.underlying28 rfl info_fld
    have hall : Below w.heap.size w (w.alloc (.cells #[.slice A1 f.st.length c1, .slice A2 f.li.length c2, .slice A3 f.pa.length c3, .slice A4 f.va.length c4] 28)) := ((Below.refl _ w).alloc (Nat.le_refl _) _)
    go_enter Tryz.func9, Tryz.ntmps9
    go_wp2_with fail
    refine (vast_a A1 A2 A3 A4 c1 c2 c3 c4 f _ (hf.up hall) true hv).mono ?_
    rintro e w1 ⟨rfl, hx⟩
    replace kf := (hx.block _ (Array.getElem?_eq_some_iff.1 kf).1).trans kf; replace hall : Below w.heap.size w _ := hall.trans (hx.mono hall.size); (try clear l0); have l0 := ld_row kf Tryz.underlying28 rfl info_fld; (try clear hcf hff); obtain ⟨hcf, hff⟩ := blk_cells kf; clear hx
    go_wp2_with fail
    refine (spoken_a _ (hEn.up hall)).mono ?_
    rintro e w7 ⟨rfl, hx⟩
    replace kf := (hx.block _ (Array.getElem?_eq_some_iff.1 kf).1).trans kf; replace hall : Below w.heap.size w _ := hall.trans (hx.mono hall.size); (try clear l0); have l0 := ld_row kf Tryz.underlying28 rfl info_fld; (try clear hcf hff); obtain ⟨hcf, hff⟩ := blk_cells kf; clear hx
    go_wp2_with fail
    go_ret
    exact ⟨rfl, hall⟩
end Go.Proofs.YtgbpekeoegfjpaaGreatDoor
