/- Walks: Drawn, Bounds. -/
import Derived.Test.YtgbpekeoegfjpaaGreatDoorProg
import Derived.WalkKit
import Derived.WalkLawsBesides
import Derived.WalkSpells
import Derived.Handy
import Derived.Lib.Hide
import Derived.Great.BuildSlice
import Derived.Deep.QuietTactic
import Derived.BigQuiet
import Derived.Deep.RegionHeld3
import Derived.Deep.DeepCutAuto
import Derived.Test.YtgbpekeoegfjpaaGreatDoorFCa
import Derived.Test.YtgbpekeoegfjpaaGreatDoorM22
namespace Go.Proofs.YtgbpekeoegfjpaaGreatDoor
open Go.RowKit
attribute [-go_sem] run_equalIn_agg storeVar loadVar
attribute [local go_sem] lv_int lv_bool lv_u8 lv_string lv_strings lv_stas lv_pars lv_vars

/-- Whether a list is a drawing of a field; false where the field is wrong. -/
def Pl.drawnV (f : Pl.Fld) (y : List Int) : Bool := decide (Pl.fieldE f = 0) && Pl.drawnB f.st.length f.li.length y
set_option maxRecDepth 100000 in
set_option maxHeartbeats 2000000 in
theorem Drawn_a (A1 A2 A3 A4 : Option Addr) (c1 c2 c3 c4 : Nat) (f : Pl.Fld) (A : Option Addr) (cy : Nat) (y : List Int) (D : Bool) (E : Int) (w : World) (hD : Hid (Pl.drawnV f y = D)) (hE : Hid (Pl.fieldE f = E)) (hf : FldS w w.heap.size A1 A2 A3 A4 f) (hm : Small f) (hc : Caps c1 c2 c3 c4 f) (hy : Ints w w.heap.size A y) (hym : y.length ≤ 100000) :
    Calls Tryz.prog 34 #[.agg #[.slice A1 f.st.length c1, .slice A2 f.li.length c2, .slice A3 f.pa.length c3, .slice A4 f.va.length c4], .slice A y.length cy] w fun e w' => e = .returned (.tuple #[.bool D, .int .i64 E]) ∧ Below w.heap.size w w' := by
  have kf := (heap_alloc_new w (.cells #[.slice A1 f.st.length c1, .slice A2 f.li.length c2, .slice A3 f.pa.length c3, .slice A4 f.va.length c4] 28))
  have l0 := ld_row kf Tryz.underlying28 rfl info_fld
  have hall : Below w.heap.size w (w.alloc (.cells #[.slice A1 f.st.length c1, .slice A2 f.li.length c2, .slice A3 f.pa.length c3, .slice A4 f.va.length c4] 28)) := ((Below.refl _ w).alloc (Nat.le_refl _) _)
  by_cases h0 : E = 0
  · subst h0
    have hok := Pl.fieldE_ok hE.out
    have b0 := hok.li1
    have b1 := hok.li10
    have b2 := hok.st12
    have hd : Pl.drawnB f.st.length f.li.length y = D := by have := hD.out; unfold Pl.drawnV at this; rw [hE.out] at this; simpa using this
    have hdr := fun W (hW : Below w.heap.size w W) => drawn_a A1 A2 A3 A4 c1 c2 c3 c4 f A cy y W b2 b0 b1 (hy.up hW) hym
    rw [hd] at hdr
    clear hok hd
    go_enter Tryz.func34, Tryz.ntmps34
    go_wp2_with fail
    refine (checkField_h A1 A2 A3 A4 c1 c2 c3 c4 f 0 _ hE (hf.up hall) hm hc).mono ?_
    rintro e w1 ⟨rfl, hx⟩
    replace kf := (hx.block _ (lO kf)).trans kf; replace hall : Below w.heap.size w _ := hall.trans (hx.mono hall.size); (try clear l0); have l0 := ld_row kf Tryz.underlying28 rfl info_fld; (try clear hcf hff); obtain ⟨hcf, hff⟩ := blk_cells kf; clear hx
    go_wp2_with fail
    refine (hdr _ hall).mono ?_
    rintro e w2 ⟨rfl, hx⟩
    replace kf := (hx.block _ (lO kf)).trans kf; replace hall : Below w.heap.size w _ := hall.trans (hx.mono hall.size); (try clear l0); have l0 := ld_row kf Tryz.underlying28 rfl info_fld; (try clear hcf hff); obtain ⟨hcf, hff⟩ := blk_cells kf; clear hx
    go_wp2_with fail
    go_ret2
    exact ⟨rfl, hall⟩
  · have hd : D = false := by have := hD.out; unfold Pl.drawnV at this; rw [hE.out] at this; simp [h0] at this; exact this
    subst hd
    go_enter Tryz.func34, Tryz.ntmps34
    go_wp2_with fail
    refine (checkField_h A1 A2 A3 A4 c1 c2 c3 c4 f E _ hE (hf.up hall) hm hc).mono ?_
    rintro e w1 ⟨rfl, hx⟩
    replace kf := (hx.block _ (lO kf)).trans kf; replace hall : Below w.heap.size w _ := hall.trans (hx.mono hall.size); (try clear l0); have l0 := ld_row kf Tryz.underlying28 rfl info_fld; (try clear hcf hff); obtain ⟨hcf, hff⟩ := blk_cells kf; clear hx
    go_wp2_with fail
    go_ret2
    exact ⟨rfl, hall⟩
theorem Bounds_h (A1 A2 A3 A4 : Option Addr) (c1 c2 c3 c4 : Nat) (f : Pl.Fld) (c : Pl.Cal) (r : Int) (l : List Pl.Bd) (E : Int) (w : World) (h1 : Hid (Pl.boundsV f c r = l)) (h2 : Hid (Pl.boundsE f c r = E)) (hf : FldS w w.heap.size A1 A2 A3 A4 f) (hm : Small f) (hc : Caps c1 c2 c3 c4 f) (hk : c.kind ≤ 255) :
    Calls Tryz.prog 27 #[.agg #[.slice A1 f.st.length c1, .slice A2 f.li.length c2, .slice A3 f.pa.length c3, .slice A4 f.va.length c4], .agg #[.int .u8 (c.kind : Int), .int .i64 c.lim, .int .i64 c.oth, .int .i64 c.fr, .int .i64 c.till, .int .i64 c.size, .int .i64 c.er, .int .i64 c.crs.b, .int .i64 c.crs.n, .int .i64 c.crs.l, .int .i64 c.crs.y, .int .i64 c.crs.x, .int .i64 c.crs.s], .int .i64 r] w (EndBd l E w) := by
  have := Bounds_a A1 A2 A3 A4 c1 c2 c3 c4 f c r w hf hm hc hk
  rw [h1.out, h2.out] at this
  exact this
theorem boundsE_in (f : Pl.Fld) (c : Pl.Cal) {r : Int} (h : Pl.inB r 0 1000000 = true) : Pl.boundsE f c r = Pl.checkCallE f c := by
  unfold Pl.boundsE
  rw [if_pos h]
  split
  · rename_i h0; exact h0.symm
  · rfl
end Go.Proofs.YtgbpekeoegfjpaaGreatDoor
