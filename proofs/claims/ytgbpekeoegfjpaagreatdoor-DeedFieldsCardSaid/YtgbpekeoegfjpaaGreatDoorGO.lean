/- Walk: the law DeedFields. -/
import Derived.Test.YtgbpekeoegfjpaaGreatDoorProg
import Derived.WalkKit
import Derived.WalkLawsBesides
import Derived.WalkSpells
import Derived.Handy
import Derived.Lib.Hide
import Derived.Great.BuildSlice
import Derived.Deep.QuietTactic
import Derived.BigQuiet
import Derived.Deep.RegionHeld3
import Derived.Deep.DeepCutAuto
import Derived.Test.YtgbpekeoegfjpaaGreatDoorGK
import Derived.Test.YtgbpekeoegfjpaaGreatDoorGN
import Derived.Test.YtgbpekeoegfjpaaGreatDoorFA
namespace Go.Proofs.YtgbpekeoegfjpaaGreatDoor
open Go.RowKit
set_option maxRecDepth 100000 in
set_option maxHeartbeats 4000000 in
theorem sameBoundsF_a (A A' : Option Addr) (c c' n : Nat) (l : List Pl.Bd) (w : World) (hn : l.length = n) (hl : Bds w w.heap.size A l) (hm : l.length ≤ 100000) (hl' : Bds w w.heap.size A' l) :
    Calls Tryz.prog 28 #[.slice A n c, .slice A' n c'] w fun e w' => e = .returned (.bool true) ∧ Below w.heap.size w w' := by
  subst hn
  go_enter Tryz.func28, Tryz.ntmps28
  go_wp2
  go_loopw [5] (fun i wr => ∃ (k : Nat), k ≤ l.length ∧ i = .int .i64 k ∧ Below w.heap.size w wr) (fun i _ => l.length - (intOf i).toNat)
  case atStart => exact ⟨0, by omega, rfl, by go_grown⟩
  case round =>
    obtain ⟨k, hk, rfl, hall⟩ := hrel
    by_cases hlt : k < l.length
    · obtain ⟨b, off, hA, hbB, q0, q1, q2, q3⟩ := Bds.at4 (hl.below hall) hlt
      obtain ⟨b', off', hA', hbB', r0, r1, r2, r3⟩ := Bds.at4 (hl'.below hall) hlt
      obtain ⟨⟨f, t, m, r⟩, hbd⟩ : ∃ x, l[k] = x := ⟨_, rfl⟩
      rw [hbd] at q0 q1 q2 q3 r0 r1 r2 r3
      simp only at q0 q1 q2 q3 r0 r1 r2 r3
      clear hbd
      subst hA hA'
      have e1 : (0 : Int) ≤ (k : Int) := by omega
      have e2 : (k : Int) < (l.length : Int) := by omega
      go_wp2
      go_region_held3 (fun W => W.cell? ⟨b, off + k * 4, none⟩ = some (.int .i64 (f : Int)) ∧ W.cell? ⟨b, off + k * 4 + 1, none⟩ = some (.int .i64 (t : Int)) ∧ W.cell? ⟨b, off + k * 4 + 2, none⟩ = some (.int .i64 m) ∧ W.cell? ⟨b, off + k * 4 + 3, none⟩ = some (.int .i64 r) ∧ W.cell? ⟨b', off' + k * 4, none⟩ = some (.int .i64 (f : Int)) ∧ W.cell? ⟨b', off' + k * 4 + 1, none⟩ = some (.int .i64 (t : Int)) ∧ W.cell? ⟨b', off' + k * 4 + 2, none⟩ = some (.int .i64 m) ∧ W.cell? ⟨b', off' + k * 4 + 3, none⟩ = some (.int .i64 r)) (exact ⟨q0, q1, q2, q3, r0, r1, r2, r3⟩) (fail)
      all_goals go_wp2
      all_goals (
        go_roundw
        case rel => exact ⟨k + 1, by omega, by go_num, by first | (go_grown; done) | exact below_drewN hall _⟩
        case measure => first | (simp [intOf]; done) | (simp [intOf]; omega))
    · go_wp2
      go_ret
      exact ⟨rfl, hall⟩
attribute [-go_sem] run_equalIn_agg storeVar loadVar
attribute [local go_sem] lv_int lv_bool lv_u8 lv_string lv_strings lv_stas lv_pars lv_vars

theorem Pl.vastF_few {f : Pl.Fld} (h : Pl.vast f = false) : f.st.length ≤ 20 ∧ f.li.length ≤ 20 ∧ f.pa.length ≤ 60 ∧ f.va.length ≤ 60 ∧ (∀ s ∈ f.st, s.1.size ≤ 100) ∧ (∀ s ∈ f.li, s.size ≤ 100) ∧ ∀ p ∈ f.pa, p.name.size ≤ 100 := by
  unfold Pl.vast at h
  simp only [Bool.or_eq_false_iff, List.any_eq_false, decide_eq_true_eq, decide_eq_false_iff_not] at h
  obtain ⟨⟨⟨⟨a, b⟩, c⟩, d⟩, ⟨e, g⟩, k⟩ := h
  exact ⟨by omega, by omega, by omega, by omega, fun s hs => by have := e s hs; omega, fun s hs => by have := g s hs; omega, fun s hs => by have := k s hs; omega⟩
theorem Pl.vastF_small {f : Pl.Fld} (h : Pl.vast f = false) : Small f := by
  obtain ⟨a, b, c, d, e, g, k⟩ := Pl.vastF_few h
  exact ⟨by omega, by omega, by omega, by omega, fun s hs => by have := e s hs; omega, fun s hs => by have := g s hs; omega, fun s hs => by have := k s hs; omega⟩
/-- Whether a field is too large for a law. -/
theorem vastF_a (A1 A2 A3 A4 : Option Addr) (c1 c2 c3 c4 : Nat) (f : Pl.Fld) (w : World) (hf : FldS w w.heap.size A1 A2 A3 A4 f) (b : Bool) (hb : Hid (Pl.vast f = b)) :
    Calls Tryz.prog 23 #[.agg #[.slice A1 f.st.length c1, .slice A2 f.li.length c2, .slice A3 f.pa.length c3, .slice A4 f.va.length c4]] w fun e w' => e = .returned (.bool b) ∧ Below w.heap.size w w' := by
  rw [← hb.out]
  by_cases h : f.st.length ≤ 20 ∧ f.li.length ≤ 20 ∧ f.pa.length ≤ 60 ∧ f.va.length ≤ 60
  · exact vast_few A1 A2 A3 A4 c1 c2 c3 c4 f w hf h.1 h.2.1 h.2.2.1 h.2.2.2
  · exact vast_many A1 A2 A3 A4 c1 c2 c3 c4 f w (by omega)
theorem PointsF_h (A1 A2 A3 A4 : Option Addr) (c1 c2 c3 c4 : Nat) (f : Pl.Fld) (P : Int) (w : World) (h : Hid ((if Pl.fieldE f = 0 then 1 + ((f.li.length : Nat) : Int) * (f.st.length : Nat) else 0) = P)) (hf : FldS w w.heap.size A1 A2 A3 A4 f) (hm : Small f) (hc : Caps c1 c2 c3 c4 f) : Calls Tryz.prog 35 #[.agg #[.slice A1 f.st.length c1, .slice A2 f.li.length c2, .slice A3 f.pa.length c3, .slice A4 f.va.length c4]] w fun e w' => e = .returned (.int .i64 P) ∧ Below w.heap.size w w' := by
  have := Points_a A1 A2 A3 A4 c1 c2 c3 c4 f w hf hm hc
  rw [h.out] at this
  exact this
def Pl.natV (f : Pl.Fld) : List Pl.Bd := if Pl.fieldE f = 0 then Pl.nature f.st.length f.li.length else []
/-- Bounds, and an error. -/
def GotBd (l : List Pl.Bd) (E : Int) (w : World) (e : Ending) (w' : World) : Prop := ∃ A c, e = .returned (.tuple #[.slice A l.length c, .int .i64 E]) ∧ Bds w' w'.heap.size A l ∧ Below w.heap.size w w'
theorem Nature_h (A1 A2 A3 A4 : Option Addr) (c1 c2 c3 c4 : Nat) (f : Pl.Fld) (N : List Pl.Bd) (E : Int) (w : World) (hN : Hid (Pl.natV f = N)) (hE : Hid (Pl.fieldE f = E)) (hf : FldS w w.heap.size A1 A2 A3 A4 f) (hm : Small f) (hc : Caps c1 c2 c3 c4 f) : Calls Tryz.prog 26 #[.agg #[.slice A1 f.st.length c1, .slice A2 f.li.length c2, .slice A3 f.pa.length c3, .slice A4 f.va.length c4]] w (GotBd N E w) := by
  rw [← hN.out]
  unfold Pl.natV
  by_cases h : Pl.fieldE f = 0
  · rw [if_pos h, ← hE.out, h]
    exact (Nature_ok A1 A2 A3 A4 c1 c2 c3 c4 f w hf hm hc h).mono fun e w' ⟨A, c, he, hb, _, hx⟩ => ⟨A, c, he, hb, hx⟩
  · rw [if_neg h]
    exact (Nature_no A1 A2 A3 A4 c1 c2 c3 c4 f E w hf hm hc hE (by rw [← hE.out]; exact h)).mono fun e w' ⟨he, hx⟩ => ⟨none, 0, he, .inl rfl, hx⟩
theorem NatureB_h (A1 A2 A3 A4 : Option Addr) (c1 c2 c3 c4 : Nat) (f : Pl.Fld) (N : List Pl.Bd) (E : Int) (w : World) (hN : Hid (Pl.natV f = N)) (hE : Hid (Pl.fieldE f = E)) (hf : FldS w w.heap.size A1 A2 A3 A4 f) (hm : Small f) (hc : Caps c1 c2 c3 c4 f) : Calls Tryz.prog 42 #[.agg #[.slice A1 f.st.length c1, .slice A2 f.li.length c2, .slice A3 f.pa.length c3, .slice A4 f.va.length c4]] w (GotBd N E w) := by
  rw [← hN.out]
  unfold Pl.natV
  by_cases h : Pl.fieldE f = 0
  · rw [if_pos h, ← hE.out, h]
    exact (NatureB_ok A1 A2 A3 A4 c1 c2 c3 c4 f w hf hm hc h).mono fun e w' ⟨A, c, he, hb, _, _, hx⟩ => ⟨A, c, he, hb, hx⟩
  · rw [if_neg h]
    exact (NatureB_no A1 A2 A3 A4 c1 c2 c3 c4 f E w hf hm hc hE (by rw [← hE.out]; exact h)).mono fun e w' ⟨A, c, he, hb, _, _, hx⟩ => ⟨A, c, he, hb, hx⟩
theorem natV_len {f : Pl.Fld} : (Pl.natV f).length ≤ 100000 := by
  unfold Pl.natV
  split
  · rename_i h
    have hok := Pl.fieldE_ok h
    have hS := hok.st12
    have hL := hok.li10
    rw [Pl.nature_len]
    have h1 : f.li.length * f.st.length ≤ 10 * 12 := Nat.mul_le_mul hL hS
    have h2 : (f.li.length - 1) * f.st.length ≤ 9 * 12 := Nat.mul_le_mul (by omega) hS
    omega
  · exact Nat.zero_le _
set_option maxRecDepth 100000 in
set_option maxHeartbeats 4000000 in
theorem deedFields_ok (A1 A2 A3 A4 : Option Addr) (c1 c2 c3 c4 : Nat) (f : Pl.Fld) (N : List Pl.Bd) (E P : Int) (S : ByteArray) (w : World) (hEn : Env w) (hf : FldS w w.heap.size A1 A2 A3 A4 f) (hm : Small f) (hc : Caps c1 c2 c3 c4 f) (hv : Hid (Pl.vast f = false)) (HN : Hid (Pl.natV f = N)) (HE : Hid (Pl.fieldE f = E)) (HS : Hid (Pl.printB f = S)) (HP : Hid ((if Pl.fieldE f = 0 then 1 + ((f.li.length : Nat) : Int) * (f.st.length : Nat) else 0) = P)) (hN : N.length ≤ 100000) :
    Calls Tryz.prog 10 #[.agg #[.slice A1 f.st.length c1, .slice A2 f.li.length c2, .slice A3 f.pa.length c3, .slice A4 f.va.length c4]] w fun e w' => e = .returned (.bool true) ∧ Below w.heap.size w w' := by
  have kf := (heap_alloc_new w (.cells #[.slice A1 f.st.length c1, .slice A2 f.li.length c2, .slice A3 f.pa.length c3, .slice A4 f.va.length c4] 28))
  have l0 := ld_row kf Tryz.underlying28 rfl info_fld
  have hall : Below w.heap.size w (w.alloc (.cells #[.slice A1 f.st.length c1, .slice A2 f.li.length c2, .slice A3 f.pa.length c3, .slice A4 f.va.length c4] 28)) := ((Below.refl _ w).alloc (Nat.le_refl _) _)
  go_enter Tryz.func10, Tryz.ntmps10
  go_wp2_with fail
  refine (vastF_a A1 A2 A3 A4 c1 c2 c3 c4 f _ (hf.up hall) false hv).mono ?_
  rintro e w1 ⟨rfl, hx⟩
  replace kf := (hx.block _ (Array.getElem?_eq_some_iff.1 kf).1).trans kf; replace hall : Below w.heap.size w _ := hall.trans (hx.mono hall.size); (try clear l0); have l0 := ld_row kf Tryz.underlying28 rfl info_fld; (try clear hcf hff); obtain ⟨hcf, hff⟩ := blk_cells kf; clear hx
  go_wp2_with fail
  refine (Nature_h A1 A2 A3 A4 c1 c2 c3 c4 f N E _ HN HE (hf.up hall) hm hc).mono ?_
  rintro e w2 ⟨X1, x1, rfl, hX1, hx⟩
  replace kf := (hx.block _ (Array.getElem?_eq_some_iff.1 kf).1).trans kf; replace hall : Below w.heap.size w _ := hall.trans (hx.mono hall.size); (try clear l0); have l0 := ld_row kf Tryz.underlying28 rfl info_fld; (try clear hcf hff); obtain ⟨hcf, hff⟩ := blk_cells kf; clear hx
  go_wp2_with fail
  refine (NatureB_h A1 A2 A3 A4 c1 c2 c3 c4 f N E _ HN HE (hf.up hall) hm hc).mono ?_
  rintro e w3 ⟨X2, x2, rfl, hX2, hx⟩
  have hX1 := hX1.up hx
  replace kf := (hx.block _ (Array.getElem?_eq_some_iff.1 kf).1).trans kf; replace hall : Below w.heap.size w _ := hall.trans (hx.mono hall.size); (try clear l0); have l0 := ld_row kf Tryz.underlying28 rfl info_fld; (try clear hcf hff); obtain ⟨hcf, hff⟩ := blk_cells kf; clear hx
  go_wp2_with fail
  have hX1 : Bds w3.drew w3.drew.heap.size X1 N := hX1
  have hX2 : Bds w3.drew w3.drew.heap.size X2 N := hX2
  have kf : w3.drew.heap[w.heap.size]? = some (.cells #[.slice A1 f.st.length c1, .slice A2 f.li.length c2, .slice A3 f.pa.length c3, .slice A4 f.va.length c4] 28 (0, 0)) := kf
  have hall : Below w.heap.size w w3.drew := hall.drew
  clear l0 hcf hff
  go_region_held3 (fun W => (loadVar 28 ⟨w.heap.size, 0, none⟩).run Tryz.prog W = .ok (.agg #[.slice A1 f.st.length c1, .slice A2 f.li.length c2, .slice A3 f.pa.length c3, .slice A4 f.va.length c4]) W) (exact ld_row kf Tryz.underlying28 rfl info_fld) (first
    | (go_at_call 18; refine (spoken_a _ (hEn.up hall)).mono ?_; rintro e w4 ⟨rfl, hx⟩; have hX1 := hX1.up hx; have hX2 := hX2.up hx; replace kf := (hx.block _ (Array.getElem?_eq_some_iff.1 kf).1).trans kf; replace hall : Below w.heap.size w _ := hall.trans (hx.mono hall.size); clear hx)
    | (go_at_call 28; refine (sameBoundsF_a X1 X2 x1 x2 _ N _ rfl hX1 hN hX2).mono ?_; rintro e w5 ⟨rfl, hx⟩; replace kf := (hx.block _ (Array.getElem?_eq_some_iff.1 kf).1).trans kf; replace hall : Below w.heap.size w _ := hall.trans (hx.mono hall.size); clear hx)
    | (go_at_call 22; refine (checkField_h A1 A2 A3 A4 c1 c2 c3 c4 f E _ HE (hf.up hall) hm hc).mono ?_; rintro e w6 ⟨rfl, hx⟩; replace kf := (hx.block _ (Array.getElem?_eq_some_iff.1 kf).1).trans kf; replace hall : Below w.heap.size w _ := hall.trans (hx.mono hall.size); clear hx)
    | (go_at_call 43; refine (checkFieldB_h A1 A2 A3 A4 c1 c2 c3 c4 f E _ HE (hf.up hall) hm hc).mono ?_; rintro e w7 ⟨rfl, hx⟩; replace kf := (hx.block _ (Array.getElem?_eq_some_iff.1 kf).1).trans kf; replace hall : Below w.heap.size w _ := hall.trans (hx.mono hall.size); clear hx)
    | (go_at_call 44; refine (PrintField_h A1 A2 A3 A4 c1 c2 c3 c4 f S _ (hEn.up hall) HS (hf.up hall) hm hc).mono ?_; rintro e w8 ⟨rfl, hx⟩; replace kf := (hx.block _ (Array.getElem?_eq_some_iff.1 kf).1).trans kf; replace hall : Below w.heap.size w _ := hall.trans (hx.mono hall.size); clear hx)
    | (go_at_call 45; refine (PrintFieldB_h A1 A2 A3 A4 c1 c2 c3 c4 f S _ HS (hf.up hall) hm hc).mono ?_; rintro e w9 ⟨rfl, hx⟩; replace kf := (hx.block _ (Array.getElem?_eq_some_iff.1 kf).1).trans kf; replace hall : Below w.heap.size w _ := hall.trans (hx.mono hall.size); clear hx)
    | (go_at_call 35; refine (PointsF_h A1 A2 A3 A4 c1 c2 c3 c4 f P _ HP (hf.up hall) hm hc).mono ?_; rintro e w10 ⟨rfl, hx⟩; replace kf := (hx.block _ (Array.getElem?_eq_some_iff.1 kf).1).trans kf; replace hall : Below w.heap.size w _ := hall.trans (hx.mono hall.size); clear hx)
    | (go_at_call 46; refine (PointsB_h A1 A2 A3 A4 c1 c2 c3 c4 f P _ HP (hf.up hall) hm hc).mono ?_; rintro e w11 ⟨rfl, hx⟩; replace kf := (hx.block _ (Array.getElem?_eq_some_iff.1 kf).1).trans kf; replace hall : Below w.heap.size w _ := hall.trans (hx.mono hall.size); clear hx))
  all_goals go_wp2
  all_goals go_ret
  all_goals exact ⟨by first | rfl | (simp; done), hall⟩
set_option maxRecDepth 100000 in
set_option maxHeartbeats 4000000 in
theorem deedFields_w (A1 A2 A3 A4 : Option Addr) (c1 c2 c3 c4 : Nat) (f : Pl.Fld) (w : World) (hEn : Env w) (hf : FldS w w.heap.size A1 A2 A3 A4 f) (hc : Caps c1 c2 c3 c4 f) :
    Calls Tryz.prog 10 #[.agg #[.slice A1 f.st.length c1, .slice A2 f.li.length c2, .slice A3 f.pa.length c3, .slice A4 f.va.length c4]] w fun e w' => e = .returned (.bool true) ∧ Below w.heap.size w w' := by
  cases hv : Pl.vast f with
  | false =>
    exact deedFields_ok A1 A2 A3 A4 c1 c2 c3 c4 f _ _ _ _ w hEn hf (Pl.vastF_small hv) hc (Lib.hid hv) (Lib.hid rfl) (Lib.hid rfl) (Lib.hid rfl) (Lib.hid rfl) natV_len
  | true =>
    have hv := Lib.hid hv
    have kf := (heap_alloc_new w (.cells #[.slice A1 f.st.length c1, .slice A2 f.li.length c2, .slice A3 f.pa.length c3, .slice A4 f.va.length c4] 28))
    have l0 := ld_row kf Tryz.underlying28 rfl info_fld
    have hall : Below w.heap.size w (w.alloc (.cells #[.slice A1 f.st.length c1, .slice A2 f.li.length c2, .slice A3 f.pa.length c3, .slice A4 f.va.length c4] 28)) := ((Below.refl _ w).alloc (Nat.le_refl _) _)
    go_enter Tryz.func10, Tryz.ntmps10
    go_wp2_with fail
    refine (vastF_a A1 A2 A3 A4 c1 c2 c3 c4 f _ (hf.up hall) true hv).mono ?_
    rintro e w1 ⟨rfl, hx⟩
    replace kf := (hx.block _ (Array.getElem?_eq_some_iff.1 kf).1).trans kf; replace hall : Below w.heap.size w _ := hall.trans (hx.mono hall.size); (try clear l0); have l0 := ld_row kf Tryz.underlying28 rfl info_fld; (try clear hcf hff); obtain ⟨hcf, hff⟩ := blk_cells kf; clear hx
    go_wp2_with fail
    refine (spoken_a _ (hEn.up hall)).mono ?_
    rintro e w7 ⟨rfl, hx⟩
    replace kf := (hx.block _ (Array.getElem?_eq_some_iff.1 kf).1).trans kf; replace hall : Below w.heap.size w _ := hall.trans (hx.mono hall.size); (try clear l0); have l0 := ld_row kf Tryz.underlying28 rfl info_fld; (try clear hcf hff); obtain ⟨hcf, hff⟩ := blk_cells kf; clear hx
    go_wp2_with fail
    go_ret
    exact ⟨rfl, hall⟩
end Go.Proofs.YtgbpekeoegfjpaaGreatDoor
