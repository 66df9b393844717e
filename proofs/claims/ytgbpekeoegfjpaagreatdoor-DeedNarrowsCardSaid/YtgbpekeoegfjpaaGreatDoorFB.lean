/- Walks: Point; Corner. -/
import Derived.Test.YtgbpekeoegfjpaaGreatDoorProg
import Derived.WalkKit
import Derived.WalkLawsBesides
import Derived.WalkSpells
import Derived.Handy
import Derived.Lib.Hide
import Derived.Great.BuildSlice
import Derived.Deep.QuietTactic
import Derived.BigQuiet
import Derived.Deep.RegionHeld3
import Derived.Deep.DeepCutAuto
import Derived.Test.YtgbpekeoegfjpaaGreatDoorFA
namespace Go.Proofs.YtgbpekeoegfjpaaGreatDoor
open Go.RowKit
attribute [-go_sem] run_equalIn_agg storeVar loadVar
attribute [local go_sem] lv_int lv_bool lv_u8 lv_string lv_strings lv_stas lv_pars lv_vars

/-- The point of a limit and a station. -/
def Pl.pointE (f : Pl.Fld) (l s : Int) : Int × Int := if Pl.fieldE f ≠ 0 then (0, Pl.fieldE f) else if Pl.inB l 0 (f.li.length - 1) = false ∨ Pl.inB s 0 (f.st.length - 1) = false then (0, 1) else (1 + l * f.st.length + s, 0)
/-- The limit and the station of a point. -/
def Pl.cornerE (f : Pl.Fld) (p : Int) : Int × Int × Int := if Pl.fieldE f ≠ 0 then (0, 0, Pl.fieldE f) else if Pl.inB p 1 (f.li.length * f.st.length) = false then (0, 0, 1) else (((p - 1).toNat / f.st.length : Nat), ((p - 1).toNat % f.st.length : Nat), 0)
def EndP (r : Int × Int) (w : World) (e : Ending) (w' : World) : Prop := e = .returned (.tuple #[.int .i64 r.1, .int .i64 r.2]) ∧ Below w.heap.size w w'
set_option maxRecDepth 100000 in
set_option maxHeartbeats 2000000 in
theorem Point_a (A1 A2 A3 A4 : Option Addr) (c1 c2 c3 c4 : Nat) (f : Pl.Fld) (l s : Int) (w : World) (hf : FldS w w.heap.size A1 A2 A3 A4 f) (hm : Small f) (hc : Caps c1 c2 c3 c4 f) : Calls Tryz.prog 40 #[.agg #[.slice A1 f.st.length c1, .slice A2 f.li.length c2, .slice A3 f.pa.length c3, .slice A4 f.va.length c4], .int .i64 l, .int .i64 s] w (EndP (Pl.pointE f l s) w) := by
  have kf := (heap_alloc_new w (.cells #[.slice A1 f.st.length c1, .slice A2 f.li.length c2, .slice A3 f.pa.length c3, .slice A4 f.va.length c4] 28))
  have l0 := ld_row kf Tryz.underlying28 rfl info_fld
  have hall : Below w.heap.size w (w.alloc (.cells #[.slice A1 f.st.length c1, .slice A2 f.li.length c2, .slice A3 f.pa.length c3, .slice A4 f.va.length c4] 28)) := ((Below.refl _ w).alloc (Nat.le_refl _) _)
  obtain ⟨E, hE⟩ : ∃ E, Pl.fieldE f = E := ⟨_, rfl⟩
  have HE := Lib.hid hE
  by_cases h0 : E = 0
  · subst h0
    have hok := Pl.fieldE_ok hE
    have g1 := hok.li1
    have g2 := hok.li10
    have g3 := hok.st2
    have g4 := hok.st12
    have e1 : IntKind.i64.wrap ((f.li.length : Int) - 1) = (f.li.length : Int) - 1 := IntWalk.i64_in _ (by omega)
    have e2 : IntKind.i64.wrap ((f.st.length : Int) - 1) = (f.st.length : Int) - 1 := IntWalk.i64_in _ (by omega)
    clear hok
    cases h1 : Pl.inB l 0 (f.li.length - 1) with
    | false =>
      have hr : Hid (Pl.pointE f l s = (0, 1)) := Lib.hid (by unfold Pl.pointE; rw [if_neg (fun h => h hE), if_pos (.inl h1)])
      have hi := fun W => inD_a l 0 ((f.li.length : Int) - 1) W
      rw [h1] at hi
      clear h1 hE
      go_enter Tryz.func40, Tryz.ntmps40
      go_wp2_with (first
        | (go_at_call 22; refine (checkField_h A1 A2 A3 A4 c1 c2 c3 c4 f 0 _ HE (hf.up hall) hm hc).mono ?_; rintro e w1 ⟨rfl, hx⟩; have kf := (hx.block _ (Array.getElem?_eq_some_iff.1 kf).1).trans kf; have hall : Below w.heap.size w w1 := hall.trans (hx.mono hall.size); clear l0; have l1 := ld_row kf Tryz.underlying28 rfl info_fld; obtain ⟨hcf, hff⟩ := blk_cells kf; clear hx)
        | (go_at_call 84; refine (hi _).mono ?_; rintro e w2 ⟨rfl, rfl⟩))
      go_ret2
      unfold EndP
      rw [hr.out]
      exact ⟨rfl, hall⟩
    | true =>
      have hi := fun W => inD_a l 0 ((f.li.length : Int) - 1) W
      rw [h1] at hi
      cases h2 : Pl.inB s 0 (f.st.length - 1) with
      | false =>
        have hr : Hid (Pl.pointE f l s = (0, 1)) := Lib.hid (by unfold Pl.pointE; rw [if_neg (fun h => h hE), if_pos (.inr h2)])
        have hi2 := fun W => inD_a s 0 ((f.st.length : Int) - 1) W
        rw [h2] at hi2
        clear h1 h2 hE
        go_enter Tryz.func40, Tryz.ntmps40
        go_wp2_with (first
          | (go_at_call 22; refine (checkField_h A1 A2 A3 A4 c1 c2 c3 c4 f 0 _ HE (hf.up hall) hm hc).mono ?_; rintro e w1 ⟨rfl, hx⟩; have kf := (hx.block _ (Array.getElem?_eq_some_iff.1 kf).1).trans kf; have hall : Below w.heap.size w w1 := hall.trans (hx.mono hall.size); clear l0; have l1 := ld_row kf Tryz.underlying28 rfl info_fld; obtain ⟨hcf, hff⟩ := blk_cells kf; clear hx)
          | (go_at_call 84; refine (hi _).mono ?_; rintro e w2 ⟨rfl, rfl⟩; clear hi)
          | (go_at_call 84; refine (hi2 _).mono ?_; rintro e w2 ⟨rfl, rfl⟩))
        go_ret2
        unfold EndP
        rw [hr.out]
        exact ⟨rfl, hall⟩
      | true =>
        have hr : Hid (Pl.pointE f l s = (1 + l * f.st.length + s, 0)) := Lib.hid (by unfold Pl.pointE; rw [if_neg (fun h => h hE), if_neg (by rw [h1, h2]; simp)])
        have hi2 := fun W => inD_a s 0 ((f.st.length : Int) - 1) W
        rw [h2] at hi2
        have hb1 : 0 ≤ l ∧ l ≤ 1000 := by simp [Pl.inB] at h1; omega
        have hb2 : 0 ≤ s ∧ s ≤ 100000 := by simp [Pl.inB] at h2; omega
        clear h1 h2 hE
        go_enter Tryz.func40, Tryz.ntmps40
        go_wp2_with (first
          | (go_at_call 22; refine (checkField_h A1 A2 A3 A4 c1 c2 c3 c4 f 0 _ HE (hf.up hall) hm hc).mono ?_; rintro e w1 ⟨rfl, hx⟩; have kf := (hx.block _ (Array.getElem?_eq_some_iff.1 kf).1).trans kf; have hall : Below w.heap.size w w1 := hall.trans (hx.mono hall.size); clear l0; have l1 := ld_row kf Tryz.underlying28 rfl info_fld; obtain ⟨hcf, hff⟩ := blk_cells kf; clear hx)
          | (go_at_call 84; refine (hi _).mono ?_; rintro e w2 ⟨rfl, rfl⟩; clear hi)
          | (go_at_call 84; refine (hi2 _).mono ?_; rintro e w2 ⟨rfl, rfl⟩)
          | (go_at_call 110; refine (point_a A1 A2 A3 A4 c1 c2 c3 c4 f l s _ hb1.1 hb1.2 (by omega) hb2.1 hb2.2).mono ?_; rintro e w2 ⟨rfl, hx⟩; have hall : Below w.heap.size w w2 := hall.trans (hx.mono hall.size); clear hx))
        go_ret2
        unfold EndP
        rw [hr.out]
        exact ⟨rfl, hall⟩
  · have hr : Hid (Pl.pointE f l s = (0, E)) := Lib.hid (by unfold Pl.pointE; rw [hE, if_pos h0])
    clear hE
    go_enter Tryz.func40, Tryz.ntmps40
    go_wp2_with (go_at_call 22; refine (checkField_h A1 A2 A3 A4 c1 c2 c3 c4 f E _ HE (hf.up hall) hm hc).mono ?_; rintro e w1 ⟨rfl, hx⟩; have hall : Below w.heap.size w w1 := hall.trans (hx.mono hall.size); clear l0 hx)
    go_ret2
    unfold EndP
    rw [hr.out]
    exact ⟨rfl, hall⟩
def EndK (r : Int × Int × Int) (w : World) (e : Ending) (w' : World) : Prop := e = .returned (.tuple #[.int .i64 r.1, .int .i64 r.2.1, .int .i64 r.2.2]) ∧ Below w.heap.size w w'
theorem corner_div {p : Int} {S : Nat} (h : 1 ≤ p) (hb : p ≤ 1000) : ∃ q r : Int, (p - 1).tdiv (S : Int) = q ∧ (p - 1).tmod (S : Int) = r ∧ IntKind.i64.wrap q = q ∧ (((p - 1).toNat / S : Nat) : Int) = q ∧ (((p - 1).toNat % S : Nat) : Int) = r := by
  obtain ⟨k, hk⟩ := Int.eq_ofNat_of_zero_le (show 0 ≤ p - 1 by omega)
  rw [hk]
  have a1 : k / S ≤ k := Nat.div_le_self _ _
  refine ⟨((k / S : Nat) : Int), ((k % S : Nat) : Int), rfl, rfl, ?_, rfl, rfl⟩
  generalize k / S = q at *
  exact IntWalk.i64_in _ (by omega)
set_option maxRecDepth 100000 in
set_option maxHeartbeats 2000000 in
theorem Corner_a (A1 A2 A3 A4 : Option Addr) (c1 c2 c3 c4 : Nat) (f : Pl.Fld) (p : Int) (w : World) (hf : FldS w w.heap.size A1 A2 A3 A4 f) (hm : Small f) (hc : Caps c1 c2 c3 c4 f) : Calls Tryz.prog 41 #[.agg #[.slice A1 f.st.length c1, .slice A2 f.li.length c2, .slice A3 f.pa.length c3, .slice A4 f.va.length c4], .int .i64 p] w (EndK (Pl.cornerE f p) w) := by
  have kf := (heap_alloc_new w (.cells #[.slice A1 f.st.length c1, .slice A2 f.li.length c2, .slice A3 f.pa.length c3, .slice A4 f.va.length c4] 28))
  have l0 := ld_row kf Tryz.underlying28 rfl info_fld
  have hall : Below w.heap.size w (w.alloc (.cells #[.slice A1 f.st.length c1, .slice A2 f.li.length c2, .slice A3 f.pa.length c3, .slice A4 f.va.length c4] 28)) := ((Below.refl _ w).alloc (Nat.le_refl _) _)
  obtain ⟨E, hE⟩ : ∃ E, Pl.fieldE f = E := ⟨_, rfl⟩
  have HE := Lib.hid hE
  by_cases h0 : E = 0
  · subst h0
    have hok := Pl.fieldE_ok hE
    have g1 := hok.li1
    have g2 := hok.li10
    have g3 := hok.st2
    have g4 := hok.st12
    obtain ⟨N, hN⟩ : ∃ N, f.li.length * f.st.length = N := ⟨_, rfl⟩
    have hNb : N ≤ 120 := by rw [← hN]; have := Nat.mul_le_mul g2 g4; omega
    have HN : Hid (((f.li.length : Nat) : Int) * (f.st.length : Nat) = (N : Int)) := Lib.hid (by rw [← hN]; simp)
    have e1 : IntKind.i64.wrap (1 + (N : Int)) = 1 + (N : Int) := IntWalk.i64_in _ (by omega)
    have e2 : IntKind.i64.wrap (1 + (N : Int) - 1) = (N : Int) := by rw [IntWalk.i64_in _ (by omega)]; omega
    clear hok hN
    cases h1 : Pl.inB p 1 N with
    | false =>
      have hr : Hid (Pl.cornerE f p = (0, 0, 1)) := Lib.hid (by unfold Pl.cornerE; rw [if_neg (fun h => h hE), if_pos (by rw [HN.out]; exact h1)])
      have hi := fun W => inD_a p 1 (N : Int) W
      rw [h1] at hi
      clear h1 hE
      go_enter Tryz.func41, Tryz.ntmps41
      go_wp2_with (first
        | (go_at_call 22; refine (checkField_h A1 A2 A3 A4 c1 c2 c3 c4 f 0 _ HE (hf.up hall) hm hc).mono ?_; rintro e w1 ⟨rfl, hx⟩; have kf := (hx.block _ (Array.getElem?_eq_some_iff.1 kf).1).trans kf; have hall : Below w.heap.size w w1 := hall.trans (hx.mono hall.size); clear l0; have l1 := ld_row kf Tryz.underlying28 rfl info_fld; obtain ⟨hcf, hff⟩ := blk_cells kf; clear hx)
        | (go_at_call 106; refine (points_n A1 A2 A3 A4 c1 c2 c3 c4 f N _ (by omega) (by omega) HN).mono ?_; rintro e w2 ⟨rfl, hx⟩; have kf := (hx.block _ (Array.getElem?_eq_some_iff.1 kf).1).trans kf; have hall : Below w.heap.size w w2 := hall.trans (hx.mono hall.size); clear l1; have l2 := ld_row kf Tryz.underlying28 rfl info_fld; obtain ⟨hcf, hff⟩ := blk_cells kf; clear hx)
        | (go_at_call 84; refine (hi _).mono ?_; rintro e w3 ⟨rfl, rfl⟩))
      go_ret3
      unfold EndK
      rw [hr.out]
      exact ⟨rfl, hall⟩
    | true =>
      have hb1 : 1 ≤ p ∧ p ≤ 120 := by simp [Pl.inB] at h1; omega
      obtain ⟨q, r, d1, d2, d7, d8, d9⟩ := corner_div (S := f.st.length) hb1.1 (by omega)
      have hr : Hid (Pl.cornerE f p = (q, r, 0)) := Lib.hid (by unfold Pl.cornerE; rw [if_neg (fun h => h hE), if_neg (by rw [HN.out, h1]; decide), d8, d9])
      have d0 : IntKind.i64.wrap (p - 1) = p - 1 := IntWalk.i64_in _ (by omega)
      clear d8 d9
      have d3 : ¬ ((f.st.length : Int) = 0) := by omega
      have d4 : ¬ f.st.length = 0 := by omega
      have d5 : ((f.st.length : Int) == 0) = false := by rw [beq_eq_false_iff_ne]; omega
      have d6 : ¬ f.st = [] := by intro h; rw [h] at d4; exact d4 rfl
      have hi := fun W => inD_a p 1 (N : Int) W
      rw [h1] at hi
      clear h1 hE
      go_enter Tryz.func41, Tryz.ntmps41
      go_wp2_with (first
        | (go_at_call 22; refine (checkField_h A1 A2 A3 A4 c1 c2 c3 c4 f 0 _ HE (hf.up hall) hm hc).mono ?_; rintro e w1 ⟨rfl, hx⟩; have kf := (hx.block _ (Array.getElem?_eq_some_iff.1 kf).1).trans kf; have hall : Below w.heap.size w w1 := hall.trans (hx.mono hall.size); clear l0; have l1 := ld_row kf Tryz.underlying28 rfl info_fld; obtain ⟨hcf, hff⟩ := blk_cells kf; clear hx)
        | (go_at_call 106; refine (points_n A1 A2 A3 A4 c1 c2 c3 c4 f N _ (by omega) (by omega) HN).mono ?_; rintro e w2 ⟨rfl, hx⟩; have kf := (hx.block _ (Array.getElem?_eq_some_iff.1 kf).1).trans kf; have hall : Below w.heap.size w w2 := hall.trans (hx.mono hall.size); clear l1; have l2 := ld_row kf Tryz.underlying28 rfl info_fld; obtain ⟨hcf, hff⟩ := blk_cells kf; clear hx)
        | (go_at_call 84; refine (hi _).mono ?_; rintro e w3 ⟨rfl, rfl⟩))
      go_region_held3 (fun W => ∀ j, W.cell? ⟨w.heap.size, j, none⟩ = (#[.slice A1 f.st.length c1, .slice A2 f.li.length c2, .slice A3 f.pa.length c3, .slice A4 f.va.length c4] : Array Value)[j]?) (exact hcf) (fail)
      all_goals go_wp2
      all_goals go_ret3
      all_goals unfold EndK
      all_goals rw [hr.out]
      all_goals exact ⟨rfl, by first | exact hall | exact below_drewN hall _⟩
  · have hr : Hid (Pl.cornerE f p = (0, 0, E)) := Lib.hid (by unfold Pl.cornerE; rw [hE, if_pos h0])
    clear hE
    go_enter Tryz.func41, Tryz.ntmps41
    go_wp2_with (go_at_call 22; refine (checkField_h A1 A2 A3 A4 c1 c2 c3 c4 f E _ HE (hf.up hall) hm hc).mono ?_; rintro e w1 ⟨rfl, hx⟩; have hall : Below w.heap.size w w1 := hall.trans (hx.mono hall.size); clear l0 hx)
    go_ret3
    unfold EndK
    rw [hr.out]
    exact ⟨rfl, hall⟩
end Go.Proofs.YtgbpekeoegfjpaaGreatDoor
