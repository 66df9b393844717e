/- Walks: what the laws of fields ask of vast, Point, Corner, Points. -/
import Derived.Test.YtgbpekeoegfjpaaGreatDoorProg
import Derived.WalkKit
import Derived.WalkLawsBesides
import Derived.WalkSpells
import Derived.Handy
import Derived.Lib.Hide
import Derived.Great.BuildSlice
import Derived.Deep.QuietTactic
import Derived.BigQuiet
import Derived.Deep.RegionHeld3
import Derived.Deep.DeepCutAuto
import Derived.Test.YtgbpekeoegfjpaaGreatDoorFB
namespace Go.Proofs.YtgbpekeoegfjpaaGreatDoor
open Go.RowKit
attribute [-go_sem] run_equalIn_agg storeVar loadVar
attribute [local go_sem] lv_int lv_bool lv_u8 lv_string lv_strings lv_stas lv_pars lv_vars

theorem Pl.vast_few {f : Pl.Fld} (h : Pl.vast f = false) : f.st.length ≤ 20 ∧ f.li.length ≤ 20 ∧ f.pa.length ≤ 60 ∧ f.va.length ≤ 60 ∧ (∀ s ∈ f.st, s.1.size ≤ 100) ∧ (∀ s ∈ f.li, s.size ≤ 100) ∧ ∀ p ∈ f.pa, p.name.size ≤ 100 := by
  unfold Pl.vast at h
  simp only [Bool.or_eq_false_iff, List.any_eq_false, decide_eq_true_eq, decide_eq_false_iff_not] at h
  obtain ⟨⟨⟨⟨a, b⟩, c⟩, d⟩, ⟨e, g⟩, k⟩ := h
  exact ⟨by omega, by omega, by omega, by omega, fun s hs => by have := e s hs; omega, fun s hs => by have := g s hs; omega, fun s hs => by have := k s hs; omega⟩
theorem Pl.vast_small {f : Pl.Fld} (h : Pl.vast f = false) : Small f := by
  obtain ⟨a, b, c, d, e, g, k⟩ := Pl.vast_few h
  exact ⟨by omega, by omega, by omega, by omega, fun s hs => by have := e s hs; omega, fun s hs => by have := g s hs; omega, fun s hs => by have := k s hs; omega⟩
theorem Pl.vast_far {f : Pl.Fld} (h : ¬ (f.st.length ≤ 20 ∧ f.li.length ≤ 20 ∧ f.pa.length ≤ 60 ∧ f.va.length ≤ 60)) : Pl.vast f = true := by
  unfold Pl.vast
  simp
  omega
/-- Whether a field is too large for a law. -/
theorem vast_a (A1 A2 A3 A4 : Option Addr) (c1 c2 c3 c4 : Nat) (f : Pl.Fld) (w : World) (hf : FldS w w.heap.size A1 A2 A3 A4 f) (b : Bool) (hb : Hid (Pl.vast f = b)) :
    Calls Tryz.prog 23 #[.agg #[.slice A1 f.st.length c1, .slice A2 f.li.length c2, .slice A3 f.pa.length c3, .slice A4 f.va.length c4]] w fun e w' => e = .returned (.bool b) ∧ Below w.heap.size w w' := by
  rw [← hb.out]
  by_cases h : f.st.length ≤ 20 ∧ f.li.length ≤ 20 ∧ f.pa.length ≤ 60 ∧ f.va.length ≤ 60
  · exact vast_few A1 A2 A3 A4 c1 c2 c3 c4 f w hf h.1 h.2.1 h.2.2.1 h.2.2.2
  · exact vast_many A1 A2 A3 A4 c1 c2 c3 c4 f w (by omega)
theorem Point_h (A1 A2 A3 A4 : Option Addr) (c1 c2 c3 c4 : Nat) (f : Pl.Fld) (l s P E : Int) (w : World) (h : Hid (Pl.pointE f l s = (P, E))) (hf : FldS w w.heap.size A1 A2 A3 A4 f) (hm : Small f) (hc : Caps c1 c2 c3 c4 f) : Calls Tryz.prog 40 #[.agg #[.slice A1 f.st.length c1, .slice A2 f.li.length c2, .slice A3 f.pa.length c3, .slice A4 f.va.length c4], .int .i64 l, .int .i64 s] w fun e w' => e = .returned (.tuple #[.int .i64 P, .int .i64 E]) ∧ Below w.heap.size w w' := by
  have := Point_a A1 A2 A3 A4 c1 c2 c3 c4 f l s w hf hm hc
  rw [h.out] at this
  exact this
theorem Corner_h (A1 A2 A3 A4 : Option Addr) (c1 c2 c3 c4 : Nat) (f : Pl.Fld) (p a b E : Int) (w : World) (h : Hid (Pl.cornerE f p = (a, b, E))) (hf : FldS w w.heap.size A1 A2 A3 A4 f) (hm : Small f) (hc : Caps c1 c2 c3 c4 f) : Calls Tryz.prog 41 #[.agg #[.slice A1 f.st.length c1, .slice A2 f.li.length c2, .slice A3 f.pa.length c3, .slice A4 f.va.length c4], .int .i64 p] w fun e w' => e = .returned (.tuple #[.int .i64 a, .int .i64 b, .int .i64 E]) ∧ Below w.heap.size w w' := by
  have := Corner_a A1 A2 A3 A4 c1 c2 c3 c4 f p w hf hm hc
  rw [h.out] at this
  exact this
theorem Points_h (A1 A2 A3 A4 : Option Addr) (c1 c2 c3 c4 : Nat) (f : Pl.Fld) (P : Int) (w : World) (h : Hid ((if Pl.fieldE f = 0 then 1 + ((f.li.length : Nat) : Int) * (f.st.length : Nat) else 0) = P)) (hf : FldS w w.heap.size A1 A2 A3 A4 f) (hm : Small f) (hc : Caps c1 c2 c3 c4 f) : Calls Tryz.prog 35 #[.agg #[.slice A1 f.st.length c1, .slice A2 f.li.length c2, .slice A3 f.pa.length c3, .slice A4 f.va.length c4]] w fun e w' => e = .returned (.int .i64 P) ∧ Below w.heap.size w w' := by
  have := Points_a A1 A2 A3 A4 c1 c2 c3 c4 f w hf hm hc
  rw [h.out] at this
  exact this
theorem Pl.inB_yes {x a b : Int} : Pl.inB x a b = true ↔ a ≤ x ∧ x ≤ b := by unfold Pl.inB; simp
theorem Pl.inB_no {x a b : Int} : Pl.inB x a b = false ↔ ¬ (a ≤ x ∧ x ≤ b) := by rw [← Pl.inB_yes]; simp
theorem Pl.corner_of {f : Pl.Fld} {l s P : Int} (h : Pl.pointE f l s = (P, 0)) : Pl.cornerE f P = (l, s, 0) ∧ Pl.fieldE f = 0 ∧ 1 ≤ P ∧ P < 1 + (f.li.length : Int) * f.st.length := by
  unfold Pl.pointE at h
  split at h
  · rename_i h0; exact absurd (congrArg Prod.snd h) h0
  · rename_i h0
    have h0 : Pl.fieldE f = 0 := Classical.not_not.1 h0
    split at h
    · exact absurd (congrArg Prod.snd h) (by simp)
    · rename_i h1
      have hP : 1 + l * f.st.length + s = P := congrArg Prod.fst h
      rw [not_or] at h1
      simp [Pl.inB] at h1
      obtain ⟨⟨a0, a1⟩, b0, b1⟩ := h1
      obtain ⟨ln, rfl⟩ := Int.eq_ofNat_of_zero_le a0
      obtain ⟨sn, rfl⟩ := Int.eq_ofNat_of_zero_le b0
      have hl : ln < f.li.length := by omega
      have hs : sn < f.st.length := by omega
      have hpt := Pl.point_lt hl hs
      have hdiv := Pl.point_div (l := ln) hs
      have hPn : P = ((Pl.pointN f.st.length ln sn : Nat) : Int) := by rw [← hP]; unfold Pl.pointN; simp
      have hn1 : 1 ≤ Pl.pointN f.st.length ln sn := by unfold Pl.pointN; omega
      have hP1 : 1 ≤ P := by omega
      have hP2 : P < 1 + (f.li.length : Int) * f.st.length := by rw [hPn, ← Int.natCast_mul]; omega
      have hsub : (P - 1).toNat = Pl.pointN f.st.length ln sn - 1 := by omega
      refine ⟨?_, h0, hP1, hP2⟩
      unfold Pl.cornerE
      rw [if_neg (fun h => h h0), if_neg (by rw [Pl.inB_no]; omega), hsub, hdiv.1, hdiv.2]
theorem Pl.point_of {f : Pl.Fld} {p a b : Int} (h : Pl.cornerE f p = (a, b, 0)) : Pl.pointE f a b = (p, 0) ∧ 1 ≤ p ∧ p < 1 + (f.li.length : Int) * f.st.length := by
  unfold Pl.cornerE at h
  split at h
  · rename_i h0; exact absurd (congrArg (fun x => x.2.2) h) h0
  · rename_i h0
    have h0 : Pl.fieldE f = 0 := Classical.not_not.1 h0
    split at h
    · exact absurd (congrArg (fun x => x.2.2) h) (by simp)
    · rename_i h1
      have ha : (((p - 1).toNat / f.st.length : Nat) : Int) = a := congrArg Prod.fst h
      have hb : (((p - 1).toNat % f.st.length : Nat) : Int) = b := congrArg (fun x => x.2.1) h
      simp [Pl.inB] at h1
      obtain ⟨k, rfl⟩ := Int.eq_ofNat_of_zero_le (show 0 ≤ p by omega)
      have hk : ((k : Int) - 1).toNat = k - 1 := by omega
      rw [hk] at ha hb
      have h2 : k < 1 + f.li.length * f.st.length := by have := h1.2; rw [← Int.natCast_mul] at this; omega
      obtain ⟨q1, q2, q3⟩ := Pl.corner_point (show 1 ≤ k by omega) h2
      subst ha hb
      refine ⟨?_, h1.1, by rw [← Int.natCast_mul]; omega⟩
      unfold Pl.pointE
      generalize (k - 1) / f.st.length = a at *
      generalize (k - 1) % f.st.length = b at *
      rw [if_neg (fun h => h h0), if_neg (by rw [not_or, Pl.inB_no, Pl.inB_no]; omega)]
      refine Prod.ext ?_ rfl
      show _ = ((k : Nat) : Int)
      unfold Pl.pointN at q3
      rw [← Int.natCast_mul]
      omega
theorem Pl.corner_err {f : Pl.Fld} (h : Pl.fieldE f = 0) {p a b E : Int} (hc : Pl.cornerE f p = (a, b, E)) (hE : E ≠ 0) : ¬ (1 ≤ p ∧ p < 1 + (f.li.length : Int) * f.st.length) := by
  unfold Pl.cornerE at hc
  rw [if_neg (fun h' => h' h)] at hc
  split at hc
  · rename_i h1
    rw [Pl.inB_no] at h1
    omega
  · exact absurd (congrArg (fun x => x.2.2) hc).symm hE
theorem Pl.point_err {f : Pl.Fld} {l s : Int} (h : Pl.fieldE f ≠ 0) : Pl.pointE f l s = (0, Pl.fieldE f) ∧ ∀ p, Pl.cornerE f p = (0, 0, Pl.fieldE f) := by
  unfold Pl.pointE Pl.cornerE
  rw [if_pos h]
  exact ⟨rfl, fun p => by rw [if_pos h]⟩
end Go.Proofs.YtgbpekeoegfjpaaGreatDoor
