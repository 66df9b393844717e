/- Plain laws of courses: exactness, needles, reverses, what several share, narrower courses. -/
import Derived.Test.YthncpapejijloaaGreatDoorPlA
namespace Go.Proofs.YthncpapejijloaaGreatDoor
namespace Pl
theorem commonE_single (v : List (Int × Int)) (c : Crs) : commonE v [c] = if vars v ≠ 0 then vars v else if c.ok = true then (if (decl v c.y).2 = true then 0 else 20) else 1 := by
  unfold commonE; simp only [List.all_cons, List.all_nil, Bool.and_true]
theorem stepOk_mk {dx y : Int} (h : stepOk dx 0 = true) (y0 : -100000 ≤ y) (y1 : y ≤ 100000) : stepOk dx y = true := by
  obtain ⟨a, b, c, _⟩ := stepOk_iff h
  unfold stepOk; simp only [decide_eq_true_eq]; exact ⟨a, ⟨b, c⟩, y0, y1⟩
theorem stepOk_any {dx y : Int} (y0 : -100000 ≤ y) (y1 : y ≤ 100000) : stepOk dx y = stepOk dx 0 := by
  unfold stepOk; rw [decide_eq_decide]; omega
theorem stepE_any {v : List (Int × Int)} {c : Crs} {dx y : Int} (y0 : -100000 ≤ y) (y1 : y ≤ 100000) : stepE v c dx y = stepE v c dx 0 := by
  unfold stepE; rw [stepOk_any y0 y1]
theorem step_facts {v : List (Int × Int)} {c : Crs} {dx y : Int} (h : stepE v c dx y = 0) : vars v = 0 ∧ c.ok = true ∧ (decl v c.y).2 = true ∧ dx ≠ 0 ∧ -100000 ≤ dx ∧ dx ≤ 100000 ∧ -100000 ≤ y ∧ y ≤ 100000 := by
  obtain ⟨h1, h2⟩ := stepE_zero h
  obtain ⟨k0, k1, k2⟩ := commonE_one h1
  exact ⟨k0, k1, k2, stepOk_iff h2⟩
/-- A step fits exactly if it lies in the interval. -/
def inIvl (r : Int × Int × Bool) (y : Int) : Prop := r.2.2 = true ∧ r.1 ≤ y ∧ y ≤ r.2.1
theorem fit_exact {v : List (Int × Int)} {c : Crs} {dx y : Int} (h : stepE v c dx y = 0) : fitR v c dx y = 0 ↔ inIvl (ivlC v c dx) y := by
  obtain ⟨_, k1, _, j0, j1, j2, y0, y1⟩ := step_facts h
  unfold fitR fitv ivlC inIvl
  rw [if_pos h]
  by_cases hd : dx < 0
  · rw [if_pos hd, if_pos hd]
    have q := c.back.qok (v := v) (dx := -dx) (Crs.back_ok k1) (by omega) (by omega)
    have := fit_iff (y := -y) q (by omega) (by omega)
    show misfit (c.back.lo v) (c.back.hi v) (-dx) c.back.ne c.back.fa (-y) = 0 ↔ _
    rw [this]
    unfold flip ivlE
    simp only []
    constructor
    · rintro ⟨a, b, d⟩; exact ⟨a, by omega, by omega⟩
    · rintro ⟨a, b, d⟩; exact ⟨a, by omega, by omega⟩
  · rw [if_neg hd, if_neg hd]
    have q := c.qok (v := v) (dx := dx) k1 (by omega) (by omega)
    exact fit_iff q y0 y1
theorem fits_exact {v : List (Int × Int)} {c : Crs} {dx y : Int} (h : stepE v c dx 0 = 0) (y0 : -100000 ≤ y) (y1 : y ≤ 100000) :
    decide (stepE v c dx y = 0 ∧ fitR v c dx y = 0) = ((com v [c] dx).2.2 && decide ((com v [c] dx).1 ≤ y) && decide (y ≤ (com v [c] dx).2.1)) := by
  have e : stepE v c dx y = 0 := by rw [stepE_any y0 y1]; exact h
  rw [com_one, if_pos h]
  have := fit_exact e
  unfold inIvl at this
  rw [Bool.eq_iff_iff]
  simp only [decide_eq_true_eq, Bool.and_eq_true]
  rw [this]
  constructor
  · rintro ⟨_, a, b, d⟩; exact ⟨⟨a, b⟩, d⟩
  · rintro ⟨⟨a, b⟩, d⟩; exact ⟨e, a, b, d⟩
theorem com_one_bd (v : List (Int × Int)) (c : Crs) (dx : Int) : -100000 ≤ (com v [c] dx).1 ∧ (com v [c] dx).1 ≤ (com v [c] dx).2.1 ∧ (com v [c] dx).2.1 ≤ 100000 := by
  rw [com_one]
  split
  · exact ivlC_bd v c dx
  · decide
theorem com_one_no {v : List (Int × Int)} {c : Crs} {dx : Int} (h : (com v [c] dx).2.2 = false) : (com v [c] dx).1 = 0 ∧ (com v [c] dx).2.1 = 0 := by
  rw [com_one] at h ⊢
  split at h
  · rename_i hc; rw [if_pos hc, ivlC_empty h]; exact ⟨rfl, rfl⟩
  · rename_i hc; rw [if_neg hc]; exact ⟨rfl, rfl⟩
/-! ### Needles -/
theorem withN_good {c : Crs} {k : Nat} (h : c.ok = true) (hk : k ≤ 30) : (c.withN k).ok = true := by
  unfold Crs.ok courseOk Crs.withN at *
  simp only [Bool.and_eq_true, decide_eq_true_eq] at *
  exact ⟨by omega, h.2⟩
theorem withN_step {v : List (Int × Int)} {c : Crs} {dx dy : Int} {k : Nat} (h : stepE v c dx dy = 0) (hk : k ≤ 30) : stepE v (c.withN k) dx dy = 0 := by
  obtain ⟨h1, h2⟩ := stepE_zero h
  obtain ⟨k0, k1, k2⟩ := commonE_one h1
  have e : commonE v [c.withN k] = 0 := by
    rw [commonE_single, if_neg (by simp [k0]), if_pos (withN_good k1 hk)]
    have : (decl v (c.withN k).y).2 = true := k2
    rw [if_pos this]
  unfold stepE
  rw [if_neg (by simp [e]), h2]; rfl
theorem len_nonneg {c : Crs} (h : c.ok = true) : 0 ≤ c.ne ∧ 0 ≤ c.fa := by
  obtain ⟨_, _, ⟨g4, g5⟩, _, ⟨g8, g9⟩, g10, g11⟩ := c.ok_iff h
  have l := len_bd g4 g5 g8 g9 g10 g11
  unfold Crs.ne Crs.fa near far
  exact ⟨l.1.1, l.2.1⟩
theorem fitD_needle {c : Crs} {east dx y : Int} {i k : Nat} (h : c.ok = true) (hk : i ≤ k) (hd : dx ≠ 0) (hf : fitD (c.withN i) east dx y = 0) : fitD (c.withN k) east dx y = 0 := by
  obtain ⟨h0, h1⟩ := len_nonneg h
  exact fitD_wider (a := c.withN i) (b := c.withN k) rfl (by show (i : Int) ≤ k; omega) h0 (Int.le_refl _) h1 (Int.le_refl _) hd hf
theorem fits_needle {v : List (Int × Int)} {c : Crs} {dx dy : Int} (h : stepE v c dx dy = 0) {i k : Nat} (hi : i ≤ k) (hk : k ≤ 30) (hf : fits v (c.withN i) dx dy = true) : fits v (c.withN k) dx dy = true := by
  obtain ⟨_, k1, _, j0, _⟩ := step_facts h
  unfold fits at hf ⊢
  simp only [decide_eq_true_eq] at hf ⊢
  have e := withN_step h hk
  refine ⟨e, ?_⟩
  have e' := hf.1
  have hf' := hf.2
  unfold fitR at hf' ⊢
  rw [if_pos e'] at hf'
  rw [if_pos e]
  rw [fitv_eq] at hf' ⊢
  exact fitD_needle k1 hi j0 hf'
theorem needGo_spec {v : List (Int × Int)} {c : Crs} {dx dy : Int} : ∀ (f k : Nat),
    ((needGo v c dx dy f k).2 = true → ∃ m : Nat, k ≤ m ∧ m < k + f ∧ (needGo v c dx dy f k).1 = m ∧ fits v (c.withN m) dx dy = true ∧ ∀ j : Nat, k ≤ j → j < m → fits v (c.withN j) dx dy = false) ∧
    ((needGo v c dx dy f k).2 = false → (needGo v c dx dy f k).1 = 0 ∧ ∀ j : Nat, k ≤ j → j < k + f → fits v (c.withN j) dx dy = false)
  | 0, k => by
    unfold needGo
    exact ⟨(fun h => by cases h), fun _ => ⟨rfl, fun j h1 h2 => by omega⟩⟩
  | f + 1, k => by
    unfold needGo
    by_cases hf : fits v (c.withN k) dx dy = true
    · rw [if_pos hf]
      exact ⟨fun _ => ⟨k, by omega, by omega, rfl, hf, fun j h1 h2 => by omega⟩, (fun h => by cases h)⟩
    · rw [if_neg hf]
      obtain ⟨a, b⟩ := needGo_spec (v := v) (c := c) (dx := dx) (dy := dy) f (k + 1)
      have hf' : fits v (c.withN k) dx dy = false := by simpa using hf
      refine ⟨fun h => ?_, fun h => ?_⟩
      · obtain ⟨m, h1, h2, h3, h4, h5⟩ := a h
        refine ⟨m, by omega, by omega, h3, h4, fun j j1 j2 => ?_⟩
        by_cases hj : j = k
        · subst hj; exact hf'
        · exact h5 j (by omega) j2
      · obtain ⟨h1, h2⟩ := b h
        refine ⟨h1, fun j j1 j2 => ?_⟩
        by_cases hj : j = k
        · subst hj; exact hf'
        · exact h2 j (by omega) (by omega)
/-- With which needles a step fits. -/
theorem need_spec {v : List (Int × Int)} {c : Crs} {dx dy : Int} (h : stepE v c dx dy = 0) : (∀ k : Nat, k ≤ 30 → fits v (c.withN k) dx dy = ((need v c dx dy).2 && decide ((need v c dx dy).1 ≤ k))) ∧ ((need v c dx dy).2 = false → (need v c dx dy).1 = 0) ∧ 0 ≤ (need v c dx dy).1 ∧ (need v c dx dy).1 ≤ 30 := by
  have e : need v c dx dy = needGo v c dx dy 31 0 := by unfold need; rw [if_pos h]
  rw [e]
  obtain ⟨a, b⟩ := needGo_spec (v := v) (c := c) (dx := dx) (dy := dy) 31 0
  cases hb : (needGo v c dx dy 31 0).2 with
  | true =>
    obtain ⟨m, _, h2, h3, h4, h5⟩ := a hb
    rw [h3]
    refine ⟨fun k hk => ?_, (fun h => by cases h), by omega, by omega⟩
    by_cases hm : m ≤ k
    · rw [fits_needle h hm hk h4]; simp [hm]
    · rw [h5 k (by omega) (by omega)]; simp; omega
  | false =>
    obtain ⟨h1, h2⟩ := b hb
    rw [h1]
    exact ⟨fun k hk => by rw [h2 k (by omega) (by omega)]; rfl, fun _ => rfl, by omega, by omega⟩
theorem need_no {v : List (Int × Int)} {c : Crs} {dx dy : Int} (h : stepE v c dx dy ≠ 0) : need v c dx dy = (0, false) := by unfold need; rw [if_neg h]
/-! ### The way back -/
theorem back_back {c : Crs} (h : c.ok = true) : c.back.back = c := by
  obtain ⟨⟨g0, g1⟩, _⟩ := c.ok_iff h
  unfold Crs.back
  cases c
  simp only [Crs.mk.injEq, and_self, and_true] at *
  omega
theorem commonE_back {v : List (Int × Int)} {c : Crs} (h : c.ok = true) : commonE v [c.back] = commonE v [c] := by
  rw [commonE_single, commonE_single, Crs.back_ok h, h]
  rfl
theorem stepOk_neg (dx dy : Int) : stepOk (-dx) (-dy) = stepOk dx dy := by unfold stepOk; rw [decide_eq_decide]; omega
theorem stepE_back {v : List (Int × Int)} {c : Crs} {dx dy : Int} (h : c.ok = true) : stepE v c.back (-dx) (-dy) = stepE v c dx dy := by
  unfold stepE; rw [commonE_back h, stepOk_neg]
theorem fitR_back {v : List (Int × Int)} {c : Crs} {dx dy : Int} (h : c.ok = true) : fitR v c.back (-dx) (-dy) = fitR v c dx dy := by
  unfold fitR
  rw [stepE_back h]
  split
  · rename_i hs
    obtain ⟨_, _, _, j0, _⟩ := step_facts hs
    unfold fitv
    by_cases hd : dx < 0
    · rw [if_neg (by omega), if_pos hd]
    · rw [if_pos (by omega), if_neg hd, back_back h, Int.neg_neg, Int.neg_neg]
  · rfl
/-! ### What several share -/
theorem comGo_spec {v : List (Int × Int)} {dx y : Int} : ∀ {cs : List Crs} {lo hi : Int}, inIvl (comGo v dx lo hi cs) y ↔ (lo ≤ y ∧ y ≤ hi) ∧ ∀ c ∈ cs, inIvl (ivlC v c dx) y
  | [], lo, hi => by unfold comGo inIvl; simp
  | c :: cs, lo, hi => by
    unfold comGo
    by_cases hc : (ivlC v c dx).2.2 = false ∨ min hi (ivlC v c dx).2.1 < max lo (ivlC v c dx).1
    · rw [if_pos hc]
      constructor
      · rintro ⟨h, _⟩; cases h
      · rintro ⟨⟨h1, h2⟩, h3⟩
        obtain ⟨k0, k1, k2⟩ := h3 c (by simp)
        rcases hc with hc | hc
        · rw [k0] at hc; cases hc
        · omega
    · rw [if_neg hc, comGo_spec]
      have hb : (ivlC v c dx).2.2 = true := by
        cases hh : (ivlC v c dx).2.2 with
        | true => rfl
        | false => exact absurd (Or.inl hh) hc
      constructor
      · rintro ⟨⟨h1, h2⟩, h3⟩
        refine ⟨by omega, fun d hd => ?_⟩
        rcases List.mem_cons.1 hd with rfl | hd
        · exact ⟨hb, by omega, by omega⟩
        · exact h3 d hd
      · rintro ⟨⟨h1, h2⟩, h3⟩
        obtain ⟨k0, k1, k2⟩ := h3 c (by simp)
        exact ⟨by omega, fun d hd => h3 d (by simp [hd])⟩
theorem comE_zero {v : List (Int × Int)} {cs : List Crs} {dx : Int} (h : comE v cs dx = 0) : commonE v cs = 0 ∧ stepOk dx 0 = true := by
  unfold comE at h
  split at h
  · cases h
  · split at h
    · cases h
    · split at h
      · contradiction
      · rename_i hc; exact ⟨by omega, err_zero.1 h⟩
theorem stepE_mem {v : List (Int × Int)} {cs : List Crs} {dx y : Int} (h : comE v cs dx = 0) (y0 : -100000 ≤ y) (y1 : y ≤ 100000) {c : Crs} (hc : c ∈ cs) : stepE v c dx y = 0 := by
  obtain ⟨h1, h2⟩ := comE_zero h
  obtain ⟨k0, k1, k2⟩ := commonE_all h1
  have e : commonE v [c] = 0 := by
    rw [commonE_single, if_neg (by simp [k0]), if_pos (List.all_eq_true.1 k1 c hc)]
    have := List.all_eq_true.1 k2 c hc
    rw [if_pos this]
  unfold stepE
  rw [if_neg (by simp [e]), stepOk_any y0 y1, h2]; rfl
theorem com_spec {v : List (Int × Int)} {cs : List Crs} {dx y : Int} (h : comE v cs dx = 0) (y0 : -100000 ≤ y) (y1 : y ≤ 100000) : inIvl (com v cs dx) y ↔ ∀ c ∈ cs, fitR v c dx y = 0 := by
  unfold com
  rw [if_pos h, comGo_spec]
  constructor
  · rintro ⟨_, h2⟩ c hc; exact (fit_exact (stepE_mem h y0 y1 hc)).2 (h2 c hc)
  · intro h2; exact ⟨⟨y0, y1⟩, fun c hc => (fit_exact (stepE_mem h y0 y1 hc)).1 (h2 c hc)⟩
theorem com_no {v : List (Int × Int)} {cs : List Crs} {dx : Int} (h : comE v cs dx ≠ 0) : com v cs dx = (0, 0, false) := by unfold com; rw [if_neg h]
theorem comGo_bd {v : List (Int × Int)} {dx : Int} : ∀ {cs : List Crs} {lo hi : Int}, -100000 ≤ lo → hi ≤ 100000 → lo ≤ hi → -100000 ≤ (comGo v dx lo hi cs).1 ∧ (comGo v dx lo hi cs).1 ≤ (comGo v dx lo hi cs).2.1 ∧ (comGo v dx lo hi cs).2.1 ≤ 100000
  | [], lo, hi, h0, h1, h2 => by unfold comGo; exact ⟨h0, h2, h1⟩
  | c :: cs, lo, hi, h0, h1, h2 => by
    unfold comGo
    split
    · decide
    · rename_i hc
      exact comGo_bd (by omega) (by omega) (by omega)
theorem com_bd (v : List (Int × Int)) (cs : List Crs) (dx : Int) : -100000 ≤ (com v cs dx).1 ∧ (com v cs dx).1 ≤ (com v cs dx).2.1 ∧ (com v cs dx).2.1 ≤ 100000 := by
  unfold com
  split
  · exact comGo_bd (by omega) (by omega) (by omega)
  · decide
/-! ### A narrower course -/
theorem narrower_iff {a b : Crs} (h : narrower a b = true) : a.ok = true ∧ b.ok = true ∧ a.b = b.b ∧ a.l = b.l ∧ a.y = b.y ∧ a.n ≤ b.n ∧ b.x - b.s ≤ a.x - a.s ∧ a.x + a.s ≤ b.x + b.s := by
  unfold narrower at h
  simp only [Bool.and_eq_true, decide_eq_true_eq] at h
  obtain ⟨⟨h1, h2⟩, h3⟩ := h
  exact ⟨h1, h2, h3⟩
theorem narrower_E {v : List (Int × Int)} {a b : Crs} (h : narrower a b = true) (dx y : Int) : stepE v a dx y = stepE v b dx y := by
  obtain ⟨h1, h2, _, _, h5, _⟩ := narrower_iff h
  unfold stepE
  rw [commonE_single, commonE_single, h1, h2, h5]
theorem narrower_fit {v : List (Int × Int)} {a b : Crs} {dx y : Int} (h : narrower a b = true) (hs : stepE v a dx y = 0) (hf : fitR v a dx y = 0) : fitR v b dx y = 0 := by
  obtain ⟨h1, h2, h3, h4, h5, h6, h7, h8⟩ := narrower_iff h
  obtain ⟨_, _, _, j0, _⟩ := step_facts hs
  have hs' : stepE v b dx y = 0 := by rw [← narrower_E h]; exact hs
  unfold fitR at hf ⊢
  rw [if_pos hs] at hf
  rw [if_pos hs']
  rw [fitv_eq] at hf ⊢
  rw [← h5]
  obtain ⟨l0, l1⟩ := narrower_len h4 (by obtain ⟨_, _, ⟨g4, _⟩, _⟩ := a.ok_iff h1; omega) h7 h8
  exact fitD_wider h3 h6 (len_nonneg h2).1 l0 (len_nonneg h1).2 l1 j0 hf
theorem narrower_ivl {v : List (Int × Int)} {a b : Crs} {dx : Int} (h : narrower a b = true) (hs : (com v [a] dx).2.2 = true) : (com v [b] dx).2.2 = true ∧ (com v [b] dx).1 ≤ (com v [a] dx).1 ∧ (com v [a] dx).2.1 ≤ (com v [b] dx).2.1 := by
  have hz : stepE v a dx 0 = 0 := by
    rw [com_one] at hs; split at hs
    · assumption
    · cases hs
  have hz' : stepE v b dx 0 = 0 := by rw [← narrower_E h]; exact hz
  rw [com_one v a, if_pos hz] at hs
  rw [com_one v a, com_one v b, if_pos hz, if_pos hz']
  obtain ⟨b0, b1, b2⟩ := ivlC_bd v a dx
  have key : ∀ y, -100000 ≤ y → y ≤ 100000 → inIvl (ivlC v a dx) y → inIvl (ivlC v b dx) y := by
    intro y y0 y1 hy
    have e : stepE v a dx y = 0 := by rw [stepE_any y0 y1]; exact hz
    have e' : stepE v b dx y = 0 := by rw [stepE_any y0 y1]; exact hz'
    exact (fit_exact e').1 (narrower_fit h e ((fit_exact e).2 hy))
  obtain ⟨p0, p1, p2⟩ := key (ivlC v a dx).1 (by omega) (by omega) ⟨hs, by omega, by omega⟩
  obtain ⟨q0, q1, q2⟩ := key (ivlC v a dx).2.1 (by omega) (by omega) ⟨hs, by omega, by omega⟩
  exact ⟨p0, p1, q2⟩
theorem narrower_com {v : List (Int × Int)} {a b : Crs} (h : narrower a b = true) (dx : Int) : comE v [a] dx = comE v [b] dx := by
  rw [comE_one, comE_one, narrower_E h]
end Pl
end Go.Proofs.YthncpapejijloaaGreatDoor
