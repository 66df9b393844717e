/- Plain laws of chapter 03: the points of a call's bounds; the drawings that a call allows, as the program answers. No program. -/
import Derived.WalkKit
import Derived.Test.YtgbpekeoegfjpaaGreatDoorM24
namespace Go.Proofs.YtgbpekeoegfjpaaGreatDoor
namespace Pl

theorem ptC_lt {f : Fld} {l s : Int} (hl : inN l f.li.length) (hs : inN s f.st.length) : ptC f l s < 1 + f.li.length * f.st.length := by
  unfold inN at hl hs
  exact point_lt (by omega) (by omega)
theorem spans_pts {f : Fld} {c : Cal} (ht : c.tab f.st.length f.li.length) : ∀ x ∈ spans f c, x.fr < 1 + f.li.length * f.st.length ∧ x.till < 1 + f.li.length * f.st.length := by
  obtain ⟨hl, hs, h⟩ := ht
  have hl' := hl
  have hs' := hs
  unfold inN at hl' hs'
  have k0 := ptC_lt hl hs
  intro x hx
  unfold spans at hx
  split at hx <;> rename_i hk
  · simp at hx; subst hx; exact ⟨Nat.lt_of_lt_of_le Nat.zero_lt_one (Nat.le_add_right _ _), k0⟩
  · simp at hx; subst hx
    have k1 : ptC f c.oth c.fr < 1 + f.li.length * f.st.length := ptC_lt (by unfold inN; rcases h with h | h | h | h | h <;> omega) hs
    exact ⟨k0, k1⟩
  · simp at hx; subst hx
    have k1 : ptC f c.lim c.till < 1 + f.li.length * f.st.length := ptC_lt hl (by rcases h with h | h | h | h | h <;> first | exact h.2.2.2.2.1 | omega)
    exact ⟨k0, k1⟩
  · obtain ⟨k, hk', rfl⟩ := List.mem_map.1 hx
    rw [List.mem_range] at hk'
    exact ⟨ptC_lt hl (by unfold inN; rcases h with h | h | h | h | h <;> omega), ptC_lt (by unfold inN; rcases h with h | h | h | h | h <;> omega) (by unfold inN; rcases h with h | h | h | h | h <;> omega)⟩
  · simp at hx; subst hx
    have k1 : ptC f c.lim c.till < 1 + f.li.length * f.st.length := ptC_lt hl (by rcases h with h | h | h | h | h <;> first | exact h.2.2.2.1 | omega)
    exact ⟨k0, k1⟩
  · cases hx
theorem bounds_pts {f : Fld} {c : Cal} {r : Int} (ht : c.tab f.st.length f.li.length) : ∀ b ∈ boundsC f c r, b.fr < 1 + f.li.length * f.st.length ∧ b.till < 1 + f.li.length * f.st.length := by
  intro b hb
  unfold boundsC at hb
  obtain ⟨x, hx, hb⟩ := List.mem_flatMap.1 hb
  have := spans_pts ht x hx
  simp only [spB, List.mem_cons, List.not_mem_nil, or_false] at hb
  rcases hb with rfl | rfl
  · exact this
  · exact ⟨this.2, this.1⟩
theorem flat_spB (r : Int) (l : List Sp) : (l.flatMap (spB r)).length = 2 * l.length := by
  induction l with
  | nil => rfl
  | cons a l ih => rw [List.flatMap_cons, List.length_append, ih]; simp [spB]; omega
theorem boundsC_len (f : Fld) (c : Cal) (r : Int) : (boundsC f c r).length = 2 * (spans f c).length := flat_spB r _
theorem drawnB_ranged {S L : Nat} {y : List Int} (h : drawnB S L y = true) : ∀ n ∈ y, 0 ≤ n ∧ n ≤ 100000 := by
  unfold drawnB at h
  simp only [Bool.and_eq_true] at h
  exact rangedB_iff.1 h.2.2.1
theorem drawnB_zero {S L : Nat} {y : List Int} (h : drawnB S L y = true) : at0 y 0 = 0 := by
  unfold drawnB at h
  simp only [Bool.and_eq_true, decide_eq_true_eq] at h
  exact h.2.1
theorem drawnB_keeps {S L : Nat} {y : List Int} (h : drawnB S L y = true) : keepsB (nature S L) y = true := by
  unfold drawnB at h
  simp only [Bool.and_eq_true, decide_eq_true_eq] at h
  exact h.2.2.2
end Pl
end Go.Proofs.YtgbpekeoegfjpaaGreatDoor
