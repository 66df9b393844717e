/- Plain laws of chapter 03: narrower calls; fields moved. No program. -/
import Derived.WalkKit
import Derived.Test.YtgbpekeoegfjpaaGreatDoorPlW
import Derived.Test.YtgbpekeoegfjpaaGreatDoorM02
namespace Go.Proofs.YtgbpekeoegfjpaaGreatDoor
namespace Pl

theorem keepsB_mono {f : Fld} {c d : Cal} {y : List Int} (h : ∀ x ∈ spans f c, ∃ x' ∈ spans f d, x'.fr = x.fr ∧ x'.till = x.till ∧ x.lo ≤ x'.lo ∧ x'.hi ≤ x.hi) (hk : keepsB (boundsC f d 0) y = true) : keepsB (boundsC f c 0) y = true := by
  rw [keepsB_iff, keeps_spans] at hk ⊢
  intro x hx
  obtain ⟨x', hx', e1, e2, e3, e4⟩ := h x hx
  have := hk x' hx'
  rw [e1, e2] at this
  omega
theorem less_spans {f : Fld} {c : Cal} {less : Int} (h1 : less ≤ c.er) (hk : c.kind ≠ 3) : ∀ x ∈ spans f c, ∃ x' ∈ spans f { c with er := less }, x'.fr = x.fr ∧ x'.till = x.till ∧ x.lo ≤ x'.lo ∧ x'.hi ≤ x.hi := by
  intro x hx
  unfold spans at hx
  split at hx <;> rename_i hk'
  · simp at hx; subst hx
    exact ⟨⟨0, ptC f c.lim c.fr, c.size - less, c.size + less⟩, by unfold spans; simp only [hk']; exact List.mem_singleton.2 rfl, rfl, rfl, by simp only; omega, by simp only; omega⟩
  · simp at hx; subst hx
    exact ⟨⟨ptC f c.lim c.fr, ptC f c.oth c.fr, c.size - less, c.size + less⟩, by unfold spans; simp only [hk']; exact List.mem_singleton.2 rfl, rfl, rfl, by simp only; omega, by simp only; omega⟩
  · exact absurd hk' hk
  · exact ⟨x, by unfold spans; simp only [hk']; exact hx, rfl, rfl, Int.le_refl _, Int.le_refl _⟩
  · simp at hx; subst hx
    exact ⟨⟨ptC f c.lim c.fr, ptC f c.lim c.till, c.size - less, c.size + less⟩, by unfold spans; simp only [hk']; exact List.mem_singleton.2 rfl, rfl, rfl, by simp only; omega, by simp only; omega⟩
  · cases hx
theorem course_spans {f : Fld} {c : Cal} {d : Crs} (hk : c.kind = 3) (hn : narrower d c.crs = true) (hY : (com f.va [d] (runC f.st c)).2.2 = true) : ∀ x ∈ spans f c, ∃ x' ∈ spans f { c with crs := d }, x'.fr = x.fr ∧ x'.till = x.till ∧ x.lo ≤ x'.lo ∧ x'.hi ≤ x.hi := by
  intro x hx
  obtain ⟨_, h1, h2⟩ := narrower_ivl hn hY
  unfold spans at hx
  simp only [hk, List.mem_singleton] at hx
  subst hx
  refine ⟨⟨ptC f c.lim c.fr, ptC f c.lim c.till, (com f.va [d] (runC f.st c)).1, (com f.va [d] (runC f.st c)).2.1⟩, ?_, rfl, rfl, h1, h2⟩
  have : spans f { c with crs := d } = [⟨ptC f c.lim c.fr, ptC f c.lim c.till, (com f.va [d] (runC f.st c)).1, (com f.va [d] (runC f.st c)).2.1⟩] := by unfold spans; simp only [hk]; rfl
  rw [this]
  exact List.mem_singleton.2 rfl
/-- What is wrong with a call that is narrower: nothing if nothing is wrong with the other (of a fixed size). -/
theorem callE_course {f : Fld} {c : Cal} (hk : c.kind = 3) (h : callE f c = 0) : (com f.va [c.crs] (runC f.st c)).2.2 = true := by
  unfold callE at h
  split at h
  · cases h
  · rw [if_neg (by simpa using hk)] at h
    split at h
    · cases h
    · split at h
      · exact absurd h ‹_›
      · split at h
        · assumption
        · cases h
/-! ### Fields moved -/
def moved (f : Fld) (dx : Int) : Fld := { f with st := f.st.map fun s => (s.1, s.2 + dx) }
theorem rising_move (dx : Int) : ∀ l : List Int, rising (l.map (· + dx)) = rising l
  | [] => rfl
  | [_] => rfl
  | a :: b :: l => by
    have := rising_move dx (b :: l)
    simp only [List.map_cons, rising] at this ⊢
    rw [this]
    congr 1
    exact decide_eq_decide.2 (by omega)
theorem xAt_move {st : List (ByteArray × Int)} {i dx : Int} (h : inN i st.length) : xAt (st.map fun s => (s.1, s.2 + dx)) i = xAt st i + dx := by
  unfold inN at h
  unfold xAt
  rw [List.getElem?_map, List.getElem?_eq_getElem (show i.toNat < st.length by omega)]
  rfl
theorem move_sn (f : Fld) (dx : Int) : (moved f dx).sn = f.sn := by unfold moved Fld.sn; simp [List.map_map, Function.comp_def]
theorem move_xs (f : Fld) (dx : Int) : (moved f dx).st.map Prod.snd = (f.st.map Prod.snd).map (· + dx) := by unfold moved; simp [List.map_map, Function.comp_def]
theorem move_field {f : Fld} {dx : Int} (h : fieldE f = 0) (hx : ∀ s ∈ f.st, 0 ≤ s.2 + dx ∧ s.2 + dx ≤ 100000) : fieldE (moved f dx) = 0 := by
  unfold fieldE at h ⊢
  have e1 : (moved f dx).st.length = f.st.length := by simp [moved]
  rw [e1, move_sn, move_xs, rising_move]
  have e2 : ((moved f dx).st.all fun s => decide (0 ≤ s.2 ∧ s.2 ≤ 100000)) = true := by
    rw [List.all_eq_true]
    intro s hs
    unfold moved at hs
    obtain ⟨t, ht, rfl⟩ := List.mem_map.1 hs
    simpa using hx t ht
  rw [e2]
  have e3 : (moved f dx).li = f.li := rfl
  have e4 : (moved f dx).pa = f.pa := rfl
  have e5 : (moved f dx).va = f.va := rfl
  have e6 : (moved f dx).pn = f.pn := rfl
  rw [e3, e4, e5, e6]
  split at h
  · omega
  rename_i h1
  rw [if_neg h1]
  split at h
  · omega
  rename_i h2
  rw [if_neg h2]
  split at h
  · exact absurd h ‹_›
  rename_i h3
  rw [if_neg h3]
  split at h
  · omega
  rename_i h4
  rw [if_neg h4]
  split at h
  · omega
  rename_i h5
  rw [if_neg h5]
  split at h
  · omega
  rename_i h6
  rw [if_neg (by simp only [Bool.not_eq_false, Bool.and_eq_true] at h6 ⊢; exact ⟨trivial, h6.2⟩)]
  exact h
theorem move_run {f : Fld} {c : Cal} {dx : Int} (h1 : inN c.fr f.st.length) (h2 : inN c.till f.st.length) : runC (moved f dx).st c = runC f.st c := by
  unfold runC moved
  simp only
  rw [xAt_move h1, xAt_move h2]
  omega
theorem move_tab (f : Fld) (c : Cal) (dx : Int) : c.tab (moved f dx).st.length (moved f dx).li.length ↔ c.tab f.st.length f.li.length := by
  have e1 : (moved f dx).st.length = f.st.length := by simp [moved]
  rw [e1]
  exact Iff.rfl
theorem tab_till {S L : Nat} {c : Cal} (h : c.tab S L) (hk : c.kind = 3) : inN c.till S := by
  obtain ⟨_, _, h⟩ := h
  rcases h with h | h | h | h | h
  · omega
  · omega
  · exact h.2.2.2.2.1
  · omega
  · omega
theorem move_call (f : Fld) (c : Cal) (dx : Int) : callE (moved f dx) c = callE f c := by
  have e1 : (moved f dx).st.length = f.st.length := by simp [moved]
  have e2 : (moved f dx).li = f.li := rfl
  have e3 : (moved f dx).va = f.va := rfl
  unfold callE
  rw [e1, e2, e3]
  by_cases hk : c.kind = 3
  · by_cases ht : c.tab f.st.length f.li.length
    · rw [move_run (dx := dx) ht.2.1 (tab_till ht hk)]
    · simp only [ht, not_false_eq_true, if_true]
  · simp only [ne_eq, hk, not_false_eq_true, if_true]
theorem move_bounds {f : Fld} {c : Cal} {dx : Int} (ht : c.tab f.st.length f.li.length) (r : Int) : boundsC (moved f dx) c r = boundsC f c r := by
  have e : spans (moved f dx) c = spans f c := by
    have e1 : ∀ l s, ptC (moved f dx) l s = ptC f l s := fun l s => by unfold ptC; rw [show (moved f dx).st.length = f.st.length by simp [moved]]
    unfold spans
    split <;> rename_i hk
    · simp only [e1]
    · simp only [e1]
    · simp only [e1, move_run ht.2.1 (tab_till ht hk)]; rfl
    · simp only [e1]
    · simp only [e1]
    · rfl
  unfold boundsC
  rw [e]
end Pl
end Go.Proofs.YtgbpekeoegfjpaaGreatDoor
