/- Plain: what RightWhole counts. -/
import Derived.Test.YtcffonnijhhhiaaGreatDoorU01
set_option linter.all false
set_option linter.unusedSimpArgs false
set_option linter.unusedVariables false
set_option linter.unusedSectionVars false
namespace Go.Proofs.Rt
theorem total_cons (x : Lot) (l : List Lot) : total (x :: l) = x.size + total l := rfl
theorem total_put (l : List Lot) (x : Lot) : total (put l x) = x.size + total l := by
  induction l with
  | nil => rfl
  | cons y l ih =>
    unfold put
    split
    · rfl
    · rw [total_cons, ih, total_cons]
      omega
theorem gone_none {l : List Lot} {n : Int} (h : ∀ y ∈ l, y.number ≠ n) : gone l n = l :=
  List.filter_eq_self.2 (fun y hy => by simpa using h y hy)
theorem sizeOf_cons (y : Lot) (l : List Lot) (n : Int) : sizeOf (y :: l) n = if y.number = n then y.size else sizeOf l n := by
  unfold sizeOf lotOf
  rw [List.find?_cons]
  by_cases e : y.number = n
  · simp [e]
  · simp only [beq_eq_false_iff_ne.2 e, if_neg e]
theorem sizeOf_none {l : List Lot} {n : Int} (h : ∀ y ∈ l, y.number ≠ n) : sizeOf l n = 0 := by
  unfold sizeOf
  rw [lotOf_none.2 h]
  rfl
theorem total_gone {l : List Lot} {n : Int} (h : asc (l.map (·.number))) : total (gone l n) = total l - sizeOf l n := by
  induction l with
  | nil => rfl
  | cons y l ih =>
    obtain ⟨h1, h2⟩ := h
    have h1' : ∀ z ∈ l, y.number < z.number := fun z hz => h1 _ (List.mem_map_of_mem hz)
    rw [sizeOf_cons, total_cons]
    by_cases e : y.number = n
    · have hn : ∀ z ∈ l, z.number ≠ n := fun z hz => by have := h1' z hz; omega
      have hg : gone (y :: l) n = gone l n := by
        unfold gone
        rw [List.filter_cons, if_neg (by simp [e])]
      rw [hg, gone_none hn, if_pos e]
      omega
    · have hg : gone (y :: l) n = y :: gone l n := by
        unfold gone
        rw [List.filter_cons, if_pos (by simp [e])]
      rw [hg, total_cons, ih h2, if_neg e]
      omega
theorem sizeOf_gone {l : List Lot} {m n : Int} (h : m ≠ n) : sizeOf (gone l m) n = sizeOf l n := by
  unfold sizeOf
  rw [lotOf_gone, if_neg h]
theorem total_goneAll {L : List Int} {l : List Lot} (h : asc (l.map (·.number))) (hn : L.Nodup) : total (L.foldl gone l) = total l - sumI (L.map (sizeOf l)) := by
  induction L generalizing l with
  | nil =>
    show total l = total l - 0
    omega
  | cons m L ih =>
    obtain ⟨h1, h2⟩ := List.nodup_cons.1 hn
    rw [List.foldl_cons, ih (asc_gone h) h2, total_gone h]
    have : L.map (sizeOf (gone l m)) = L.map (sizeOf l) := List.map_congr_left (fun n hn' => sizeOf_gone (fun e => h1 (e ▸ hn')))
    rw [this]
    show _ = total l - (sizeOf l m + _)
    omega
theorem total_putAll (L : List (Int × Int)) (h : List (Int × Int)) (l : List Lot) : total (L.foldl (fun l p => put l ⟨p.1, p.2, h⟩) l) = total l + sumI (L.map (·.2)) := by
  induction L generalizing l with
  | nil =>
    show total l = total l + 0
    omega
  | cons p L ih =>
    rw [List.foldl_cons, ih, total_put]
    show p.2 + total l + _ = total l + (p.2 + _)
    omega
theorem total_does {s : St} (h : Inv s) {x : Deal} (hf : formed x = true) (hp : possible s x = 0) : total (does s x).roll.lots = total s.roll.lots + entered x := by
  obtain ⟨p1, p2, p3, p4⟩ := possible_iff.1 hp
  unfold formed at hf
  simp only [Bool.and_eq_true] at hf
  obtain ⟨_, d⟩ := hf
  obtain ⟨k, hk⟩ : ∃ k, x.kind = k := ⟨_, rfl⟩
  unfold missing at p1
  unfold unlike at p4
  unfold does entered
  rw [hk] at d p1 p4 ⊢
  match k, hk with
  | 0, _ => cases d
  | 1, _ =>
    show total (put _ _) = _
    rw [total_put, if_pos rfl]
    show x.size + _ = _
    omega
  | 2, _ =>
    show total (put (gone s.roll.lots x.lot) _) = _
    rw [total_put, total_gone h.lots]
    show sizeOf s.roll.lots x.lot + _ = total s.roll.lots + 0
    omega
  | 3, _ =>
    simp only [Bool.and_eq_true, inR_iff, lotsOk_iff, List.all_eq_true, beq_iff_eq] at d
    show total ((x.into.zip x.sizes).foldl (fun l p => put l ⟨p.1, p.2, heldOf s.roll.lots x.lot⟩) (gone s.roll.lots x.lot)) = total s.roll.lots + 0
    rw [total_putAll, total_gone h.lots, List.map_snd_zip (by omega)]
    have : sumI x.sizes = sizeOf s.roll.lots x.lot := by simpa using p4
    omega
  | 4, _ =>
    simp only [Bool.and_eq_true, lotsOk_iff] at d
    show total (put (x.into.foldl gone s.roll.lots) _) = total s.roll.lots + 0
    rw [total_put, total_goneAll h.lots d.2.2.2]
    show sumI (x.into.map (sizeOf s.roll.lots)) + _ = _
    omega
  | 5, _ => exact (Int.add_zero _).symm
  | 6, _ => exact (Int.add_zero _).symm
  | 7, _ => exact (Int.add_zero _).symm
  | 8, _ => exact (Int.add_zero _).symm
  | n + 9, _ => cases d
theorem right_total {s : St} {done l : List Deal} (h : Inv s) (hr : rightFrom s done l) : total (l.foldl does s).roll.lots = total s.roll.lots + sumI (l.map entered) := by
  induction l generalizing s done with
  | nil =>
    show total _ = total _ + 0
    rw [Int.add_zero]
    rfl
  | cons x l ih =>
    obtain ⟨a, b⟩ := hr
    obtain ⟨_, f, _, _, p⟩ := refused_zero a
    rw [List.foldl_cons, ih (does_inv h f p) b, total_does h f p]
    show _ = _ + (entered x + _)
    omega
theorem whole_total {l : List Deal} (h : (check l).2 = 0) (day : Int) : total (stOf (onDay l day)).roll.lots = sumI ((onDay l day).map entered) := by
  have := right_total Inv.begun ((checkGo_iff _ _ _).1 (on_right h day))
  rw [show total St.begun.roll.lots = 0 from rfl, Int.zero_add] at this
  exact this
theorem right_formed {s : St} {done l : List Deal} (hr : rightFrom s done l) : ∀ x ∈ l, formed x = true := by
  induction l generalizing s done with
  | nil => intro x hx; cases hx
  | cons y l ih =>
    obtain ⟨a, b⟩ := hr
    intro x hx
    rcases List.mem_cons.1 hx with rfl | hx
    · exact (refused_zero a).2.1
    · exact ih b x hx
theorem check_formed {l : List Deal} (h : (check l).2 = 0) : ∀ x ∈ l, formed x = true := right_formed ((checkGo_iff _ _ _).1 h)
theorem entered_in {x : Deal} (h : formed x = true) : 0 ≤ entered x ∧ entered x ≤ 10000000000 := by
  unfold entered
  split
  · rename_i hk
    unfold formed at h
    simp only [Bool.and_eq_true] at h
    have h2 := h.2
    rw [hk] at h2
    simp only [Bool.and_eq_true, inR_iff] at h2
    omega
  · exact ⟨by decide, by decide⟩
theorem sumI_take_next {l : List Int} {j : Nat} (h : j < l.length) : sumI (l.take (j + 1)) = sumI (l.take j) + l[j] := by
  rw [List.take_succ_eq_append_getElem h]
  have : ∀ (a : List Int) (b : Int), sumI (a ++ [b]) = sumI a + b := fun a b => by
    induction a with
    | nil => show b + 0 = 0 + b; omega
    | cons c a ih => show c + sumI (a ++ [b]) = c + sumI a + b; omega
  exact this _ _
/-- What was entered up to a day, of the first so many deals. -/
def enteredTo (l : List Deal) (day : Int) (j : Nat) : Int := sumI (((l.take j).filter fun x => decide (x.day ≤ day)).map entered)
theorem sumI_snoc (a : List Int) (b : Int) : sumI (a ++ [b]) = sumI a + b := by
  induction a with
  | nil => show b + 0 = 0 + b; omega
  | cons c a ih => show c + sumI (a ++ [b]) = c + sumI a + b; omega
theorem enteredTo_next {l : List Deal} {day : Int} {j : Nat} (h : j < l.length) : enteredTo l day (j + 1) = if l[j].day ≤ day ∧ l[j].kind = 1 then enteredTo l day j + l[j].size else enteredTo l day j := by
  unfold enteredTo
  rw [List.take_succ_eq_append_getElem h, List.filter_append, List.map_append]
  by_cases h1 : l[j].day ≤ day
  · rw [List.filter_cons_of_pos (by simpa using h1), List.filter_nil]
    show sumI (_ ++ [entered l[j]]) = _
    rw [sumI_snoc]
    unfold entered
    by_cases h2 : l[j].kind = 1
    · rw [if_pos h2, if_pos ⟨h1, h2⟩]
    · rw [if_neg h2, if_neg (fun h => h2 h.2), Int.add_zero]
  · rw [List.filter_cons_of_neg (by simpa using h1), List.filter_nil, if_neg (fun h => h1 h.1)]
    simp
theorem enteredTo_all (l : List Deal) (day : Int) : enteredTo l day l.length = sumI ((onDay l day).map entered) := by
  unfold enteredTo onDay
  rw [List.take_length]
theorem sumI_in {l : List Int} {b : Int} (h : ∀ x ∈ l, 0 ≤ x ∧ x ≤ b) : 0 ≤ sumI l ∧ sumI l ≤ b * l.length := by
  induction l with
  | nil => exact ⟨Int.le_refl _, by simp [sumI]⟩
  | cons a l ih =>
    obtain ⟨h1, h2⟩ := ih fun x hx => h x (by simp [hx])
    obtain ⟨h3, h4⟩ := h a (by simp)
    show 0 ≤ a + sumI l ∧ a + sumI l ≤ b * ((l.length + 1 : Nat) : Int)
    rw [show (((l.length + 1 : Nat)) : Int) = (l.length : Int) + 1 by omega, Int.mul_add]
    omega
theorem enteredTo_in {l : List Deal} (h : (check l).2 = 0) (day : Int) (j : Nat) : 0 ≤ enteredTo l day j ∧ enteredTo l day j ≤ 10000000000 * (l.length : Int) := by
  unfold enteredTo
  have h1 := sumI_in (b := 10000000000) (l := ((l.take j).filter fun x => decide (x.day ≤ day)).map entered) fun x hx => by
    obtain ⟨y, hy, rfl⟩ := List.mem_map.1 hx
    exact entered_in (check_formed h y (List.mem_of_mem_take (List.mem_filter.1 hy).1))
  have h2 : (((l.take j).filter fun x => decide (x.day ≤ day)).map entered).length ≤ l.length := by
    rw [List.length_map]
    exact Nat.le_trans (List.length_filter_le _ _) (by simp; omega)
  have h3 : (10000000000 : Int) * ((((l.take j).filter fun x => decide (x.day ≤ day)).map entered).length : Int) ≤ 10000000000 * (l.length : Int) := by omega
  omega
/-- The sizes of the first so many lots. -/
def sizesTo (l : List Lot) (j : Nat) : Int := sumI ((l.map (·.size)).take j)
theorem sizesTo_next {l : List Lot} {j : Nat} (h : j < l.length) : sizesTo l (j + 1) = sizesTo l j + l[j].size := by
  unfold sizesTo
  rw [sumI_take_next (by simpa using h)]
  simp
theorem sizesTo_all (l : List Lot) : sizesTo l l.length = total l := by
  unfold sizesTo total
  rw [List.take_of_length_le (by simp)]
theorem sizesTo_in {l : List Lot} (h : ∀ x ∈ l, 1 ≤ x.size) (j : Nat) : 0 ≤ sizesTo l j ∧ sizesTo l j ≤ total l := by
  have pos : ∀ m : List Int, (∀ x ∈ m, 0 ≤ x) → 0 ≤ sumI m := fun m hm => by
    induction m with
    | nil => exact Int.le_refl _
    | cons a m ih =>
      have h1 := ih fun x hx => hm x (by simp [hx])
      have h2 := hm a (by simp)
      show 0 ≤ a + sumI m
      omega
  have app : ∀ a b : List Int, sumI (a ++ b) = sumI a + sumI b := fun a b => by
    induction a with
    | nil => show sumI b = 0 + sumI b; omega
    | cons c a ih => show c + sumI (a ++ b) = c + sumI a + sumI b; omega
  have h0 : ∀ x ∈ l.map (·.size), 0 ≤ x := fun x hx => by
    obtain ⟨y, hy, rfl⟩ := List.mem_map.1 hx
    have := h y hy
    omega
  have h1 := pos ((l.map (·.size)).take j) fun x hx => h0 x (List.mem_of_mem_take hx)
  have h2 := pos ((l.map (·.size)).drop j) fun x hx => h0 x (List.mem_of_mem_drop hx)
  have h3 := app ((l.map (·.size)).take j) ((l.map (·.size)).drop j)
  rw [List.take_append_drop] at h3
  unfold sizesTo total
  omega
/-- The parts of the first so many holdings. -/
def partsTo (l : List (Int × Int)) (j : Nat) : Int := sumI ((l.map (·.2)).take j)
theorem partsTo_next {l : List (Int × Int)} {j : Nat} (h : j < l.length) : partsTo l (j + 1) = partsTo l j + l[j].2 := by
  unfold partsTo
  rw [sumI_take_next (by simpa using h)]
  simp
theorem partsTo_in {l : List (Int × Int)} (h : Held l) : (∀ j, 0 ≤ partsTo l j ∧ partsTo l j ≤ 5040) ∧ partsTo l l.length = 5040 := by
  have e : ∀ m : List (Int × Int), sumP m = sumI (m.map (·.2)) := fun m => by
    induction m with
    | nil => rfl
    | cons a m ih => show a.2 + sumP m = a.2 + sumI (m.map (·.2)); omega
  have hs := h.sum
  rw [e] at hs
  have pos : ∀ m : List Int, (∀ x ∈ m, 0 ≤ x) → 0 ≤ sumI m := fun m hm => by
    induction m with
    | nil => exact Int.le_refl _
    | cons a m ih =>
      have h1 := ih fun x hx => hm x (by simp [hx])
      have h2 := hm a (by simp)
      show 0 ≤ a + sumI m
      omega
  have app : ∀ a b : List Int, sumI (a ++ b) = sumI a + sumI b := fun a b => by
    induction a with
    | nil => show sumI b = 0 + sumI b; omega
    | cons c a ih => show c + sumI (a ++ b) = c + sumI a + sumI b; omega
  have h0 : ∀ x ∈ l.map (·.2), 0 ≤ x := fun x hx => by
    obtain ⟨y, hy, rfl⟩ := List.mem_map.1 hx
    have := h.pos y hy
    omega
  refine ⟨fun j => ?_, ?_⟩
  · have h1 := pos ((l.map (·.2)).take j) fun x hx => h0 x (List.mem_of_mem_take hx)
    have h2 := pos ((l.map (·.2)).drop j) fun x hx => h0 x (List.mem_of_mem_drop hx)
    have h3 := app ((l.map (·.2)).take j) ((l.map (·.2)).drop j)
    rw [List.take_append_drop] at h3
    unfold partsTo
    omega
  · unfold partsTo
    rw [List.take_of_length_le (by simp)]
    exact hs
end Go.Proofs.Rt
