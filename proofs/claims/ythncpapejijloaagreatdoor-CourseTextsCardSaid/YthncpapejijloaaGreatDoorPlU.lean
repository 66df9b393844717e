/- Plain law: what the reference reads and writes in units; directions. -/
import Derived.Test.YthncpapejijloaaGreatDoorPlT
import Derived.Test.YthncpapejijloaaGreatDoorPl9
namespace Go.Proofs.YthncpapejijloaaGreatDoor.Pl
open Go.RowKit

def numGo (n : Int) : List UInt8 → Option Int
  | [] => some n
  | c :: r => if c.toNat < 48 ∨ 57 < c.toNat then none else numGo (10 * n + c.toNat - 48) r
/-- The number of a word, as the reference reads it. -/
def numB (s : ByteArray) : Option Int := if s.size < 1 ∨ 12 < s.size then none else numGo 0 s.data.toList
def cntGo (us : List Unit) : List ByteArray → Int → Option Int
  | a :: b :: r, n => (numB a).bind fun k => if sizeOf b us 0 = 0 ∨ 1000000000000 / sizeOf b us 0 < k then none else cntGo us r (n + k * sizeOf b us 0)
  | _, n => some n
def cntV (us : List Unit) (s : ByteArray) : Option Int := if (wordsV s).length % 2 ≠ 0 ∨ 8 < (wordsV s).length then none else cntGo us (wordsV s) 0
def cntN (o : Option Int) (wr : Int → ByteArray) (s : ByteArray) : Int := match o with | some n => if wr n = s then n else 0 | none => 0
def cntE (o : Option Int) (wr : Int → ByteArray) (s : ByteArray) : Int := match o with | some n => if wr n = s then 0 else 4 | none => 4

theorem numGo_append : ∀ (l r : List UInt8) (n u : Int), numGo n l = some u → numGo n (l ++ r) = numGo u r
  | [], r, n, u, h => by simp only [numGo] at h; cases h; rfl
  | c :: l, r, n, u, h => by
    rw [List.cons_append]
    rw [numGo] at h
    rw [numGo]
    split at h
    · cases h
    · rename_i h1; rw [if_neg h1]; exact numGo_append l r _ u h
theorem numGo_dec (u : Nat) : numGo 0 (Lib.decDigits u) = some (u : Int) := by
  induction u using Nat.strongRecOn with
  | _ u ih =>
    unfold Lib.decDigits
    split
    · rename_i h
      have e : (UInt8.ofNat (48 + u)).toNat = 48 + u := by rw [UInt8.toNat_ofNat']; omega
      simp only [numGo]
      rw [e, if_neg (by omega)]
      congr 1; omega
    · rename_i h
      have e : (UInt8.ofNat (48 + u % 10)).toNat = 48 + u % 10 := by rw [UInt8.toNat_ofNat']; omega
      rw [numGo_append _ _ 0 _ (ih (u / 10) (by omega))]
      simp only [numGo]
      rw [e, if_neg (by omega)]
      congr 1; omega
theorem nd_le : ∀ (j u : Nat), u < 10 ^ (j + 1) → Lib.nDigits u ≤ j + 1
  | 0, u, h => by rw [Lib.nDigits_small (by simpa using h)]; omega
  | j + 1, u, h => by
    by_cases hs : u < 10
    · rw [Lib.nDigits_small hs]; omega
    · rw [Lib.nDigits_big hs]
      have := nd_le j (u / 10) (by rw [Nat.pow_succ] at h; omega)
      omega
theorem numB_spelt {k : Int} (h0 : 0 ≤ k) (h1 : k < 1000000000000) : numB (spelt k) = some k := by
  have e : (spelt k).data.toList = Lib.decDigits k.toNat := by unfold spelt; simp [itoa_pos h0]
  have es : (spelt k).size = Lib.nDigits k.toNat := by rw [← Lib.decDigits_length, ← e, Array.length_toList]; rfl
  have a := Lib.nDigits_pos k.toNat
  have b := nd_le 11 k.toNat (by omega)
  unfold numB
  rw [if_neg (by omega), e, numGo_dec, Int.toNat_of_nonneg h0]
theorem cntGo_named {us : List Unit} (hg : Good us) : ∀ (vs : List Unit), (∀ v ∈ vs, v ∈ us) → ∀ (c n : Int), 0 ≤ c → c ≤ 1000000000000 → (c < 1000000000000 ∨ ∃ v r, vs = v :: r ∧ 2 ≤ v.1) → cntGo us (namedL c vs) n = some (n + c - endC c vs)
  | [], _, c, n, _, _, _ => by
    show some n = some (n + c - c)
    congr 1; omega
  | v :: vs, hv, c, n, h0, h1, h2 => by
    have hm := hv v (by simp)
    obtain ⟨g1, g2, _⟩ := hg v hm
    have e1 : c / v.1 * v.1 + c % v.1 = c := by rw [Int.mul_comm]; exact Int.mul_ediv_add_emod c v.1
    have e2 : 0 ≤ c % v.1 := Int.emod_nonneg _ (by omega)
    have e2' : c % v.1 < v.1 := Int.emod_lt_of_pos _ (by omega)
    have e3 : 0 ≤ c / v.1 := Int.ediv_nonneg h0 (by omega)
    have e4 : c / v.1 ≤ c := Int.ediv_le_self _ h0
    have hlt : c / v.1 < 1000000000000 := by
      rcases h2 with h2 | ⟨v', r, he, h2⟩
      · omega
      · cases he
        have : c / v.1 * 2 ≤ c / v.1 * v.1 := Int.mul_le_mul_of_nonneg_left h2 e3
        omega
    have ih := cntGo_named hg vs (fun w hw => hv w (by simp [hw])) (c % v.1)
    unfold namedL endC
    by_cases hk : c / v.1 > 0
    · rw [if_pos hk]
      show cntGo us (spelt (c / v.1) :: word (c / v.1) v :: namedL (c % v.1) vs) n = _
      rw [cntGo, numB_spelt e3 hlt, Option.bind_some, word_size hg hm, if_neg (by have := Int.ediv_le_ediv (c := v.1) (by omega) h1; omega), ih _ e2 (by omega) (.inl (by omega))]
      congr 1; omega
    · rw [if_neg hk, List.nil_append]
      have hz : c / v.1 = 0 := by omega
      rw [hz] at e1
      rw [ih _ e2 (by omega) (.inl (by omega))]
      congr 1; omega
theorem cntV_named {us : List Unit} (hg : Good us) (hlen : us.length ≤ 4) {c : Int} (h0 : 0 ≤ c) (h1 : c ≤ 1000000000000) (h2 : ∃ v r, us = v :: r ∧ 2 ≤ v.1) (hend : endC c us = 0) (hz : namedL c us = [] → c = 0 ∧ cntV us (named c us) = some 0) : cntV us (named c us) = some c := by
  by_cases hne : namedL c us = []
  · obtain ⟨hc, h⟩ := hz hne
    rw [h, hc]
  · have a := namedL_even c us
    have b := namedL_len c us
    unfold cntV
    rw [wordsV_named hg h0 hne, if_neg (by omega), cntGo_named hg us (fun v hv => hv) c 0 h0 h1 (.inr h2), hend]
    simp
theorem cnt_links {n : Int} (h0 : 0 ≤ n) (h1 : n ≤ 1000000) : cntV poles (lengthV n) = some n := by
  rw [lengthV_in h0 h1]
  refine cntV_named good_poles (by decide) h0 (by omega) ⟨_, _, rfl, by decide⟩ (end_poles n) fun hn => ?_
  have := namedL_zero h0 (us := poles) (fun u hu => (good_poles u hu).1) hn
  rw [end_poles] at this
  obtain rfl : n = 0 := this.symm
  exact ⟨rfl, by decide +kernel⟩
theorem cnt_area {n : Int} (h0 : 0 ≤ n) (h1 : n ≤ 1000000000000) : cntV roods (acresV n) = some n := by
  rw [acresV_in h0 h1]
  refine cntV_named good_roods (by decide) h0 (by omega) ⟨_, _, rfl, by decide⟩ (end_roods n) fun hn => ?_
  have := namedL_zero h0 (us := roods) (fun u hu => (good_roods u hu).1) hn
  rw [end_roods] at this
  obtain rfl : n = 0 := this.symm
  exact ⟨rfl, by decide +kernel⟩
theorem words_empty : (wordsV ⟨#[]⟩).length = 1 := by decide +kernel
theorem readV_empty (us : List Unit) (wr : Int → ByteArray) : readV us wr ⟨#[]⟩ = none := by unfold readV; rw [words_empty]; rfl
theorem cntV_empty (us : List Unit) : cntV us ⟨#[]⟩ = none := by unfold cntV; rw [words_empty]; rfl
/-- Program and reference read the same. -/
theorem same_read {us : List Unit} {wr : Int → ByteArray} {M : Int} (hout : ∀ n, ¬ (0 ≤ n ∧ n ≤ M) → wr n = ⟨#[]⟩) (ha : ∀ n, 0 ≤ n → n ≤ M → readV us wr (wr n) = some n) (hb : ∀ n, 0 ≤ n → n ≤ M → cntV us (wr n) = some n) (s : ByteArray) :
    cntN (cntV us s) wr s = (readV us wr s).getD 0 ∧ cntE (cntV us s) wr s = if (readV us wr s).isSome then 0 else 4 := by
  cases hr : readV us wr s with
  | some n =>
    have hw := readV_wr hr
    have hin : 0 ≤ n ∧ n ≤ M := by
      by_cases h : 0 ≤ n ∧ n ≤ M
      · exact h
      · rw [hout n h] at hw
        rw [← hw, readV_empty] at hr
        cases hr
    have := hb n hin.1 hin.2
    rw [hw] at this
    rw [this]
    unfold cntN cntE
    simp [hw]
  | none =>
    cases hc : cntV us s with
    | none => exact ⟨rfl, rfl⟩
    | some n =>
      have hne : wr n ≠ s := by
        intro hw
        by_cases h : 0 ≤ n ∧ n ≤ M
        · have := ha n h.1 h.2
          rw [hw, hr] at this
          cases this
        · rw [hout n h] at hw
          rw [← hw, cntV_empty] at hc
          cases hc
      unfold cntN cntE
      simp [hne]
theorem same_links (s : ByteArray) : cntN (cntV poles s) lengthV s = (readV poles lengthV s).getD 0 ∧ cntE (cntV poles s) lengthV s = if (readV poles lengthV s).isSome then 0 else 4 :=
  same_read (M := 1000000) (fun n h => by unfold lengthV; rw [if_neg h]) (fun _ => links_back) (fun _ => cnt_links) s
theorem same_area (s : ByteArray) : cntN (cntV roods s) acresV s = (readV roods acresV s).getD 0 ∧ cntE (cntV roods s) acresV s = if (readV roods acresV s).isSome then 0 else 4 :=
  same_read (M := 1000000000000) (fun n h => by unfold acresV; rw [if_neg h]) (fun _ => area_back) (fun _ => cnt_area) s

/-! ### Writing, as the reference does -/
def measGo (out : List UInt8) (c : Int) : List Unit → List UInt8
  | [] => out
  | u :: us => measGo (if c / u.1 = 0 then out else (if out = [] then [] else out ++ [32]) ++ (spelt (c / u.1)).data.toList ++ [32] ++ (word (c / u.1) u).data.toList) (c % u.1) us
theorem join_pair (x y : List UInt8) (r : List (List UInt8)) : Lib.join (x :: y :: r) [32] = x ++ [32] ++ y ++ (if r = [] then [] else 32 :: Lib.join r [32]) := by
  cases r with
  | nil => rw [join_two, Lib.join_one]; simp
  | cons z r => rw [join_two, join_two]; simp
theorem spelt_ne (k : Int) : (spelt k).data.toList ≠ [] := by
  unfold spelt Lib.itoa
  split
  · simp
  · simpa using dec_ne _
theorem measGo_eq : ∀ (us : List Unit) (out : List UInt8) (c : Int), 0 ≤ c → (∀ u ∈ us, 1 ≤ u.1) →
    measGo out c us = if namedL c us = [] then out else (if out = [] then [] else out ++ [32]) ++ Lib.join ((namedL c us).map (·.data.toList)) [32]
  | [], out, c, _, _ => by simp [measGo, namedL]
  | u :: us, out, c, h0, hp => by
    have g1 := hp u (by simp)
    have e2 : 0 ≤ c % u.1 := Int.emod_nonneg _ (by omega)
    have e3 : 0 ≤ c / u.1 := Int.ediv_nonneg h0 (by omega)
    unfold measGo
    rw [measGo_eq us _ _ e2 (fun v hv => hp v (by simp [hv]))]
    by_cases hk : c / u.1 = 0
    · rw [if_pos hk]
      have : namedL c (u :: us) = namedL (c % u.1) us := by simp [namedL, hk]
      rw [this]
    · rw [if_neg hk]
      have hn : namedL c (u :: us) = spelt (c / u.1) :: word (c / u.1) u :: namedL (c % u.1) us := by
        simp only [namedL]; rw [if_pos (by omega)]; rfl
      rw [hn]
      have hne : (if out = [] then [] else out ++ [32]) ++ (spelt (c / u.1)).data.toList ++ [32] ++ (word (c / u.1) u).data.toList ≠ [] := by simp
      rw [if_neg (List.cons_ne_nil _ _)]
      simp only [List.map_cons]
      rw [join_pair]
      by_cases hr : namedL (c % u.1) us = []
      · simp [hr]
      · simp [hr]
theorem join_ne {x : List UInt8} {r : List (List UInt8)} (h : x ≠ []) : Lib.join (x :: r) [32] ≠ [] := by
  rw [Lib.join_cons]; simp [h]
/-- What the reference writes. -/
def measV (c : Int) (us : List Unit) : List UInt8 := if measGo [] c us = [] then [48, 32, 108, 105, 110, 107, 115] else measGo [] c us
theorem measV_eq {us : List Unit} {c : Int} (h0 : 0 ≤ c) (hp : ∀ u ∈ us, 1 ≤ u.1) (hl : us.getLast?.map (·.2.2) = some ⟨#[108, 105, 110, 107, 115]⟩) : (⟨(measV c us).toArray⟩ : ByteArray) = named c us := by
  unfold measV named
  rw [measGo_eq us [] c h0 hp]
  by_cases hn : namedL c us = []
  · rw [if_pos hn, if_pos rfl, if_pos hn, hl]; rfl
  · rw [if_neg hn, if_neg hn]
    have : (if ([] : List UInt8) = [] then [] else [] ++ [32]) ++ Lib.join ((namedL c us).map (·.data.toList)) [32] = Lib.join ((namedL c us).map (·.data.toList)) [32] := by simp
    rw [this, if_neg ?_]
    cases us with
    | nil => simp [namedL] at hn
    | cons u us =>
      cases hL : namedL c (u :: us) with
      | nil => exact absurd hL hn
      | cons x r =>
        have hx : x.data.toList ≠ [] := by
          have hmem : ∀ (vs : List Unit) (d : Int) (y : ByteArray) (q : List ByteArray), namedL d vs = y :: q → y.data.toList ≠ [] := by
            intro vs
            induction vs with
            | nil => intro d y q h; simp [namedL] at h
            | cons v vs ih =>
              intro d y q h
              unfold namedL at h
              split at h
              · simp only [List.cons_append, List.cons.injEq] at h
                rw [← h.1]; exact spelt_ne _
              · rw [List.nil_append] at h; exact ih _ _ _ h
          exact hmem _ _ _ _ hL
        exact join_ne hx

/-! ### Directions -/
def unq (l : List UInt8) : Int :=
  match cutW [] l with
  | [a] => if a = north then 0 else if a = east then 90 else if a = south then 180 else 270
  | [a, n, b] => if a = north then (if b = east then (numGo 0 n).getD 0 else 360 - (numGo 0 n).getD 0) else (if b = east then 180 - (numGo 0 n).getD 0 else 180 + (numGo 0 n).getD 0)
  | _ => -1
theorem unq_quad : ∀ d : Fin 360, unq (quad (d.1 : Int)) = d.1 := by decide +kernel
theorem quad_mod (d : Int) : quad (d % 360) = quad d := by unfold quad; rw [Int.emod_emod_of_dvd _ (by decide)]
theorem quad_inj {a b : Int} (a0 : 0 ≤ a) (a1 : a < 360) (b0 : 0 ≤ b) (b1 : b < 360) (h : quad a = quad b) : a = b := by
  have ha := unq_quad ⟨a.toNat, by omega⟩
  have hb := unq_quad ⟨b.toNat, by omega⟩
  simp only [Int.toNat_of_nonneg a0, Int.toNat_of_nonneg b0] at ha hb
  rw [h, hb] at ha
  exact ha.symm
def bearGo (l : List UInt8) : Nat → Nat → Option Int
  | 0, _ => none
  | f + 1, k => if quad (k : Int) = l then some (k : Int) else bearGo l f (k + 1)
/-- The direction that is written. -/
def bearV (s : ByteArray) : Option Int := bearGo s.data.toList 360 0
theorem bearGo_spec (l : List UInt8) : ∀ (f k : Nat), (∃ r : Nat, bearGo l f k = some (r : Int) ∧ quad (r : Int) = l ∧ k ≤ r ∧ r < k + f) ∨ (bearGo l f k = none ∧ ∀ j : Nat, k ≤ j → j < k + f → quad (j : Int) ≠ l)
  | 0, k => .inr ⟨rfl, fun j h1 h2 => by omega⟩
  | f + 1, k => by
    unfold bearGo
    by_cases h : quad (k : Int) = l
    · rw [if_pos h]; exact .inl ⟨k, rfl, h, by omega, by omega⟩
    · rw [if_neg h]
      rcases bearGo_spec l f (k + 1) with ⟨r, h1, h2, h3, h4⟩ | ⟨h1, h2⟩
      · exact .inl ⟨r, h1, h2, by omega, by omega⟩
      · refine .inr ⟨h1, fun j j1 j2 => ?_⟩
        by_cases hj : j = k
        · subst hj; exact h
        · exact h2 j (by omega) (by omega)
theorem bear_back (d : Int) : bearV ⟨(quad d).toArray⟩ = some (d % 360) := by
  have h0 : 0 ≤ d % 360 := by omega
  have h1 : d % 360 < 360 := by omega
  unfold bearV
  rcases bearGo_spec (quad d) 360 0 with ⟨r, k1, k2, k3, k4⟩ | ⟨k1, k2⟩
  · show bearGo (quad d) 360 0 = _
    rw [k1]
    have := quad_inj (a := r) (b := d % 360) (by omega) (by omega) h0 h1 (by rw [k2, quad_mod])
    rw [this]
  · exact absurd (by rw [Int.toNat_of_nonneg h0, quad_mod]) (k2 (d % 360).toNat (by omega) (by omega))
theorem bear_quad {s : ByteArray} {d : Int} (h : bearV s = some d) : quad d = s.data.toList ∧ 0 ≤ d ∧ d < 360 := by
  unfold bearV at h
  rcases bearGo_spec s.data.toList 360 0 with ⟨r, k1, k2, k3, k4⟩ | ⟨k1, k2⟩
  · rw [k1] at h; cases h; exact ⟨k2, by omega, by omega⟩
  · rw [k1] at h; cases h
end Go.Proofs.YthncpapejijloaaGreatDoor.Pl
