/- Plain law: what is written in units is read again. -/
import Derived.Test.YthncpapejijloaaGreatDoorPl11
import Derived.Lib.SplitLaws
namespace Go.Proofs.YthncpapejijloaaGreatDoor.Pl
open Go.RowKit

/-! ### Words -/
def cutW (acc : List UInt8) : List UInt8 → List (List UInt8)
  | [] => [acc]
  | c :: s => if c = 32 then acc :: cutW [] s else cutW (acc ++ [c]) s
def pre (acc : List UInt8) : List (List UInt8) → List (List UInt8)
  | [] => []
  | x :: xs => (acc ++ x) :: xs
theorem pre_nil (l : List (List UInt8)) : pre [] l = l := by cases l <;> rfl
theorem splitK_cons_ne (c : UInt8) (hc : c ≠ 32) (r : List UInt8) : ∀ k, Lib.splitK [32] 0 k (c :: r) = pre [c] (Lib.splitK [32] 0 k r)
  | 0 => rfl
  | k + 1 => by
    have hp : ([32] : List UInt8).isPrefixOf (c :: r) = false := by simp [List.isPrefixOf, Ne.symm hc]
    have hix : Lib.index (c :: r) [32] = if Lib.index r [32] == -1 then -1 else Lib.index r [32] + 1 := by rw [Lib.index, hp]; simp
    unfold Lib.splitK
    by_cases hm : Lib.index r [32] = -1
    · rw [hix, if_pos (beq_iff_eq.2 hm), hm]; rfl
    · have hge := Lib.index_ge r [32]
      have hn : ¬ (Lib.index r [32] == -1) = true := fun e => hm (beq_iff_eq.1 e)
      rw [hix, if_neg hn, if_neg hn, if_neg (by intro e; have := beq_iff_eq.1 e; omega)]
      obtain ⟨i, hi⟩ : ∃ i : Nat, Lib.index r [32] = i := ⟨(Lib.index r [32]).toNat, by omega⟩
      rw [hi]
      have e : ((i : Int) + 1).toNat = i + 1 := by omega
      rw [e]
      simp [pre]
theorem splitK_cons_eq (r : List UInt8) (k : Nat) : Lib.splitK [32] 0 (k + 1) (32 :: r) = [] :: Lib.splitK [32] 0 k r := by
  have hix : Lib.index (32 :: r) [32] = ((0 : Nat) : Int) := by rw [Lib.index]; simp [List.isPrefixOf]
  rw [Lib.splitK, hix]
  simp
theorem cutW_split : ∀ (s acc : List UInt8), cutW acc s = pre acc (Lib.splitK [32] 0 (Lib.count s [32]) s)
  | [], acc => by
    have : Lib.count [] [32] = 0 := rfl
    rw [this]; unfold cutW Lib.splitK pre; simp
  | c :: s, acc => by
    unfold cutW
    by_cases hc : c = 32
    · subst hc
      rw [if_pos rfl, Lib.count_cons_eq, Nat.add_comm, splitK_cons_eq, cutW_split s [], pre_nil]
      simp [pre]
    · rw [if_neg hc, Lib.count_cons_ne c 32 s hc, splitK_cons_ne c hc, cutW_split s (acc ++ [c])]
      cases Lib.splitK [32] 0 (Lib.count s [32]) s with
      | nil => rfl
      | cons x xs => simp [pre]
theorem wordsV_cut (s : ByteArray) : (wordsV s).map (·.data.toList) = cutW [] s.data.toList := by
  unfold wordsV
  rw [Lib.splitB_data, cutW_split, pre_nil]
theorem cutW_plain : ∀ (x acc : List UInt8), 32 ∉ x → cutW acc x = [acc ++ x]
  | [], acc, _ => by simp [cutW]
  | c :: x, acc, h => by
    simp only [List.mem_cons, not_or] at h
    unfold cutW
    rw [if_neg (Ne.symm h.1), cutW_plain x _ h.2]; simp
theorem cutW_blank : ∀ (x acc s : List UInt8), 32 ∉ x → cutW acc (x ++ 32 :: s) = (acc ++ x) :: cutW [] s
  | [], acc, s, _ => by simp [cutW]
  | c :: x, acc, s, h => by
    simp only [List.mem_cons, not_or] at h
    rw [List.cons_append, cutW, if_neg (Ne.symm h.1), cutW_blank x _ s h.2]; simp
theorem join_two (x y : List UInt8) (r : List (List UInt8)) : Lib.join (x :: y :: r) [32] = x ++ 32 :: Lib.join (y :: r) [32] := by
  rw [Lib.join_cons, Lib.join_cons]; simp [Lib.joinTail]
theorem cutW_join : ∀ (xs : List (List UInt8)), xs ≠ [] → (∀ x ∈ xs, 32 ∉ x) → cutW [] (Lib.join xs [32]) = xs
  | [], h, _ => absurd rfl h
  | [x], _, h => by rw [Lib.join_one, cutW_plain x [] (h x (by simp))]; simp
  | x :: y :: r, _, h => by
    rw [join_two, cutW_blank x [] _ (h x (by simp)), cutW_join (y :: r) (by simp) (fun z hz => h z (by simp [hz]))]; simp

/-! ### Numbers -/
theorem dec_digit (u : Nat) : ∀ c ∈ Lib.decDigits u, 48 ≤ c.toNat ∧ c.toNat ≤ 57 := by
  induction u using Nat.strongRecOn with
  | _ u ih =>
    intro c hc
    unfold Lib.decDigits at hc
    split at hc
    · rename_i h
      simp only [List.mem_singleton] at hc
      subst hc
      rw [UInt8.toNat_ofNat']
      omega
    · rename_i h
      simp only [List.mem_append, List.mem_singleton] at hc
      rcases hc with hc | hc
      · exact ih (u / 10) (by omega) c hc
      · subst hc
        rw [UInt8.toNat_ofNat']
        omega
theorem dec_ne (u : Nat) : Lib.decDigits u ≠ [] := by unfold Lib.decDigits; split <;> simp
theorem parse_append : ∀ (l r : List UInt8) (acc u : Nat), Lib.parseUint10 acc l = .ok u → Lib.parseUint10 acc (l ++ r) = Lib.parseUint10 u r
  | [], r, acc, u, h => by simp only [Lib.parseUint10] at h; injection h with h; subst h; rfl
  | c :: l, r, acc, u, h => by
    rw [List.cons_append]
    rw [Lib.parseUint10] at h
    rw [Lib.parseUint10]
    split at h
    · rename_i h1
      rw [if_pos h1]
      split at h
      · cases h
      · rename_i h2
        rw [if_neg h2]
        split at h
        · cases h
        · rename_i h3
          rw [if_neg h3]
          exact parse_append l r _ u h
    · cases h
theorem parse_one {u d : Nat} (hd : d < 10) (hu : u < 1000000000000000000) : Lib.parseUint10 u [UInt8.ofNat (48 + d)] = .ok (u * 10 + d) := by
  have e : (UInt8.ofNat (48 + d)).toNat = 48 + d := by rw [UInt8.toNat_ofNat']; omega
  unfold Lib.parseUint10
  rw [e, if_pos (by omega), if_neg (by omega), if_neg (by omega)]
  unfold Lib.parseUint10
  congr 1; omega
theorem parse_dec (u : Nat) (hu : u < 1000000000000000000) : Lib.parseUint10 0 (Lib.decDigits u) = .ok u := by
  induction u using Nat.strongRecOn with
  | _ u ih =>
    unfold Lib.decDigits
    split
    · rename_i h; rw [parse_one h (by omega)]; simp
    · rename_i h
      rw [parse_append _ _ 0 (u / 10) (ih (u / 10) (by omega) (by omega)), parse_one (by omega) (by omega)]
      congr 1; omega
theorem atoi_dec (u : Nat) (hu : u < 1000000000000000000) : Lib.atoiAll (Lib.decDigits u) = .ok (u : Int) := by
  have hp := parse_dec u hu
  have hd := dec_digit u
  cases hl : Lib.decDigits u with
  | nil => exact absurd hl (dec_ne u)
  | cons c r =>
    rw [hl] at hp hd
    have hc := hd c (by simp)
    unfold Lib.atoiAll
    simp only []
    rw [if_neg (by omega)]
    unfold Lib.parseMag
    rw [if_neg (by simp), hp]
    simp only []
    rw [if_neg (by omega), if_neg (by omega), if_neg (by omega)]
theorem itoa_pos {k : Int} (h : 0 ≤ k) : Lib.itoa k = Lib.decDigits k.toNat := by unfold Lib.itoa; rw [if_neg (by omega)]
theorem numV_spelt {k : Int} (h0 : 0 ≤ k) (h1 : k ≤ 1000000000000) : numV (spelt k) = some k := by
  have e : (spelt k).data.toList = Lib.decDigits k.toNat := by unfold spelt; simp [itoa_pos h0]
  unfold numV
  rw [e, atoi_dec _ (by omega)]
  simp only []
  rw [Int.toNat_of_nonneg h0, if_pos ⟨h0, h1, rfl⟩]
theorem spelt_plain {k : Int} (h0 : 0 ≤ k) : (32 : UInt8) ∉ (spelt k).data.toList := by
  have e : (spelt k).data.toList = Lib.decDigits k.toNat := by unfold spelt; simp [itoa_pos h0]
  rw [e]
  intro h
  have := (dec_digit _ _ h).1
  exact absurd this (by decide)

/-! ### Units -/
/-- Units that are told from each other by their names. -/
def Good (us : List Unit) : Prop := ∀ u ∈ us, 1 ≤ u.1 ∧ u.1 ≤ 1000000000000 ∧ sizeOf u.2.1 us 0 = u.1 ∧ sizeOf u.2.2 us 0 = u.1 ∧ (32 : UInt8) ∉ u.2.1.data.toList ∧ (32 : UInt8) ∉ u.2.2.data.toList
instance (us : List Unit) : Decidable (Good us) := by unfold Good; infer_instance
theorem good_poles : Good poles := by decide +kernel
theorem good_roods : Good roods := by decide +kernel
theorem word_size {us : List Unit} (hg : Good us) {u : Unit} (hu : u ∈ us) (k : Int) : sizeOf (word k u) us 0 = u.1 := by
  obtain ⟨_, _, h1, h2, _⟩ := hg u hu
  unfold word; split
  · exact h1
  · exact h2
theorem word_plain {us : List Unit} (hg : Good us) {u : Unit} (hu : u ∈ us) (k : Int) : (32 : UInt8) ∉ (word k u).data.toList := by
  obtain ⟨_, _, _, _, h1, h2⟩ := hg u hu
  unfold word; split
  · exact h1
  · exact h2
theorem stepV_part {n c s : Int} (h0 : 0 ≤ n) (h2 : n + c ≤ 1000000000000) (hs : 1 ≤ s) : stepV n (c / s) s = some (n + c / s * s) := by
  have e1 : c / s * s ≤ c := Int.ediv_mul_le c (by omega)
  have e2 : c / s ≤ 1000000000000 / s := Int.ediv_le_ediv (by omega) (by omega)
  unfold stepV
  rw [if_pos ⟨by omega, e2⟩, if_pos (by omega)]
theorem addV_named {us : List Unit} (hg : Good us) : ∀ (vs : List Unit), (∀ v ∈ vs, v ∈ us) → ∀ (c n : Int), 0 ≤ c → 0 ≤ n → n + c ≤ 1000000000000 → addV us (namedL c vs) n = some (n + c - endC c vs)
  | [], _, c, n, _, _, _ => by unfold namedL endC addV; simp
  | v :: vs, hv, c, n, h0, h1, h2 => by
    have hm := hv v (by simp)
    obtain ⟨g1, g2, _⟩ := hg v hm
    have e1 : c / v.1 * v.1 + c % v.1 = c := by rw [Int.mul_comm]; exact Int.mul_ediv_add_emod c v.1
    have e2 : 0 ≤ c % v.1 := Int.emod_nonneg _ (by omega)
    have e3 : 0 ≤ c / v.1 := Int.ediv_nonneg h0 (by omega)
    have e4 : c / v.1 ≤ c := Int.ediv_le_self _ h0
    have e5 : 0 ≤ c / v.1 * v.1 := Int.mul_nonneg e3 (by omega)
    unfold namedL endC
    by_cases hk : c / v.1 > 0
    · rw [if_pos hk]
      have := addV_named hg vs (fun w hw => hv w (by simp [hw])) (c % v.1) (n + c / v.1 * v.1) e2 (by omega) (by omega)
      show addV us (spelt (c / v.1) :: word (c / v.1) v :: namedL (c % v.1) vs) n = _
      rw [addV_some (numV_spelt e3 (by omega)) (word_size hg hm _) (stepV_part h1 h2 g1), this]
      congr 1; omega
    · rw [if_neg hk, List.nil_append]
      have hz : c / v.1 = 0 := by omega
      rw [hz] at e1
      rw [addV_named hg vs (fun w hw => hv w (by simp [hw])) (c % v.1) n e2 h1 (by omega)]
      congr 1; omega
theorem namedL_even (c : Int) (us : List Unit) : (namedL c us).length % 2 = 0 := by
  induction us generalizing c with
  | nil => rfl
  | cons u us ih =>
    have := ih (c % u.1)
    simp only [namedL]
    split <;> simp <;> omega
theorem namedL_plain {us : List Unit} (hg : Good us) : ∀ (vs : List Unit), (∀ v ∈ vs, v ∈ us) → ∀ (c : Int), 0 ≤ c → ∀ x ∈ (namedL c vs).map (·.data.toList), (32 : UInt8) ∉ x
  | [], _, c, _, x, hx => by simp [namedL] at hx
  | v :: vs, hv, c, h0, x, hx => by
    have hm := hv v (by simp)
    obtain ⟨g1, _⟩ := hg v hm
    simp only [namedL, List.map_append, List.mem_append] at hx
    rcases hx with hx | hx
    · split at hx
      · rename_i hk
        simp only [List.map_cons, List.map_nil, List.mem_cons, List.not_mem_nil, or_false] at hx
        rcases hx with rfl | rfl
        · exact spelt_plain (by omega)
        · exact word_plain hg hm _
      · simp at hx
    · exact namedL_plain hg vs (fun w hw => hv w (by simp [hw])) (c % v.1) (Int.emod_nonneg _ (by omega)) x hx
theorem ba_of_list {a b : List ByteArray} (h : a.map (·.data.toList) = b.map (·.data.toList)) : a = b := by
  have hi : ∀ x y : ByteArray, x.data.toList = y.data.toList → x = y := fun x y e => by
    cases x; cases y; simp only [ByteArray.mk.injEq]; exact Array.toList_inj.1 e
  induction a generalizing b with
  | nil => cases b with
    | nil => rfl
    | cons y b => simp at h
  | cons x a ih => cases b with
    | nil => simp at h
    | cons y b =>
      simp only [List.map_cons, List.cons.injEq] at h
      rw [hi x y h.1, ih h.2]
theorem wordsV_named {us : List Unit} (hg : Good us) {c : Int} (h0 : 0 ≤ c) (hne : namedL c us ≠ []) : wordsV (named c us) = namedL c us := by
  apply ba_of_list
  rw [wordsV_cut]
  have e : (named c us).data.toList = Lib.join ((namedL c us).map (·.data.toList)) [32] := by unfold named; rw [if_neg hne]
  rw [e]
  exact cutW_join _ (by simpa using hne) (namedL_plain hg us (fun v hv => hv) c h0)
/-- What is written is read again. -/
theorem readV_named {us : List Unit} {wr : Int → ByteArray} (hg : Good us) {c : Int} (h0 : 0 ≤ c) (h1 : c ≤ 1000000000000) (hw : wr c = named c us) (hend : endC c us = 0) (hz : namedL c us = [] → c = 0 ∧ readV us wr (named c us) = some 0) : readV us wr (named c us) = some c := by
  by_cases hne : namedL c us = []
  · obtain ⟨hc, h⟩ := hz hne
    rw [h, hc]
  · unfold readV
    rw [wordsV_named hg h0 hne, if_pos (namedL_even c us), addV_named hg us (fun v hv => hv) c 0 h0 (by omega) (by omega), hend]
    simp [hw]
theorem namedL_zero {c : Int} (h : 0 ≤ c) : ∀ {us : List Unit}, (∀ u ∈ us, 1 ≤ u.1) → namedL c us = [] → endC c us = c
  | [], _, _ => rfl
  | u :: us, hp, hn => by
    have g1 := hp u (by simp)
    have e1 : c / u.1 * u.1 + c % u.1 = c := by rw [Int.mul_comm]; exact Int.mul_ediv_add_emod c u.1
    have e3 : 0 ≤ c / u.1 := Int.ediv_nonneg h (by omega)
    unfold namedL at hn
    unfold endC
    by_cases hk : c / u.1 > 0
    · rw [if_pos hk] at hn; simp at hn
    · have hz : c / u.1 = 0 := by omega
      rw [hz] at e1
      have e : c % u.1 = c := by omega
      rw [if_neg hk, List.nil_append, e] at hn
      rw [e]
      exact namedL_zero h (fun v hv => hp v (by simp [hv])) hn
theorem end_poles (c : Int) : endC c poles = 0 := by unfold poles; simp only [endC]; omega
theorem end_roods (c : Int) : endC c roods = 0 := by unfold roods; simp only [endC]; omega
theorem lengthV_in {n : Int} (h0 : 0 ≤ n) (h1 : n ≤ 1000000) : lengthV n = named n poles := by unfold lengthV; rw [if_pos ⟨h0, h1⟩]
theorem acresV_in {n : Int} (h0 : 0 ≤ n) (h1 : n ≤ 1000000000000) : acresV n = named n roods := by unfold acresV; rw [if_pos ⟨h0, h1⟩]
theorem links_back {n : Int} (h0 : 0 ≤ n) (h1 : n ≤ 1000000) : readV poles lengthV (lengthV n) = some n := by
  rw [lengthV_in h0 h1]
  refine readV_named good_poles h0 (by omega) (lengthV_in h0 h1) (end_poles n) fun hn => ?_
  have := namedL_zero h0 (us := poles) (fun u hu => (good_poles u hu).1) hn
  rw [end_poles] at this
  obtain rfl : n = 0 := this.symm
  exact ⟨rfl, by decide +kernel⟩
theorem area_back {n : Int} (h0 : 0 ≤ n) (h1 : n ≤ 1000000000000) : readV roods acresV (acresV n) = some n := by
  rw [acresV_in h0 h1]
  refine readV_named good_roods h0 (by omega) (acresV_in h0 h1) (end_roods n) fun hn => ?_
  have := namedL_zero h0 (us := roods) (fun u hu => (good_roods u hu).1) hn
  rw [end_roods] at this
  obtain rfl : n = 0 := this.symm
  exact ⟨rfl, by decide +kernel⟩
theorem readV_wr {us : List Unit} {wr : Int → ByteArray} {s : ByteArray} {n : Int} (h : readV us wr s = some n) : wr n = s := by
  unfold readV at h
  split at h
  · cases ha : addV us (wordsV s) 0 with
    | none => rw [ha] at h; cases h
    | some m =>
      rw [ha] at h
      simp only [Option.bind_some] at h
      split at h
      · cases h; assumption
      · cases h
  · cases h
end Go.Proofs.YthncpapejijloaaGreatDoor.Pl
