/- Plain law: a number in units, as deeds write it. -/
import Derived.Lib.ItoaNum
import Derived.Lib.ItoaLen
import Derived.Lib.Join
import Derived.Test.YthncpapejijloaaGreatDoorShelf
import Derived.WalkKit
import Derived.Handy
namespace Go.Proofs.YthncpapejijloaaGreatDoor.Pl
open Go.RowKit


abbrev Unit := Int × ByteArray × ByteArray
def word (k : Int) (u : Unit) : ByteArray := if k = 1 then u.2.1 else u.2.2
def spelt (k : Int) : ByteArray := ⟨(Lib.itoa k).toArray⟩
/-- The words of a number in units. -/
def namedL (c : Int) : List Unit → List ByteArray
  | [] => []
  | u :: us => (if c / u.1 > 0 then [spelt (c / u.1), word (c / u.1) u] else []) ++ namedL (c % u.1) us
def endC (c : Int) : List Unit → Int
  | [] => c
  | u :: us => endC (c % u.1) us
theorem part_eq {c s : Int} (h0 : 0 ≤ c) (h1 : c ≤ 1000000000000) (hs : 1 ≤ s) :
    wrap64 (c.tdiv s) = c / s ∧ c.tmod s = c % s ∧ 0 ≤ c / s ∧ c / s ≤ 1000000000000 ∧ 0 ≤ c % s ∧ c % s ≤ 1000000000000 := by
  rw [Int.tdiv_eq_ediv_of_nonneg h0, Int.tmod_eq_emod_of_nonneg h0]
  have k1 : 0 ≤ c / s := Int.ediv_nonneg h0 (by omega)
  have k2 : c / s ≤ c := Int.ediv_le_self _ h0
  have k3 : 0 ≤ c % s := Int.emod_nonneg _ (by omega)
  have k4 : c % s ≤ c := by
    have := Int.mul_ediv_add_emod c s
    have := Int.mul_nonneg (show (0:Int) ≤ s by omega) k1
    omega
  have e : wrap64 (c / s) = c / s := IntWalk.wrap64_in _ ⟨by omega, by omega⟩
  rw [e]
  exact ⟨rfl, rfl, k1, by omega, k3, by omega⟩
theorem namedL_len (c : Int) (us : List Unit) : (namedL c us).length ≤ 2 * us.length := by
  induction us generalizing c with
  | nil => simp [namedL]
  | cons u us ih =>
    have := ih (c % u.1)
    simp only [namedL]
    split <;> simp <;> omega
/-- What a number in units is called. -/
def named (c : Int) (us : List Unit) : ByteArray :=
  if namedL c us = [] then ⟨#[48, 32]⟩ ++ ((us.getLast?.map (·.2.2)).getD ⟨#[]⟩) else ⟨(Lib.join ((namedL c us).map (·.data.toList)) [32]).toArray⟩
theorem lens_le {xs : List (List UInt8)} {N : Nat} (h : ∀ x ∈ xs, x.length ≤ N) : Lib.lens xs ≤ N * xs.length := by
  induction xs with
  | nil => simp [Lib.lens]
  | cons x xs ih =>
    have := ih (fun y hy => h y (by simp [hy]))
    have := h x (by simp)
    simp only [Lib.lens, List.map_cons, List.sum_cons, List.length_cons, Nat.mul_add] at *
    omega
theorem join_le {xs : List (List UInt8)} {N : Nat} (sep : List UInt8) (h : ∀ x ∈ xs, x.length ≤ N) : (Lib.join xs sep).length ≤ sep.length * xs.length + N * xs.length := by
  cases xs with
  | nil => simp [Lib.join_nil]
  | cons x r =>
    have := lens_le h
    rw [Lib.join_length]
    have : sep.length * r.length ≤ sep.length * (x :: r).length := Nat.mul_le_mul_left _ (by simp)
    omega
theorem namedL_sizes {c : Int} {us : List Unit} (h0 : 0 ≤ c) (h1 : c ≤ 1000000000000) (hpos : ∀ u ∈ us, 1 ≤ u.1) (hs : ∀ u ∈ us, u.2.1.size ≤ 100 ∧ u.2.2.size ≤ 100) : ∀ x ∈ namedL c us, x.size ≤ 100 := by
  induction us generalizing c with
  | nil => simp [namedL]
  | cons u us ih =>
    obtain ⟨_, _, k1, k2, k3, k4⟩ := part_eq h0 h1 (hpos u (by simp))
    have h := ih k3 k4 (fun v hv => hpos v (by simp [hv])) (fun v hv => hs v (by simp [hv]))
    intro x hx
    simp only [namedL, List.mem_append] at hx
    rcases hx with hx | hx
    · split at hx
      · simp only [List.mem_cons, List.not_mem_nil, or_false] at hx
        rcases hx with rfl | rfl
        · have := Lib.itoa_length_le (c / u.1) (by omega) (by omega)
          simp only [spelt, ByteArray.size, List.size_toArray]
          omega
        · have := hs u (by simp)
          unfold word
          split <;> omega
      · simp at hx
    · exact h x hx
end Go.Proofs.YthncpapejijloaaGreatDoor.Pl
