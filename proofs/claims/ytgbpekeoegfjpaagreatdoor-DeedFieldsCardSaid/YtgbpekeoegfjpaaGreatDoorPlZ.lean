/- Plain laws of chapter 03: a field printed. No program. -/
import Derived.WalkKit
import Derived.Lib.Join
import Derived.Test.YtgbpekeoegfjpaaGreatDoorPlY
namespace Go.Proofs.YtgbpekeoegfjpaaGreatDoor
namespace Pl

/-- A line of words. -/
def lineL (ws : List ByteArray) : List UInt8 := Lib.join (ws.map (·.data.toList)) [32] ++ [10]
def staW (s : ByteArray × Int) : List ByteArray := [wStation, s.1, spelt s.2]
def limW (s : ByteArray) : List ByteArray := [wLimit, s]
def stN (f : Fld) (i : Int) : ByteArray := match f.st[i.toNat]? with | some s => s.1 | none => ⟨#[]⟩
def liN (f : Fld) (i : Int) : ByteArray := match f.li[i.toNat]? with | some s => s | none => ⟨#[]⟩
def parW (f : Fld) (p : Par) : List ByteArray := [wParcel, p.name, liN f p.south, stN f p.fr, stN f p.till]
def varW (v : Int × Int) : List ByteArray := [wVariation, spelt v.1, spelt v.2]
/-- The first k lines of a list. -/
def prn {α : Type} (g : α → List ByteArray) (l : List α) (k : Nat) : List UInt8 := (l.take k).flatMap fun x => lineL (g x)
theorem prn_zero {α : Type} (g : α → List ByteArray) (l : List α) : prn g l 0 = [] := by simp [prn]
theorem prn_succ {α : Type} (g : α → List ByteArray) {l : List α} {k : Nat} (h : k < l.length) : prn g l (k + 1) = prn g l k ++ lineL (g l[k]) := by
  unfold prn
  rw [List.take_succ_eq_append_getElem h, List.flatMap_append]
  simp
theorem prn_len {α : Type} (g : α → List ByteArray) (l : List α) (m : Nat) (h : ∀ x ∈ l, (lineL (g x)).length ≤ m) (k : Nat) : (prn g l k).length ≤ k * m := by
  induction k with
  | zero => simp [prn_zero]
  | succ k ih =>
    by_cases hk : k < l.length
    · rw [prn_succ g hk, List.length_append, Nat.add_mul, Nat.one_mul]
      have := h _ (List.getElem_mem hk)
      omega
    · have : prn g l (k + 1) = prn g l k := by unfold prn; rw [List.take_of_length_le (by omega), List.take_of_length_le (by omega)]
      rw [this, Nat.add_mul]
      omega
def printL (f : Fld) : List UInt8 := prn staW f.st f.st.length ++ prn limW f.li f.li.length ++ prn (parW f) f.pa f.pa.length ++ prn varW f.va f.va.length
/-- The source of a field; nothing if it is wrong. -/
def printB (f : Fld) : ByteArray := if fieldE f = 0 then ⟨(printL f).toArray⟩ else ⟨#[]⟩
theorem join2 (a b : List UInt8) : Lib.join [a, b] [32] = a ++ 32 :: b := by simp [Lib.join_cons, Lib.joinTail]
theorem join3 (a b c : List UInt8) : Lib.join [a, b, c] [32] = a ++ 32 :: (b ++ 32 :: c) := by simp [Lib.join_cons, Lib.joinTail]
theorem join5 (a b c d e : List UInt8) : Lib.join [a, b, c, d, e] [32] = a ++ 32 :: (b ++ 32 :: (c ++ 32 :: (d ++ 32 :: e))) := by simp [Lib.join_cons, Lib.joinTail]
theorem parIn_all {S L : Nat} {p : Par} (h : parIn S L p = true) : 0 ≤ p.south ∧ p.south ≤ (L : Int) - 2 ∧ 0 ≤ p.fr ∧ p.fr ≤ (S : Int) - 1 ∧ 0 ≤ p.till ∧ p.till ≤ (S : Int) - 1 := by
  unfold parIn at h
  simp at h
  omega
theorem varsGo_all : ∀ (l : List (Int × Int)) (p : Int), 0 ≤ p → varsGo p l = true → ∀ v ∈ l, (1 ≤ v.1 ∧ v.1 ≤ 3000) ∧ -60 ≤ v.2 ∧ v.2 ≤ 60
  | [], _, _, _, _, hv => by cases hv
  | q :: l, p, hp, h, v, hv => by
    unfold varsGo inB at h
    simp only [Bool.and_eq_true, decide_eq_true_eq] at h
    obtain ⟨⟨h1, h2⟩, h3⟩ := h
    rcases List.mem_cons.1 hv with e | hv
    · subst e; omega
    · exact varsGo_all l q.1 (by omega) h3 v hv
theorem vars_all {l : List (Int × Int)} (h : vars l = 0) : ∀ v ∈ l, (1 ≤ v.1 ∧ v.1 ≤ 3000) ∧ -60 ≤ v.2 ∧ v.2 ≤ 60 := by
  unfold vars err at h
  split at h
  · omega
  · split at h
    · rename_i h1; exact varsGo_all l 0 (Int.le_refl _) h1
    · omega
end Pl
end Go.Proofs.YtgbpekeoegfjpaaGreatDoor
