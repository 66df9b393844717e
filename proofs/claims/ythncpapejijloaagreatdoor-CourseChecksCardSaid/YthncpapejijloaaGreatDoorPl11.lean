/- Plain law: reading a number in units. -/
import Derived.Test.YthncpapejijloaaGreatDoorPl10
import Derived.Lib.AtoiAll
import Derived.Lib.AtoiAllCases
import Derived.Lib.Split
namespace Go.Proofs.YthncpapejijloaaGreatDoor.Pl
open Go.RowKit

/-- The number of a word: the word is just what that number is written as. -/
def numV (s : ByteArray) : Option Int :=
  match Lib.atoiAll s.data.toList with
  | .ok v => if 0 ≤ v ∧ v ≤ 1000000000000 ∧ spelt v = s then some v else none
  | _ => none
def sizeOf (b : ByteArray) : List Unit → Int → Int
  | [], sz => sz
  | u :: us, sz => sizeOf b us (if b = u.2.1 ∨ b = u.2.2 then u.1 else sz)
def stepV (n k sz : Int) : Option Int := if 0 < sz ∧ k ≤ 1000000000000 / sz then (if n + k * sz ≤ 1000000000000 then some (n + k * sz) else none) else none
def addV (us : List Unit) : List ByteArray → Int → Option Int
  | [], n => some n
  | a :: b :: r, n => (numV a).bind fun k => (stepV n k (sizeOf b us 0)).bind fun n' => addV us r n'
  | _, _ => none
def wordsV (s : ByteArray) : List ByteArray := Lib.splitB ⟨#[32]⟩ 0 (Lib.countB s ⟨#[32]⟩) s
/-- What reading a number in units comes to. -/
def readV (us : List Unit) (wr : Int → ByteArray) (s : ByteArray) : Option Int :=
  if (wordsV s).length % 2 = 0 then (addV us (wordsV s) 0).bind fun n => if wr n = s then some n else none else none

def poles : List Unit := [(100, ⟨#[99, 104, 97, 105, 110]⟩, ⟨#[99, 104, 97, 105, 110, 115]⟩), (25, ⟨#[112, 111, 108, 101]⟩, ⟨#[112, 111, 108, 101, 115]⟩), (1, ⟨#[108, 105, 110, 107]⟩, ⟨#[108, 105, 110, 107, 115]⟩)]
def roods : List Unit := [(100000, ⟨#[97, 99, 114, 101]⟩, ⟨#[97, 99, 114, 101, 115]⟩), (25000, ⟨#[114, 111, 111, 100]⟩, ⟨#[114, 111, 111, 100, 115]⟩), (625, ⟨#[112, 101, 114, 99, 104]⟩, ⟨#[112, 101, 114, 99, 104, 101, 115]⟩), (1, ⟨#[108, 105, 110, 107]⟩, ⟨#[108, 105, 110, 107, 115]⟩)]
def lengthV (n : Int) : ByteArray := if 0 ≤ n ∧ n ≤ 1000000 then named n poles else ⟨#[]⟩
def acresV (n : Int) : ByteArray := if 0 ≤ n ∧ n ≤ 1000000000000 then named n roods else ⟨#[]⟩
theorem numV_bd {s : ByteArray} {v : Int} (h : numV s = some v) : 0 ≤ v ∧ v ≤ 1000000000000 := by
  unfold numV at h
  split at h
  · split at h
    · cases h; rename_i hc; exact ⟨hc.1, hc.2.1⟩
    · cases h
  · cases h
theorem addV_some {us : List Unit} {a b : ByteArray} {r : List ByteArray} {n k n' z : Int} (hk : numV a = some k) (hz : sizeOf b us 0 = z) (hs : stepV n k z = some n') : addV us (a :: b :: r) n = addV us r n' := by
  subst hz
  simp [addV, hk, hs]
theorem addV_none {us : List Unit} {a b : ByteArray} {r : List ByteArray} {n k z : Int} (hk : numV a = some k) (hz : sizeOf b us 0 = z) (hs : stepV n k z = none) : addV us (a :: b :: r) n = none := by
  subst hz
  simp [addV, hk, hs]
theorem step_bd {kk z : Int} (hk0 : 0 ≤ kk) (hz : 0 < z) (hk : kk ≤ 1000000000000 / z) : 0 ≤ kk * z ∧ kk * z ≤ 1000000000000 :=
  ⟨Int.mul_nonneg hk0 (by omega), Int.mul_le_of_le_ediv hz hk⟩
end Go.Proofs.YthncpapejijloaaGreatDoor.Pl
