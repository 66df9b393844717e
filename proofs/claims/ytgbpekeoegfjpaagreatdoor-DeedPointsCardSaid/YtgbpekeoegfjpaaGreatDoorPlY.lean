/- Plain laws of chapter 03: parcels that touch a parcel. No program. -/
import Derived.WalkKit
import Derived.Test.YtgbpekeoegfjpaaGreatDoorM04
namespace Go.Proofs.YtgbpekeoegfjpaaGreatDoor
open Go.RowKit
/-- An old block stands. -/
theorem kA {w w' : World} {g : Nat} {o : Obj} (hx : Below w.heap.size w w') (k : w.heap[g]? = some o) : w'.heap[g]? = some o := (hx.block g (lO k)).trans k
namespace Pl

/-- Whether a parcel touches another one, as the program looks at it. -/
def adjB (p q : Par) : Bool := (decide (p.south = q.south) && (decide (p.fr = q.till) || decide (p.till = q.fr))) || (inB (p.south - q.south) (-1) 1 && (!decide (p.south = q.south) && decide (0 < com2 p q)))
/-- The parcels, of the first n, that touch a parcel. -/
def adjN (f : Fld) (p : Par) (n : Nat) : List Int := ((List.range n).filter fun i => match f.pa[i]? with | some q => adjB p q | none => false).map fun (i : Nat) => (i : Int)
theorem adjN_yes {f : Fld} {p : Par} {n : Nat} (h : n < f.pa.length) (hb : adjB p f.pa[n] = true) : adjN f p (n + 1) = adjN f p n ++ [(n : Int)] := by
  unfold adjN
  rw [List.range_succ, List.filter_append, List.map_append]
  simp [List.getElem?_eq_getElem h, hb]
theorem adjN_no {f : Fld} {p : Par} {n : Nat} (h : n < f.pa.length) (hb : adjB p f.pa[n] = false) : adjN f p (n + 1) = adjN f p n := by
  unfold adjN
  rw [List.range_succ, List.filter_append, List.map_append]
  simp [List.getElem?_eq_getElem h, hb]
theorem adjN_len (f : Fld) (p : Par) (n : Nat) : (adjN f p n).length ≤ n := by
  unfold adjN
  rw [List.length_map]
  exact Nat.le_trans (List.length_filter_le _ _) (by simp)
/-- The first parcels of a valid field go from west to east. -/
theorem apart_fr : ∀ (l d : List Par), apart d l = true → ∀ p ∈ l, p.fr < p.till
  | [], _, _, _, hp => by cases hp
  | p :: l, d, h, q, hq => by
    unfold apart at h
    simp only [Bool.and_eq_true, decide_eq_true_eq] at h
    rcases List.mem_cons.1 hq with e | hq
    · rw [e]; exact h.1.1
    · exact apart_fr l _ h.2 q hq
theorem adjB_self {p : Par} (h : p.fr < p.till) : adjB p p = false := by
  unfold adjB
  simp
  omega
/-- As the reference looks at it. -/
theorem adjB_ref (p q : Par) : adjB p q = ((decide (p.south = q.south) && (decide (p.till = q.fr) || decide (q.till = p.fr))) || ((decide (p.south = q.south + 1) || decide (q.south = p.south + 1)) && decide (1 < max 0 (com2 p q + 1)))) := by
  unfold adjB inB
  generalize com2 p q = c
  rw [Bool.eq_iff_iff]
  simp only [Bool.or_eq_true, Bool.and_eq_true, decide_eq_true_eq, Bool.not_eq_true', decide_eq_false_iff_not]
  omega
noncomputable def adjoinV (f : Fld) (k : Int) : List Int := if fieldE f = 0 then (if inB k 0 ((f.pa.length : Int) - 1) = true then (match f.pa[k.toNat]? with | some p => adjN f p f.pa.length | none => []) else []) else []
noncomputable def adjoinE (f : Fld) (k : Int) : Int := if fieldE f = 0 then (if inB k 0 ((f.pa.length : Int) - 1) = true then 0 else 1) else fieldE f
theorem adjoinV_len (f : Fld) (k : Int) : (adjoinV f k).length ≤ f.pa.length := by
  unfold adjoinV
  split
  · split
    · split
      · exact adjN_len f _ _
      · exact Nat.zero_le _
    · exact Nat.zero_le _
  · exact Nat.zero_le _
end Pl
end Go.Proofs.YtgbpekeoegfjpaaGreatDoor
