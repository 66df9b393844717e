/- Plain words for texts of directions. -/
import Derived.Lib.ItoaNum
import Derived.Test.YthncpapejijloaaGreatDoorPlA
namespace Go.Proofs.YthncpapejijloaaGreatDoor
namespace Pl
theorem dec_len {n : Nat} (h : n < 100) : (Lib.decDigits n).length ≤ 2 := by
  unfold Lib.decDigits; split
  · simp
  · unfold Lib.decDigits; rw [dif_pos (by omega)]; simp
def north : List UInt8 := [110, 111, 114, 116, 104]
def east : List UInt8 := [101, 97, 115, 116]
def south : List UInt8 := [115, 111, 117, 116, 104]
def west : List UInt8 := [119, 101, 115, 116]
def quadT (a : List UInt8) (n : Int) (b : List UInt8) : List UInt8 := a ++ [32] ++ Lib.decDigits n.toNat ++ [32] ++ b
/-- A direction as deeds write it. -/
def quad (d : Int) : List UInt8 :=
  if d % 360 = 0 then north else if d % 360 < 90 then quadT north (d % 360) east else if d % 360 = 90 then east else if d % 360 < 180 then quadT south (180 - d % 360) east
  else if d % 360 = 180 then south else if d % 360 < 270 then quadT south (d % 360 - 180) west else if d % 360 = 270 then west else quadT north (360 - d % 360) west
end Pl
end Go.Proofs.YthncpapejijloaaGreatDoor
