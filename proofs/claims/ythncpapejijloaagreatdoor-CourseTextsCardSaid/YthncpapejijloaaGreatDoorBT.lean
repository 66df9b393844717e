/- Walks of the reference: numbers and measures written. -/
import Derived.Test.YthncpapejijloaaGreatDoorProg
import Derived.WalkKit
import Derived.WalkLawsBesides
import Derived.WalkSpells
import Derived.Handy
import Derived.Lib.Hide
import Derived.Great.BuildSlice
import Derived.Deep.QuietTactic
import Derived.BigQuiet
import Derived.Deep.RegionHeld3
import Derived.Deep.DeepCutAuto
import Derived.Laws.BytesArg
import Derived.Test.YthncpapejijloaaGreatDoorAH
import Derived.Test.YthncpapejijloaaGreatDoorPlU
namespace Go.Proofs.YthncpapejijloaaGreatDoor
open Go.RowKit

set_option maxRecDepth 100000 in
theorem digits_one (n : Nat) (w : World) (h : n < 10) : Calls Tryz.prog 98 #[.int .i64 n] w fun e w' => e = .returned (.string ⟨(Lib.decDigits n).toArray⟩) ∧ Below w.heap.size w w' := by
  have e := Lib.decDigits_one h
  have H := Lib.hid e; clear e
  have hconv := run_convert_bytes_arg (P := Tryz.prog) (w.alloc (.cells #[.int .u8 (48 + (n : Int))] 5)) 129 5 Tryz.underlying129 Tryz.underlying5 w.heap.size 0 1 1 [48 + (n : Int)] rfl (by
    intro i hi
    obtain rfl : i = 0 := by omega
    rw [(blk_cells (heap_alloc_new _ _)).1]; rfl) 9 Tryz.underlying9
  go_enter Tryz.func98, Tryz.ntmps98
  go_wp2
  go_ret
  refine ⟨?_, by go_grown⟩
  rw [H.out]
  have e1 : (48 + (n : Int)).toNat = 48 + n := by omega
  simp [strOfNums, e1]
set_option maxRecDepth 100000 in
theorem digits_b (n : Nat) (w : World) (h : n < 1000000000000000000) : Calls Tryz.prog 98 #[.int .i64 n] w fun e w' => e = .returned (.string ⟨(Lib.decDigits n).toArray⟩) ∧ Below w.heap.size w w' := by
  induction n using Nat.strongRecOn generalizing w with
  | _ n ih =>
    by_cases h10 : n < 10
    · exact digits_one n w h10
    · have e : Lib.decDigits n = Lib.decDigits (n / 10) ++ Lib.decDigits (n % 10) := by
        rw [Lib.decDigits_one (show n % 10 < 10 by omega)]
        conv => lhs; unfold Lib.decDigits
        rw [dif_neg h10]
      have H := Lib.hid e; clear e
      have l1 : (Lib.decDigits (n / 10)).length ≤ 20 := by rw [Lib.decDigits_length]; exact Lib.nDigits_le20 _ (by omega)
      have l2 : (Lib.decDigits (n % 10)).length ≤ 20 := by rw [Lib.decDigits_length]; exact Lib.nDigits_le20 _ (by omega)
      have i1 := Lib.hid fun W => ih (n / 10) (by omega) W (by omega)
      have i2 := Lib.hid fun W => digits_one (n % 10) W (by omega)
      clear ih
      go_enter Tryz.func98, Tryz.ntmps98
      go_wp2_with fail
      refine (i1.out _).mono ?_
      rintro e w1 ⟨rfl, hx⟩
      have hb1 : Below w.heap.size w w1 := Below.trans (by go_grown) (hx.mono (by go_size))
      have hsz1 := hb1.size
      clear hx
      go_wp2_with fail
      refine (i2.out _).mono ?_
      rintro e w2 ⟨rfl, hx⟩
      have hb2 : Below w.heap.size w w2 := Below.trans (by go_grown) (hx.mono (by go_size))
      clear hx
      go_wp2
      go_ret
      exact ⟨by rw [H.out]; simp [ba_append], hb2⟩
end Go.Proofs.YthncpapejijloaaGreatDoor
