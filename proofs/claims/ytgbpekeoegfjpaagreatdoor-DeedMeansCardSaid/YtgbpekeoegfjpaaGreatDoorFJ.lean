/- The law DeedMeans, at every input. -/
import Derived.Test.YtgbpekeoegfjpaaGreatDoorProg
import Derived.WalkKit
import Derived.WalkLawsBesides
import Derived.WalkSpells
import Derived.Handy
import Derived.Lib.Hide
import Derived.Great.BuildSlice
import Derived.Deep.QuietTactic
import Derived.BigQuiet
import Derived.Deep.RegionHeld3
import Derived.Deep.DeepCutAuto
import Derived.Test.YtgbpekeoegfjpaaGreatDoorFG
namespace Go.Proofs.YtgbpekeoegfjpaaGreatDoor
open Go.RowKit

theorem deedMeans_w (A1 A2 A3 A4 : Option Addr) (c1 c2 c3 c4 : Nat) (f : Pl.Fld) (c : Pl.Cal) (A : Option Addr) (cy : Nat) (y : List Int) (w : World) (hEn : Env w) (hf : FldS w w.heap.size A1 A2 A3 A4 f) (hc : Caps c1 c2 c3 c4 f) (hk : c.kind ≤ 255) (hy : Ints w w.heap.size A y) (hyc : y.length ≤ cy) (hcm : cy ≤ maxLen) :
    Calls Tryz.prog 7 #[.agg #[.slice A1 f.st.length c1, .slice A2 f.li.length c2, .slice A3 f.pa.length c3, .slice A4 f.va.length c4], .agg #[.int .u8 (c.kind : Int), .int .i64 c.lim, .int .i64 c.oth, .int .i64 c.fr, .int .i64 c.till, .int .i64 c.size, .int .i64 c.er, .int .i64 c.crs.b, .int .i64 c.crs.n, .int .i64 c.crs.l, .int .i64 c.crs.y, .int .i64 c.crs.x, .int .i64 c.crs.s], .slice A y.length cy] w fun e w' => e = .returned (.bool true) ∧ Below w.heap.size w w' := by
  by_cases h : Pl.vast f = true ∨ 130 < y.length ∨ Pl.bounded y = false
  · exact deedMeans_idle A1 A2 A3 A4 c1 c2 c3 c4 f c A cy y w hEn hf hy (by unfold maxLen at hcm; omega) h
  · rw [not_or, not_or] at h
    have hv : Pl.vast f = false := by simpa using h.1
    have hb : Pl.bounded y = true := by simpa using h.2.2
    by_cases hE : Pl.fieldE f = 0
    · exact deedMeans_ok A1 A2 A3 A4 c1 c2 c3 c4 f c A cy y _ _ _ _ _ _ w hEn hf (Pl.vast_small hv) hc hk hy (Lib.hid hv) (by omega) (Lib.hid hb) (Lib.hid hE) ⟨rfl, rfl, rfl, rfl, rfl, rfl⟩
    · exact deedMeans_field A1 A2 A3 A4 c1 c2 c3 c4 f c A cy y _ w hEn hf (Pl.vast_small hv) hc hy (Lib.hid hv) (by omega) (Lib.hid hb) (Lib.hid rfl) hE
end Go.Proofs.YtgbpekeoegfjpaaGreatDoor
