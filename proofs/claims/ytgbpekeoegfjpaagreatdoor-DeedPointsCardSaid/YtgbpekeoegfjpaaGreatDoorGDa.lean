/- Walks of the reference: CheckField, Points. -/
import Derived.Test.YtgbpekeoegfjpaaGreatDoorProg
import Derived.WalkKit
import Derived.WalkLawsBesides
import Derived.WalkSpells
import Derived.Handy
import Derived.Lib.Hide
import Derived.Great.BuildSlice
import Derived.Deep.QuietTactic
import Derived.BigQuiet
import Derived.Deep.RegionHeld3
import Derived.Deep.DeepCutAuto
import Derived.Test.YtgbpekeoegfjpaaGreatDoorGC
import Derived.Test.YtgbpekeoegfjpaaGreatDoorM22
namespace Go.Proofs.YtgbpekeoegfjpaaGreatDoor
open Go.RowKit

set_option maxRecDepth 100000 in
set_option maxHeartbeats 2000000 in
theorem checkFieldB_big (A1 A2 A3 A4 : Option Addr) (c1 c2 c3 c4 : Nat) (f : Pl.Fld) (w : World) (_hf : FldS w w.heap.size A1 A2 A3 A4 f) (hm : Small f) (_hc : Caps c1 c2 c3 c4 f) (h1 : ¬ f.N1) :
    Calls Tryz.prog 43 #[.agg #[.slice A1 f.st.length c1, .slice A2 f.li.length c2, .slice A3 f.pa.length c3, .slice A4 f.va.length c4]] w fun e w' => e = .returned (.int .i64 (Pl.fieldE f)) ∧ Below w.heap.size w w' := by
  have hE := Lib.hid (Pl.fieldE_2 h1)
  have h1' : 12 < f.st.length ∨ (f.st.length ≤ 12 ∧ 10 < f.li.length) ∨ (f.st.length ≤ 12 ∧ f.li.length ≤ 10 ∧ 40 < f.pa.length) := by unfold Pl.Fld.N1 at h1; omega
  obtain ⟨m1, m2, m3, m4⟩ := hm
  clear h1
  rcases h1' with h | ⟨h, h'⟩ | ⟨h, h', h''⟩
  all_goals
    go_enter Tryz.func43, Tryz.ntmps43
    go_wp2
    go_ret
    exact ⟨ret_int (by rw [hE.out]), by go_grown⟩
set_option maxRecDepth 100000 in
set_option maxHeartbeats 4000000 in
theorem checkFieldB_few (A1 A2 A3 A4 : Option Addr) (c1 c2 c3 c4 : Nat) (f : Pl.Fld) (w : World) (_hf : FldS w w.heap.size A1 A2 A3 A4 f) (_hm : Small f) (_hc : Caps c1 c2 c3 c4 f) (h1 : f.N1) (h2 : ¬ f.N2) :
    Calls Tryz.prog 43 #[.agg #[.slice A1 f.st.length c1, .slice A2 f.li.length c2, .slice A3 f.pa.length c3, .slice A4 f.va.length c4]] w fun e w' => e = .returned (.int .i64 (Pl.fieldE f)) ∧ Below w.heap.size w w' := by
  have hE := Lib.hid (Pl.fieldE_5 h1 h2)
  have h1' : f.st.length ≤ 12 ∧ f.li.length ≤ 10 ∧ f.pa.length ≤ 40 := by unfold Pl.Fld.N1 at h1; omega
  have h2' : f.st.length < 2 ∨ (2 ≤ f.st.length ∧ f.li.length < 1) := by unfold Pl.Fld.N2 at h2; omega
  obtain ⟨k1, k2, k3⟩ := h1'
  clear h1 h2
  rcases h2' with h | ⟨h, h'⟩
  all_goals
    go_enter Tryz.func43, Tryz.ntmps43
    go_wp2
    go_ret
    exact ⟨ret_int (by rw [hE.out]), by go_grown⟩
set_option maxRecDepth 100000 in
set_option maxHeartbeats 4000000 in
theorem checkFieldB_vars (A1 A2 A3 A4 : Option Addr) (c1 c2 c3 c4 : Nat) (f : Pl.Fld) (w : World) (hf : FldS w w.heap.size A1 A2 A3 A4 f) (hm : Small f) (_hc : Caps c1 c2 c3 c4 f) (h1 : f.N1) (h2 : f.N2) (h3 : Pl.vars f.va ≠ 0) :
    Calls Tryz.prog 43 #[.agg #[.slice A1 f.st.length c1, .slice A2 f.li.length c2, .slice A3 f.pa.length c3, .slice A4 f.va.length c4]] w fun e w' => e = .returned (.int .i64 (Pl.fieldE f)) ∧ Below w.heap.size w w' := by
  have hE := Lib.hid (Pl.fieldE_v h1 h2 h3)
  have h1' : f.st.length ≤ 12 ∧ f.li.length ≤ 10 ∧ f.pa.length ≤ 40 := by unfold Pl.Fld.N1 at h1; omega
  have h2' : 2 ≤ f.st.length ∧ 1 ≤ f.li.length := by unfold Pl.Fld.N2 at h2; omega
  obtain ⟨k1, k2, k3⟩ := h1'
  obtain ⟨k4, k5⟩ := h2'
  obtain ⟨V, hV⟩ : ∃ V, Pl.vars f.va = V := ⟨_, rfl⟩
  have vb := fun W (a : Vars W W.heap.size A4 f.va) => vars_b A4 c4 f.va W a (by have := hm.va; unfold maxLen; omega)
  rw [hV] at vb h3 hE
  have q0 : (V != 0) = true := by simpa using h3
  clear h1 h2 hV h3
  have kb := heap_alloc_new w (.cells #[.slice A1 f.st.length c1, .slice A2 f.li.length c2, .slice A3 f.pa.length c3, .slice A4 f.va.length c4] 28)
  go_enter Tryz.func43, Tryz.ntmps43
  go_wp2_with (go_at_call 112; refine (vb _ (hf.va.up (by go_grown))).mono ?_; rintro e w1 ⟨rfl, hx⟩; have kb := (hx.block (w.heap.size) (by first | exact (lO kb) | omega | (simp; done) | (simp; omega))).trans (by first | exact kb | exact (Below.heap_alloc _ _ _ (lO kb)).trans kb); obtain ⟨hckb, hfkb⟩ := blk_cells kb; have hltkb := (lO kb); have hall : Below w.heap.size w w1 := Below.trans (by go_grown) (hx.mono (by go_size)); have hsz : w.heap.size ≤ w1.heap.size := hall.size; clear hx)
  go_ret
  exact ⟨ret_int (by rw [hE.out]), by go_grown⟩
theorem checkFieldB_h (A1 A2 A3 A4 : Option Addr) (c1 c2 c3 c4 : Nat) (f : Pl.Fld) (E : Int) (w : World) (hE : Hid (Pl.fieldE f = E)) (hf : FldS w w.heap.size A1 A2 A3 A4 f) (hm : Small f) (hc : Caps c1 c2 c3 c4 f) :
    Calls Tryz.prog 43 #[.agg #[.slice A1 f.st.length c1, .slice A2 f.li.length c2, .slice A3 f.pa.length c3, .slice A4 f.va.length c4]] w fun e w' => e = .returned (.int .i64 E) ∧ Below w.heap.size w w' := by
  rw [← hE.out]
  by_cases h1 : f.N1
  · by_cases h2 : f.N2
    · by_cases h3 : Pl.vars f.va = 0
      · exact checkFieldB_rest A1 A2 A3 A4 c1 c2 c3 c4 f w hf hm hc h1 h2 h3
      · exact checkFieldB_vars A1 A2 A3 A4 c1 c2 c3 c4 f w hf hm hc h1 h2 h3
    · exact checkFieldB_few A1 A2 A3 A4 c1 c2 c3 c4 f w hf hm hc h1 h2
  · exact checkFieldB_big A1 A2 A3 A4 c1 c2 c3 c4 f w hf hm hc h1
theorem PointsB_h (A1 A2 A3 A4 : Option Addr) (c1 c2 c3 c4 : Nat) (f : Pl.Fld) (P : Int) (w : World) (h : Hid ((if Pl.fieldE f = 0 then 1 + ((f.li.length : Nat) : Int) * (f.st.length : Nat) else 0) = P)) (hf : FldS w w.heap.size A1 A2 A3 A4 f) (hm : Small f) (hc : Caps c1 c2 c3 c4 f) :
    Calls Tryz.prog 46 #[.agg #[.slice A1 f.st.length c1, .slice A2 f.li.length c2, .slice A3 f.pa.length c3, .slice A4 f.va.length c4]] w fun e w' => e = .returned (.int .i64 P) ∧ Below w.heap.size w w' := by
  have kb := heap_alloc_new w (.cells #[.slice A1 f.st.length c1, .slice A2 f.li.length c2, .slice A3 f.pa.length c3, .slice A4 f.va.length c4] 28)
  obtain ⟨E, hE⟩ : ∃ E, Pl.fieldE f = E := ⟨_, rfl⟩
  have HE := Lib.hid hE
  by_cases h0 : E = 0
  · subst h0
    have hok := Pl.fieldE_ok hE
    have b1 := hok.li10
    have b2 := hok.st12
    obtain ⟨m0, m1⟩ := mul_bd (l := (f.li.length : Int)) (S := (f.st.length : Int)) (by omega) (by omega) (by omega) (by omega)
    have hP : Hid (1 + ((f.li.length : Nat) : Int) * (f.st.length : Nat) = P) := Lib.hid (by have := h.out; rw [if_pos hE] at this; exact this)
    clear hE hok h
    go_enter Tryz.func46, Tryz.ntmps46
    go_wp2_with (go_at_call 43; refine (checkFieldB_h A1 A2 A3 A4 c1 c2 c3 c4 f 0 _ HE (hf.up (by go_grown)) hm hc).mono ?_; rintro e w1 ⟨rfl, hx⟩; have kb := (hx.block (w.heap.size) (by first | exact (lO kb) | omega | (simp; done) | (simp; omega))).trans (by first | exact kb | exact (Below.heap_alloc _ _ _ (lO kb)).trans kb); obtain ⟨hckb, hfkb⟩ := blk_cells kb; have hltkb := (lO kb); have hall : Below w.heap.size w w1 := Below.trans (by go_grown) (hx.mono (by go_size)); have hsz : w.heap.size ≤ w1.heap.size := hall.size; clear hx)
    go_ret
    exact ⟨by rw [hP.out]; try rfl, hall⟩
  · have q0 : (E != 0) = true := by simpa using h0
    have hP : Hid (0 = P) := Lib.hid (by have := h.out; rw [hE, if_neg h0] at this; exact this)
    clear hE h
    go_enter Tryz.func46, Tryz.ntmps46
    go_wp2_with (go_at_call 43; refine (checkFieldB_h A1 A2 A3 A4 c1 c2 c3 c4 f E _ HE (hf.up (by go_grown)) hm hc).mono ?_; rintro e w1 ⟨rfl, hx⟩; have kb := (hx.block (w.heap.size) (by first | exact (lO kb) | omega | (simp; done) | (simp; omega))).trans (by first | exact kb | exact (Below.heap_alloc _ _ _ (lO kb)).trans kb); obtain ⟨hckb, hfkb⟩ := blk_cells kb; have hltkb := (lO kb); have hall : Below w.heap.size w w1 := Below.trans (by go_grown) (hx.mono (by go_size)); have hsz : w.heap.size ≤ w1.heap.size := hall.size; clear hx)
    go_ret
    exact ⟨by rw [hP.out]; try rfl, hall⟩
end Go.Proofs.YtgbpekeoegfjpaaGreatDoor
