/- Walks of the small functions of course: checks, sines, roots. -/
import Derived.Test.YthncpapejijloaaGreatDoorProg
import Derived.WalkKit
import Derived.WalkLawsBesides
import Derived.WalkSpells
import Derived.Handy
import Derived.Lib.Hide
import Derived.Great.BuildSlice
import Derived.Deep.QuietTactic
import Derived.BigQuiet
import Derived.Deep.RegionHeld3
import Derived.Deep.DeepCutAuto
import Derived.Test.YthncpapejijloaaGreatDoorPlA
namespace Go.Proofs.YthncpapejijloaaGreatDoor
open Go.RowKit

theorem ret_int {k : IntKind} {a b : Int} (h : a = b) : Ending.returned (.int k a) = .returned (.int k b) := by rw [h]
theorem ret_bool {a b : Bool} (h : a = b) : Ending.returned (.bool a) = .returned (.bool b) := by rw [h]

theorem in_a (x a b : Int) (w : World) :
    Calls Tryz.prog 87 #[.int .i64 x, .int .i64 a, .int .i64 b] w fun e w' => e = .returned (.bool (Pl.inB x a b)) ∧ w = w' := by
  go_enter Tryz.func87, Tryz.ntmps87
  go_wp2
  all_goals go_ret
  all_goals exact ⟨ret_bool (by grind [Pl.inB]), rfl⟩
theorem right_a (x : Bool) (w : World) :
    Calls Tryz.prog 86 #[.bool x] w fun e w' => e = .returned (.int .i64 (Pl.err x)) ∧ w = w' := by
  cases x
  all_goals
    go_enter Tryz.func86, Tryz.ntmps86
    go_wp2
    go_ret
    exact ⟨rfl, rfl⟩
theorem chain_a (x s : Int) (w : World) :
    Calls Tryz.prog 67 #[.agg #[.int .i64 x, .int .i64 s]] w fun e w' => e = .returned (.int .i64 (Pl.err (Pl.chainOk x s))) ∧ Below w.heap.size w w' := by
  go_enter Tryz.func67, Tryz.ntmps67
  go_wp2_with (first | (go_at_call 87; refine (in_a _ _ _ _).mono ?_; rintro e w' ⟨rfl, rfl⟩) | (go_at_call 86; refine (right_a _ _).mono ?_; rintro e w' ⟨rfl, rfl⟩))
  all_goals go_ret
  all_goals exact ⟨ret_int (by grind [Pl.inB, Pl.err, Pl.chainOk]), by go_grown⟩
theorem chain_b (x s : Int) (w : World) :
    Calls Tryz.prog 68 #[.agg #[.int .i64 x, .int .i64 s]] w fun e w' => e = .returned (.int .i64 (Pl.err (Pl.chainOk x s))) ∧ Below w.heap.size w w' := by
  go_enter Tryz.func68, Tryz.ntmps68
  go_wp2
  all_goals go_ret
  all_goals exact ⟨ret_int (by grind [Pl.err, Pl.chainOk]), by go_grown⟩
theorem norm_a (d : Int) (w : World) :
    Calls Tryz.prog 21 #[.int .i64 d] w fun e w' => e = .returned (.int .i64 (d % 360)) ∧ w = w' := by
  go_enter Tryz.func21, Tryz.ntmps21
  go_wp2
  go_ret
  exact ⟨ret_int (by rw [Pl.tmod360 d]; unfold wrap64; split <;> (rw [Int.tmod_eq_emod]; split <;> omega)), rfl⟩
theorem norm_b (d : Int) (w : World) :
    Calls Tryz.prog 22 #[.int .i64 d] w fun e w' => e = .returned (.int .i64 (d % 360)) ∧ w = w' := by
  have e0 := Pl.tmod360 d
  have H := Lib.hid e0; clear e0
  go_enter Tryz.func22, Tryz.ntmps22
  go_wp2
  all_goals go_ret
  all_goals exact ⟨ret_int (by have e0 := H.out; (try unfold wrap64); grind), rfl⟩
theorem course_a (b n l y x s : Int) (w : World) :
    Calls Tryz.prog 43 #[.agg #[.int .i64 b, .int .i64 n, .int .i64 l, .int .i64 y, .int .i64 x, .int .i64 s]] w fun e w' => e = .returned (.int .i64 (Pl.err (Pl.courseOk b n l y x s))) ∧ Below w.heap.size w w' := by
  go_enter Tryz.func43, Tryz.ntmps43
  go_wp2_with (first | (go_at_call 87; refine (in_a _ _ _ _).mono ?_; rintro e w' ⟨rfl, rfl⟩) | (go_at_call 86; refine (right_a _ _).mono ?_; rintro e w' ⟨rfl, rfl⟩) | (go_at_call 67; refine (chain_a _ _ _).mono ?_; rintro e w1 ⟨rfl, hx1⟩; have hb1 : Below w.heap.size w w1 := Below.trans (by go_grown) (hx1.mono (by go_size)); clear hx1; have hsz1 : w.heap.size ≤ w1.heap.size := hb1.size))
  all_goals go_ret
  all_goals exact ⟨ret_int (by grind [Pl.inB, Pl.err, Pl.courseOk]), by go_grown⟩
theorem course_b (b n l y x s : Int) (w : World) :
    Calls Tryz.prog 69 #[.agg #[.int .i64 b, .int .i64 n, .int .i64 l, .int .i64 y, .int .i64 x, .int .i64 s]] w fun e w' => e = .returned (.int .i64 (Pl.err (Pl.courseOk b n l y x s))) ∧ Below w.heap.size w w' := by
  go_enter Tryz.func69, Tryz.ntmps69
  go_wp2_with (first | (go_at_call 68; refine (chain_b _ _ _).mono ?_; rintro e w1 ⟨rfl, hx1⟩; have hb1 : Below w.heap.size w w1 := Below.trans (by go_grown) (hx1.mono (by go_size)); clear hx1; have hsz1 : w.heap.size ≤ w1.heap.size := hb1.size))
  all_goals go_ret
  all_goals exact ⟨ret_int (by grind [Pl.inB, Pl.err, Pl.courseOk]), by go_grown⟩
end Go.Proofs.YthncpapejijloaaGreatDoor

namespace Go.Proofs.YthncpapejijloaaGreatDoor
open Go.RowKit

def tabV : Array Value := (Pl.tab.map (Value.int .i64)).toArray
theorem tabV_at (n : Nat) (h : n < 91) : tabV[n]? = some (.int .i64 (Pl.tab[n]?.getD 0)) := by
  have hl : Pl.tab.length = 91 := by decide
  simp [tabV, List.getElem?_map, List.getElem?_eq_getElem (show n < Pl.tab.length by omega)]
theorem info_int : (Tryz.prog.info? 3).map (fun i => (i.zero, i.size, i.bytes)) = some (some (.int .i64 0), 1, 8) := by kernel_rfl
theorem idx_tab (m : Int) (h0 : 0 ≤ m) (h1 : m ≤ 90) (w : World) : (Instr.index 74 (.agg tabV) (.int .i64 m)).run Tryz.prog w = .ok (.int .i64 (Pl.tab[m.toNat]?.getD 0)) w := by
  obtain ⟨i, hi, _, h2, _⟩ := info_parts info_int
  obtain ⟨n, rfl⟩ := Int.eq_ofNat_of_zero_le h0
  have h3 := tabV_at n (by omega)
  have h4 : n < 91 := by omega
  simp [Instr.index, asIntOf, part, sizeOf, typeInfo, go_sem, run_underlying Tryz.underlying74, hi, h2, h3, h4]


theorem below_setRow {B : Nat} {a w : World} (h : Below B a w) {g : Nat} (hg : B ≤ g) (cs : Array Value) : Below B a (w.setRow g cs) :=
  h.trans ⟨rfl, rfl, rfl, by simp, fun k hk => by
    simp only [World.setRow, Array.getElem?_modify]
    rw [if_neg (by omega)]⟩
set_option maxRecDepth 100000 in
theorem sines_a (w : World) : Calls Tryz.prog 72 #[] w fun e w' => e = .returned (.agg tabV) ∧ Below w.heap.size w w' := by
  go_enter Tryz.func72, Tryz.ntmps72
  go_wp2_with (first
    | (refine wpList_buildFlatArr rfl 74 3 91 _ rfl .i64 Pl.tab Tryz.underlying74 (by kernel_rfl) (by kernel_rfl) (by kernel_rfl) ?_)
    | (refine wpList_store_row rfl 74 _ _ rfl w.heap.size tabV rfl rfl 74 _ (heap_alloc_new _ _) (by kernel_rfl) (by kernel_rfl) (by kernel_rfl) ?_))
  refine bodyPost_ret (results_cell_row rfl _ _ w.heap.size 74 tabV (0, 0) _ rfl (setRow_heap _ _ _ _ _ _ (heap_alloc_new _ _)) Tryz.underlying74 rfl (by kernel_rfl)) rfl ⟨rfl, ?_⟩
  exact below_setRow ((Below.refl _ _).alloc (Nat.le_refl _) _) (Nat.le_refl _) _
set_option maxRecDepth 100000 in
theorem sines_b (w : World) : Calls Tryz.prog 73 #[] w fun e w' => e = .returned (.slice (some ⟨w.heap.size, 0, none⟩) 91 91) ∧ w.alloc (.cells tabV 3) = w' := by
  go_enter Tryz.func73, Tryz.ntmps73
  go_wp2_with (refine wpList_buildFlat rfl 45 3 91 _ rfl .i64 Pl.tab Tryz.underlying45 (by kernel_rfl) (by kernel_rfl) (by kernel_rfl) (by omega) (by omega) (by kernel_rfl) ?_)
  go_ret
  exact ⟨rfl, rfl⟩

/-- Sin at 0 to 180. -/
theorem sinh_a (d : Int) (w : World) (h0 : 0 ≤ d) (h1 : d ≤ 180) : Calls Tryz.prog 23 #[.int .i64 d] w fun e w' => e = .returned (.int .i64 (Pl.sinH d)) ∧ Below w.heap.size w w' := by
  have e0 : d % 360 = d := by omega
  have H := Lib.hid e0; clear e0
  by_cases hd : d ≤ 90
  · have hix := fun w => idx_tab d h0 hd w
    go_enter Tryz.func23, Tryz.ntmps23
    go_wp2_with (go_at_call 21; refine (norm_a _ _).mono ?_; rintro e w' ⟨rfl, rfl⟩; rw [H.out])
    go_wp2_with (go_at_call 72; refine (sines_a _).mono ?_; rintro e w1 ⟨rfl, hx1⟩; have hb1 : Below w.heap.size w w1 := Below.trans (by go_grown) (hx1.mono (by go_size)); clear hx1; have hsz1 : w.heap.size ≤ w1.heap.size := hb1.size)
    go_ret
    exact ⟨ret_int (by unfold Pl.sinH; rw [if_pos hd]), hb1⟩
  · have hix := fun w => idx_tab (180 - d) (by omega) (by omega) w
    go_enter Tryz.func23, Tryz.ntmps23
    go_wp2_with (go_at_call 21; refine (norm_a _ _).mono ?_; rintro e w' ⟨rfl, rfl⟩; rw [H.out])
    go_wp2_with (go_at_call 72; refine (sines_a _).mono ?_; rintro e w1 ⟨rfl, hx1⟩; have hb1 : Below w.heap.size w w1 := Below.trans (by go_grown) (hx1.mono (by go_size)); clear hx1; have hsz1 : w.heap.size ≤ w1.heap.size := hb1.size)
    go_ret
    exact ⟨ret_int (by unfold Pl.sinH; rw [if_neg (by omega)]), hb1⟩
theorem sin_range (d : Int) : 0 ≤ d % 360 ∧ d % 360 < 360 := by omega
theorem sin_a (d : Int) (w : World) : Calls Tryz.prog 23 #[.int .i64 d] w fun e w' => e = .returned (.int .i64 (Pl.sin d)) ∧ Below w.heap.size w w' := by
  obtain ⟨h0, h1⟩ := sin_range d
  by_cases hd : d % 360 ≤ 90
  · have hix := fun w => idx_tab (d % 360) (by omega) (by omega) w
    go_enter Tryz.func23, Tryz.ntmps23
    go_wp2_with (first | (go_at_call 21; refine (norm_a _ _).mono ?_; rintro e w' ⟨rfl, rfl⟩) | (go_at_call 72; refine (sines_a _).mono ?_; rintro e w1 ⟨rfl, hx1⟩; have hb1 : Below w.heap.size w w1 := Below.trans (by go_grown) (hx1.mono (by go_size)); clear hx1; have hsz1 : w.heap.size ≤ w1.heap.size := hb1.size))
    go_ret
    exact ⟨ret_int (by unfold Pl.sin Pl.sinH; rw [if_pos (by omega), if_pos hd]), hb1⟩
  by_cases hd2 : d % 360 ≤ 180
  · have hix := fun w => idx_tab (180 - d % 360) (by omega) (by omega) w
    go_enter Tryz.func23, Tryz.ntmps23
    go_wp2_with (first | (go_at_call 21; refine (norm_a _ _).mono ?_; rintro e w' ⟨rfl, rfl⟩) | (go_at_call 72; refine (sines_a _).mono ?_; rintro e w1 ⟨rfl, hx1⟩; have hb1 : Below w.heap.size w w1 := Below.trans (by go_grown) (hx1.mono (by go_size)); clear hx1; have hsz1 : w.heap.size ≤ w1.heap.size := hb1.size))
    go_ret
    exact ⟨ret_int (by unfold Pl.sin Pl.sinH; rw [if_pos (by omega), if_neg (by omega)]), hb1⟩
  · obtain ⟨h2, h3⟩ := Pl.sinH_bd (d % 360 - 180)
    go_enter Tryz.func23, Tryz.ntmps23
    go_wp2_with (first | (go_at_call 21; refine (norm_a _ _).mono ?_; rintro e w' ⟨rfl, rfl⟩) | (go_at_call 23; refine (sinh_a _ _ (by omega) (by omega)).mono ?_; rintro e w1 ⟨rfl, hx1⟩; have hb1 : Below w.heap.size w w1 := Below.trans (by go_grown) (hx1.mono (by go_size)); clear hx1; have hsz1 : w.heap.size ≤ w1.heap.size := hb1.size))
    go_ret
    exact ⟨ret_int (by unfold Pl.sin; rw [if_neg (by omega)]), hb1⟩
theorem cos_a (d : Int) (w : World) : Calls Tryz.prog 25 #[.int .i64 d] w fun e w' => e = .returned (.int .i64 (Pl.cos d)) ∧ Below w.heap.size w w' := by
  obtain ⟨h0, h1⟩ := sin_range d
  go_enter Tryz.func25, Tryz.ntmps25
  go_wp2_with (first | (go_at_call 21; refine (norm_a _ _).mono ?_; rintro e w' ⟨rfl, rfl⟩) | (go_at_call 23; refine (sin_a _ _).mono ?_; rintro e w1 ⟨rfl, hx1⟩; have hb1 : Below w.heap.size w w1 := Below.trans (by go_grown) (hx1.mono (by go_size)); clear hx1; have hsz1 : w.heap.size ≤ w1.heap.size := hb1.size))
  go_ret
  exact ⟨rfl, hb1⟩
/-- Sin of the reference at 0 to 180. -/
theorem sinh_b (d : Int) (w : World) (h0 : 0 ≤ d) (h1 : d ≤ 180) : Calls Tryz.prog 24 #[.int .i64 d] w fun e w' => e = .returned (.int .i64 (Pl.sinH d)) ∧ Below w.heap.size w w' := by
  have e0 : d % 360 = d := by omega
  have H := Lib.hid e0; clear e0
  by_cases hd : d ≤ 90
  · have hc : (w.alloc (.cells tabV 3)).cell? ⟨w.heap.size, d.toNat, none⟩ = some (.int .i64 (Pl.tab[d.toNat]?.getD 0)) := by
      rw [cell_of_row _ _ _ _ _ _ (heap_alloc_new _ _)]; exact tabV_at _ (by omega)
    go_enter Tryz.func24, Tryz.ntmps24
    go_wp2_with (go_at_call 22; refine (norm_b _ _).mono ?_; rintro e w' ⟨rfl, rfl⟩; rw [H.out])
    go_wp2_with (go_at_call 73; refine (sines_b _).mono ?_; rintro e w' ⟨rfl, rfl⟩)
    go_ret
    exact ⟨ret_int (by unfold Pl.sinH; rw [if_pos hd]), by go_grown⟩
  · have hc : (w.alloc (.cells tabV 3)).cell? ⟨w.heap.size, (180 - d).toNat, none⟩ = some (.int .i64 (Pl.tab[(180 - d).toNat]?.getD 0)) := by
      rw [cell_of_row _ _ _ _ _ _ (heap_alloc_new _ _)]; exact tabV_at _ (by omega)
    go_enter Tryz.func24, Tryz.ntmps24
    go_wp2_with (go_at_call 22; refine (norm_b _ _).mono ?_; rintro e w' ⟨rfl, rfl⟩; rw [H.out])
    go_wp2_with (go_at_call 73; refine (sines_b _).mono ?_; rintro e w' ⟨rfl, rfl⟩)
    go_ret
    exact ⟨ret_int (by unfold Pl.sinH; rw [if_neg (by omega)]), by go_grown⟩
theorem sin_b (d : Int) (w : World) : Calls Tryz.prog 24 #[.int .i64 d] w fun e w' => e = .returned (.int .i64 (Pl.sin d)) ∧ Below w.heap.size w w' := by
  obtain ⟨h0, h1⟩ := sin_range d
  by_cases hd : d % 360 ≤ 90
  · have hc : (w.alloc (.cells tabV 3)).cell? ⟨w.heap.size, (d % 360).toNat, none⟩ = some (.int .i64 (Pl.tab[(d % 360).toNat]?.getD 0)) := by
      rw [cell_of_row _ _ _ _ _ _ (heap_alloc_new _ _)]; exact tabV_at _ (by omega)
    go_enter Tryz.func24, Tryz.ntmps24
    go_wp2_with (first | (go_at_call 22; refine (norm_b _ _).mono ?_; rintro e w' ⟨rfl, rfl⟩) | (go_at_call 73; refine (sines_b _).mono ?_; rintro e w' ⟨rfl, rfl⟩))
    go_ret
    exact ⟨ret_int (by unfold Pl.sin Pl.sinH; rw [if_pos (by omega), if_pos hd]), by go_grown⟩
  by_cases hd2 : d % 360 ≤ 180
  · have hc : (w.alloc (.cells tabV 3)).cell? ⟨w.heap.size, (180 - d % 360).toNat, none⟩ = some (.int .i64 (Pl.tab[(180 - d % 360).toNat]?.getD 0)) := by
      rw [cell_of_row _ _ _ _ _ _ (heap_alloc_new _ _)]; exact tabV_at _ (by omega)
    go_enter Tryz.func24, Tryz.ntmps24
    go_wp2_with (first | (go_at_call 22; refine (norm_b _ _).mono ?_; rintro e w' ⟨rfl, rfl⟩) | (go_at_call 73; refine (sines_b _).mono ?_; rintro e w' ⟨rfl, rfl⟩))
    go_ret
    exact ⟨ret_int (by unfold Pl.sin Pl.sinH; rw [if_pos (by omega), if_neg (by omega)]), by go_grown⟩
  · obtain ⟨h2, h3⟩ := Pl.sinH_bd (d % 360 - 180)
    go_enter Tryz.func24, Tryz.ntmps24
    go_wp2_with (first | (go_at_call 22; refine (norm_b _ _).mono ?_; rintro e w' ⟨rfl, rfl⟩) | (go_at_call 73; refine (sines_b _).mono ?_; rintro e w' ⟨rfl, rfl⟩) | (go_at_call 24; refine (sinh_b _ _ (by omega) (by omega)).mono ?_; rintro e w1 ⟨rfl, hx1⟩; have hb1 : Below w.heap.size w w1 := Below.trans (by go_grown) (hx1.mono (by go_size)); clear hx1; have hsz1 : w.heap.size ≤ w1.heap.size := hb1.size))
    go_ret
    exact ⟨ret_int (by unfold Pl.sin; rw [if_neg (by omega)]), hb1⟩
theorem cos_b (d : Int) (w : World) : Calls Tryz.prog 26 #[.int .i64 d] w fun e w' => e = .returned (.int .i64 (Pl.cos d)) ∧ Below w.heap.size w w' := by
  obtain ⟨h0, h1⟩ := sin_range d
  go_enter Tryz.func26, Tryz.ntmps26
  go_wp2_with (first | (go_at_call 22; refine (norm_b _ _).mono ?_; rintro e w' ⟨rfl, rfl⟩) | (go_at_call 24; refine (sin_b _ _).mono ?_; rintro e w1 ⟨rfl, hx1⟩; have hb1 : Below w.heap.size w w1 := Below.trans (by go_grown) (hx1.mono (by go_size)); clear hx1; have hsz1 : w.heap.size ≤ w1.heap.size := hb1.size))
  go_ret
  exact ⟨rfl, hb1⟩
end Go.Proofs.YthncpapejijloaaGreatDoor

namespace Go.Proofs.YthncpapejijloaaGreatDoor
open Go.RowKit

theorem root_a (n : Int) (w : World) : Calls Tryz.prog 28 #[.int .i64 n] w fun e w' => e = .returned (.int .i64 (Pl.root n)) ∧ w = w' := by
  go_enter Tryz.func28, Tryz.ntmps28
  go_wp2
  go_loop [3, 4] (fun a b => ∃ lo hi : Int, Pl.RootInv n lo hi ∧ a = .int .i64 lo ∧ b = .int .i64 hi) (fun a b => (intOf b - intOf a).toNat)
  case atStart => exact ⟨0, 3037000499, .start n, rfl, rfl⟩
  case round =>
    obtain ⟨lo, hi, hI, rfl, rfl⟩ := hrel
    by_cases hl : lo < hi
    · obtain ⟨m1, m2⟩ := hI.mid hl
      have b0 := hI.1
      have b1 := hI.2.2.1
      have s0 := Pl.sq_nonneg (lo + (hi - lo + 1) / 2)
      have s1 := Pl.sq_max (show 0 ≤ lo + (hi - lo + 1) / 2 by omega) (by omega)
      have H := Lib.hid hI; clear hI
      go_wp2
      · go_round
        case rel => exact ⟨_, _, H.out.up m1 m2 (by assumption), rfl, rfl⟩
        case measure => first | (simp [intOf]; done) | (simp [intOf]; omega)
      · go_round
        case rel => exact ⟨_, _, H.out.down m1 m2 (by omega), rfl, rfl⟩
        case measure => first | (simp [intOf]; done) | (simp [intOf]; omega)
    · obtain rfl : lo = hi := by have := hI.2.1; omega
      have H := Lib.hid hI; clear hI
      go_wp2
      go_ret
      exact ⟨ret_int (Pl.root_eq H.out.done), rfl⟩
theorem rootUp_a (n : Int) (w : World) : Calls Tryz.prog 29 #[.int .i64 n] w fun e w' => e = .returned (.int .i64 (Pl.rootUp n)) ∧ w = w' := by
  obtain ⟨b0, b1, b2, b3⟩ := Pl.root_bd n
  go_enter Tryz.func29, Tryz.ntmps29
  go_wp2_with (go_at_call 28; refine (root_a _ _).mono ?_; rintro e w' ⟨rfl, rfl⟩)
  all_goals go_ret
  all_goals exact ⟨ret_int (by grind [Pl.rootUp]), rfl⟩
theorem root_b (n : Int) (w : World) : Calls Tryz.prog 30 #[.int .i64 n] w fun e w' => e = .returned (.int .i64 (Pl.root n)) ∧ w = w' := by
  by_cases hn : n < 1
  · go_enter Tryz.func30, Tryz.ntmps30
    go_wp2
    go_ret
    exact ⟨ret_int (Pl.root_eq (Pl.IsRoot.small hn)), rfl⟩
  · go_enter Tryz.func30, Tryz.ntmps30
    go_wp2
    go_loop [3, 4] (fun a b => ∃ (r : Int) (k : Nat), Pl.BitInv n r k ∧ a = .int .i64 r ∧ b = .int .i64 ((k : Int) - 1)) (fun _ b => (intOf b + 1).toNat)
    case atStart => exact ⟨0, 32, .start (by omega), rfl, rfl⟩
    case round =>
      obtain ⟨r, k, hI, rfl, rfl⟩ := hrel
      have b0 := hI.1
      have b1 := hI.2.1
      have b2 := hI.2.2.1
      cases k with
      | zero =>
        have H := Lib.hid hI; clear hI
        go_wp2
        go_ret
        exact ⟨ret_int (Pl.root_eq H.out.done), rfl⟩
      | succ k =>
        have p1 : (1 : Int) ≤ 2 ^ k := Pl.one_le_pow k
        have p2 : (2 : Int) ^ k ≤ 2147483648 := Pl.pow_le_31 k (by omega)
        have H := Lib.hid hI; clear hI
        by_cases hm : r + 2 ^ k ≤ 3037000499
        · have s0 := Pl.sq_nonneg (r + 2 ^ k)
          have s1 := Pl.sq_max (show 0 ≤ r + 2 ^ k by omega) hm
          go_wp2
          · go_round
            case rel => exact ⟨_, k, H.out.yes rfl hm (by assumption), rfl, rfl⟩
            case measure => first | (simp [intOf]; done) | (simp [intOf]; omega)
          · go_round
            case rel => exact ⟨_, k, H.out.no rfl (by omega), rfl, rfl⟩
            case measure => first | (simp [intOf]; done) | (simp [intOf]; omega)
        · go_wp2
          go_round
          case rel => exact ⟨_, k, H.out.no rfl (by omega), rfl, rfl⟩
          case measure => first | (simp [intOf]; done) | (simp [intOf]; omega)
theorem rootUp_b (n : Int) (w : World) : Calls Tryz.prog 31 #[.int .i64 n] w fun e w' => e = .returned (.int .i64 (Pl.rootUp n)) ∧ w = w' := by
  obtain ⟨b0, b1, b2, b3⟩ := Pl.root_bd n
  go_enter Tryz.func31, Tryz.ntmps31
  go_wp2_with (go_at_call 30; refine (root_b _ _).mono ?_; rintro e w' ⟨rfl, rfl⟩)
  all_goals go_ret
  all_goals exact ⟨ret_int (by grind [Pl.rootUp]), rfl⟩
end Go.Proofs.YthncpapejijloaaGreatDoor
