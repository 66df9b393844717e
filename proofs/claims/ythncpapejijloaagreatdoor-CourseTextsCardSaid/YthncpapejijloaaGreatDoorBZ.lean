/- Walks: Bearing of both. -/
import Derived.Test.YthncpapejijloaaGreatDoorProg
import Derived.WalkKit
import Derived.WalkLawsBesides
import Derived.WalkSpells
import Derived.Handy
import Derived.Lib.Hide
import Derived.Great.BuildSlice
import Derived.Deep.QuietTactic
import Derived.BigQuiet
import Derived.Deep.RegionHeld3
import Derived.Deep.DeepCutAuto
import Derived.Test.YthncpapejijloaaGreatDoorBX
import Derived.Test.YthncpapejijloaaGreatDoorBY
namespace Go.Proofs.YthncpapejijloaaGreatDoor
open Go.RowKit

theorem bearGo_step (l : List UInt8) {k : Nat} (h : k < 360) : Pl.bearGo l (360 - k) k = if Pl.quad (k : Int) = l then some (k : Int) else Pl.bearGo l (360 - (k + 1)) (k + 1) := by
  rw [show 360 - k = (360 - (k + 1)) + 1 by omega]; rfl
theorem quad_is {s : ByteArray} {k : Nat} : Pl.quad (k : Int) = s.data.toList ↔ (⟨(Pl.quad (k : Int)).toArray⟩ : ByteArray) = s := by
  constructor
  · intro h; cases s; simp only [ByteArray.mk.injEq]; rw [h]
  · intro h; rw [← h]
/-- Quadrant of the reference, the text named. -/
theorem quadB_h (d : Int) (t : ByteArray) (w : World) (h : Hid ((⟨(Pl.quad d).toArray⟩ : ByteArray) = t)) : Calls Tryz.prog 60 #[.int .i64 d] w fun e w' => e = .returned (.string t) ∧ Below w.heap.size w w' := by
  have := quad_b d w
  rw [h.out] at this
  exact this
theorem quadA_h (d : Int) (t : ByteArray) (w : World) (h : Hid ((⟨(Pl.quad d).toArray⟩ : ByteArray) = t)) : Calls Tryz.prog 59 #[.int .i64 d] w fun e w' => e = .returned (.string t) ∧ w = w' := by
  have := quad_a d w
  rw [h.out] at this
  exact this
set_option maxRecDepth 100000 in
set_option maxHeartbeats 1000000 in
theorem bear_b (s : ByteArray) (w : World) : Calls Tryz.prog 58 #[.string s] w fun e w' => e = .returned (.tuple #[.int .i64 (readN (Pl.bearV s)), .int .i64 (readE (Pl.bearV s))]) ∧ Below w.heap.size w w' := by
  go_enter Tryz.func58, Tryz.ntmps58
  go_wp2
  go_loopw [4] (fun i wr => ∃ (k : Nat), k ≤ 360 ∧ i = .int .i64 k ∧ Hid (Pl.bearV s = Pl.bearGo s.data.toList (360 - k) k) ∧ Below w.heap.size w wr) (fun i _ => 360 - (intOf i).toNat)
  case atStart => exact ⟨0, by omega, rfl, rfl, by go_grown⟩
  case round =>
    obtain ⟨k, hk, rfl, hg, hb⟩ := hrel
    have hsz := hb.size
    by_cases hlt : k < 360
    · have hst := Lib.hid (bearGo_step s.data.toList hlt)
      obtain ⟨t, ht⟩ : ∃ t : ByteArray, (⟨(Pl.quad (k : Int)).toArray⟩ : ByteArray) = t := ⟨_, rfl⟩
      have HT := Lib.hid ht
      by_cases he : t = s
      · have hv : Pl.bearV s = some (k : Int) := by rw [hg.out, hst.out, if_pos (quad_is.2 (by rw [ht]; exact he))]
        have HV := Lib.hid hv
        clear hv ht hg hst
        subst he
        go_wp2_with (go_at_call 60; refine (quadB_h _ t _ HT).mono ?_; rintro e w2 ⟨rfl, hx2⟩; have hb2 : Below w.heap.size w w2 := Below.trans (by go_grown) (hx2.mono (by go_size)); clear hx2; have hsz2 : w.heap.size ≤ w2.heap.size := hb2.size)
        go_ret2
        exact ⟨by rw [HV.out]; rfl, by go_grown⟩
      · have hv : Pl.bearV s = Pl.bearGo s.data.toList (360 - (k + 1)) (k + 1) := by rw [hg.out, hst.out, if_neg (fun h => he (by rw [← ht]; exact quad_is.1 h))]
        have HV := Lib.hid hv
        have hne := ne_bytes he
        clear hv ht hg hst
        go_wp2_with (go_at_call 60; refine (quadB_h _ t _ HT).mono ?_; rintro e w2 ⟨rfl, hx2⟩; have hb2 : Below w.heap.size w w2 := Below.trans (by go_grown) (hx2.mono (by go_size)); clear hx2; have hsz2 : w.heap.size ≤ w2.heap.size := hb2.size)
        go_roundw
        case rel => exact ⟨k + 1, by omega, by go_num, HV, by go_grown⟩
        case measure => first | (simp [intOf]; done) | (simp [intOf]; omega)
    · obtain rfl : k = 360 := by omega
      have hv : Pl.bearV s = none := by rw [hg.out]; rfl
      have HV := Lib.hid hv
      clear hv hg
      go_wp2
      go_ret2
      exact ⟨by rw [HV.out]; rfl, by go_grown⟩
set_option maxRecDepth 100000 in
set_option maxHeartbeats 1000000 in
theorem bear1_a (s : ByteArray) (bs : Nat) (w : World) (ks : w.heap[bs]? = some (.cells #[.string s] 9 (0, 0))) : Calls Tryz.prog 95 #[.pointer (some ⟨bs, 0, none⟩)] w fun e w' => e = endV (Pl.bearV s) ∧ Below w.heap.size w w' := by
  have c0 : w.cell? ⟨bs, 0, none⟩ = some (.string s) := by rw [(blk_cells ks).1]; rfl
  have hlb := (Array.getElem?_eq_some_iff.1 ks).1
  clear ks
  go_enter Tryz.func95, Tryz.ntmps95
  go_wp2
  go_loopw [3] (fun i wr => ∃ (k : Nat), k ≤ 360 ∧ i = .int .i64 k ∧ Hid (Pl.bearV s = Pl.bearGo s.data.toList (360 - k) k) ∧ Below w.heap.size w wr) (fun i _ => 360 - (intOf i).toNat)
  case atStart => exact ⟨0, by omega, rfl, rfl, by go_grown⟩
  case round =>
    obtain ⟨k, hk, rfl, hg, hb⟩ := hrel
    have hsz := hb.size
    have c1 := (hb.cell (p := ⟨bs, 0, none⟩) hlb).trans c0
    by_cases hlt : k < 360
    · have hst := Lib.hid (bearGo_step s.data.toList hlt)
      obtain ⟨t, ht⟩ : ∃ t : ByteArray, (⟨(Pl.quad (k : Int)).toArray⟩ : ByteArray) = t := ⟨_, rfl⟩
      have HT := Lib.hid ht
      by_cases he : t = s
      · have hv : Pl.bearV s = some (k : Int) := by rw [hg.out, hst.out, if_pos (quad_is.2 (by rw [ht]; exact he))]
        have HV := Lib.hid hv
        clear hv ht hg hst
        subst he
        go_wp2
        go_region_held3 (fun W => W.cell? ⟨bs, 0, none⟩ = some (.string t)) (assumption) (first | (go_at_call 59; refine (quadA_h _ t _ HT).mono ?_; rintro e w' ⟨rfl, rfl⟩))
        all_goals go_wp2
        all_goals go_ret
        all_goals exact ⟨by rw [HV.out]; rfl, by go_grown⟩
      · have hv : Pl.bearV s = Pl.bearGo s.data.toList (360 - (k + 1)) (k + 1) := by rw [hg.out, hst.out, if_neg (fun h => he (by rw [← ht]; exact quad_is.1 h))]
        have HV := Lib.hid hv
        have hne := ne_bytes he
        clear hv ht hg hst
        go_wp2
        go_region_held3 (fun W => W.cell? ⟨bs, 0, none⟩ = some (.string s)) (assumption) (first | (go_at_call 59; refine (quadA_h _ t _ HT).mono ?_; rintro e w' ⟨rfl, rfl⟩))
        all_goals go_wp2
        go_roundw
        case rel => exact ⟨k + 1, by omega, by go_num, HV, by go_grown⟩
        case measure => first | (simp [intOf]; done) | (simp [intOf]; omega)
    · obtain rfl : k = 360 := by omega
      have hv : Pl.bearV s = none := by rw [hg.out]; rfl
      have HV := Lib.hid hv
      clear hv hg
      go_wp2_with (go_at_call 96; refine (must_no _).mono ?_; rintro e w3 ⟨rfl, hb3⟩; have hsz3 := hb3.size)
      rw [HV.out]
      exact ⟨rfl, rfl, hb.trans (hb3.mono (by omega))⟩
theorem bearing_a (s : ByteArray) (bs : Nat) (w : World) (ks : w.heap[bs]? = some (.cells #[.string s] 9 (0, 0))) :
    Calls Tryz.prog 94 #[.func (.func 95) #[] #[.pointer (some ⟨bs, 0, none⟩)]] w fun e w' => e = .returned (.tuple #[.int .i64 (readN (Pl.bearV s)), .int .i64 (readE (Pl.bearV s))]) ∧ Below w.heap.size w w' := by
  have hbs := (Array.getElem?_eq_some_iff.1 ks).1
  have h1 : ∀ W, Below w.heap.size w W → Calls Tryz.prog 95 #[.pointer (some ⟨bs, 0, none⟩)] W fun e w' => e = endV (Pl.bearV s) ∧ Below W.heap.size W w' := fun W hb => bear1_a s bs W ((hb.block bs hbs).trans ks)
  cases h : Pl.bearV s with
  | some n =>
    rw [h] at h1
    exact reading_ok 95 _ n w (fun w => enters_of Tryz.func95 (by kernel_rfl) rfl _ w) h1
  | none =>
    rw [h] at h1
    exact reading_no 95 _ w (fun w => enters_of Tryz.func95 (by kernel_rfl) rfl _ w) h1
set_option maxRecDepth 100000 in
theorem bear_a (s : ByteArray) (w : World) : Calls Tryz.prog 57 #[.string s] w fun e w' => e = .returned (.tuple #[.int .i64 (readN (Pl.bearV s)), .int .i64 (readE (Pl.bearV s))]) ∧ Below w.heap.size w w' := by
  have hmf : ∀ (fn : Fn) (first cap : Array Value) (w : World), (Instr.makeFunc fn first cap).run Tryz.prog w = .ok (.func fn first cap) w := fun _ _ _ _ => rfl
  have hr := Lib.hid (bearing_a s w.heap.size (w.alloc (.cells #[.string s] 9)) (heap_alloc_new _ _))
  go_enter Tryz.func57, Tryz.ntmps57
  go_wp2_with (go_at_call 94; refine (hr.out).mono ?_; rintro e w7 ⟨rfl, hx7⟩)
  go_ret2
  exact ⟨rfl, Below.trans (by go_grown) (hx7.mono (by go_size))⟩
end Go.Proofs.YthncpapejijloaaGreatDoor
