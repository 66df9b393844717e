/- Walks of the reference: Links, Area, Quadrant, Bearing; Bearing of course. -/
import Derived.Test.YthncpapejijloaaGreatDoorProg
import Derived.WalkKit
import Derived.WalkLawsBesides
import Derived.WalkSpells
import Derived.Handy
import Derived.Lib.Hide
import Derived.Great.BuildSlice
import Derived.Deep.QuietTactic
import Derived.BigQuiet
import Derived.Deep.RegionHeld3
import Derived.Deep.DeepCutAuto
import Derived.Test.YthncpapejijloaaGreatDoorBW
namespace Go.Proofs.YthncpapejijloaaGreatDoor
open Go.RowKit

theorem count3 (s : ByteArray) (us : List Pl.Unit) (w : World) (hs : s.size ≤ 100) (hlen : us.length ≤ 40) (hpos : ∀ u ∈ us, 1 ≤ u.1 ∧ u.1 ≤ 1000000000000) :
    Calls Tryz.prog 90 #[.string s, .slice (some ⟨w.heap.size, 0, none⟩) us.length us.length, .slice (some ⟨w.heap.size + 1, 0, none⟩) us.length us.length, .slice (some ⟨w.heap.size + 2, 0, none⟩) us.length us.length] (laid3 us w) fun e w' => e = .returned (.tuple #[.int .i64 ((Pl.cntV us s).getD 0), .bool (Pl.cntV us s).isSome]) ∧ Below w.heap.size w w' := by
  obtain ⟨k1, k2, k3⟩ := laid3_segs us w
  refine (counted_b s us _ _ _ _ _ _ _ hs hlen hpos k1 k2 k3).mono ?_
  rintro e w' ⟨he, hb⟩
  exact ⟨he, (laid3_below us w).trans (hb.mono (by rw [laid3_size]; omega))⟩
theorem ne_bytes {a b : ByteArray} (h : ¬ a = b) : (a.toList == b.toList) = false := by
  simp only [beq_eq_false_iff_ne, ne_eq]; intro hh; exact h (bytes_iff.1 hh)
set_option maxRecDepth 100000 in
set_option maxHeartbeats 1000000 in
theorem linksB (s : ByteArray) (w : World) (hs : s.size ≤ 100) : Calls Tryz.prog 45 #[.string s] w fun e w' => e = .returned (.tuple #[.int .i64 (Pl.cntN (Pl.cntV Pl.poles s) Pl.lengthV s), .int .i64 (Pl.cntE (Pl.cntV Pl.poles s) Pl.lengthV s)]) ∧ Below w.heap.size w w' := by
  have hc := Lib.hid (count3 s Pl.poles w hs (by decide) (by decide))
  cases hv : Pl.cntV Pl.poles s with
  | none =>
    have HV := Lib.hid hv; clear hv
    go_enter Tryz.func45, Tryz.ntmps45
    go_wp2_with fail
    refine (Calls.mono (show Calls _ _ _ _ _ from hc.out) ?_)
    rintro e w1 ⟨rfl, hb⟩
    rw [HV.out]
    have hsz := hb.size
    go_wp2
    go_ret2
    exact ⟨rfl, hb⟩
  | some n =>
    have HV := Lib.hid hv; clear hv
    obtain ⟨t, ht⟩ : ∃ t, Pl.lengthV n = t := ⟨_, rfl⟩
    have HT := Lib.hid ht; clear ht
    by_cases he : t = s
    · subst he
      have hN : Hid (Pl.cntN (some n) Pl.lengthV t = n) := by unfold Hid Pl.cntN; simp [HT.out]
      have hE : Hid (Pl.cntE (some n) Pl.lengthV t = 0) := by unfold Hid Pl.cntE; simp [HT.out]
      go_enter Tryz.func45, Tryz.ntmps45
      go_wp2_with fail
      refine (Calls.mono (show Calls _ _ _ _ _ from hc.out) ?_)
      rintro e w1 ⟨rfl, hb⟩
      rw [HV.out]
      have hsz := hb.size
      go_wp2_with (go_at_call 49; refine (length_b n _).mono ?_; rintro e w2 ⟨rfl, hx⟩; rw [HT.out]; have hb2 : Below w.heap.size w w2 := Below.trans (by go_grown) (hx.mono (by go_size)); clear hx)
      go_ret2
      exact ⟨by rw [hN.out, hE.out]; try rfl, hb2⟩
    · have hN : Hid (Pl.cntN (some n) Pl.lengthV s = 0) := by unfold Hid Pl.cntN; simp [HT.out, he]
      have hE : Hid (Pl.cntE (some n) Pl.lengthV s = 4) := by unfold Hid Pl.cntE; simp [HT.out, he]
      have hne := ne_bytes he
      go_enter Tryz.func45, Tryz.ntmps45
      go_wp2_with fail
      refine (Calls.mono (show Calls _ _ _ _ _ from hc.out) ?_)
      rintro e w1 ⟨rfl, hb⟩
      rw [HV.out]
      have hsz := hb.size
      go_wp2_with (go_at_call 49; refine (length_b n _).mono ?_; rintro e w2 ⟨rfl, hx⟩; rw [HT.out]; have hb2 : Below w.heap.size w w2 := Below.trans (by go_grown) (hx.mono (by go_size)); clear hx)
      go_ret2
      exact ⟨by rw [hN.out, hE.out]; try rfl, hb2⟩
set_option maxRecDepth 100000 in
set_option maxHeartbeats 1000000 in
theorem areaB (s : ByteArray) (w : World) (hs : s.size ≤ 100) : Calls Tryz.prog 47 #[.string s] w fun e w' => e = .returned (.tuple #[.int .i64 (Pl.cntN (Pl.cntV Pl.roods s) Pl.acresV s), .int .i64 (Pl.cntE (Pl.cntV Pl.roods s) Pl.acresV s)]) ∧ Below w.heap.size w w' := by
  have hc := Lib.hid (count3 s Pl.roods w hs (by decide) (by decide))
  cases hv : Pl.cntV Pl.roods s with
  | none =>
    have HV := Lib.hid hv; clear hv
    go_enter Tryz.func47, Tryz.ntmps47
    go_wp2_with fail
    refine (Calls.mono (show Calls _ _ _ _ _ from hc.out) ?_)
    rintro e w1 ⟨rfl, hb⟩
    rw [HV.out]
    have hsz := hb.size
    go_wp2
    go_ret2
    exact ⟨rfl, hb⟩
  | some n =>
    have HV := Lib.hid hv; clear hv
    obtain ⟨t, ht⟩ : ∃ t, Pl.acresV n = t := ⟨_, rfl⟩
    have HT := Lib.hid ht; clear ht
    by_cases he : t = s
    · subst he
      have hN : Hid (Pl.cntN (some n) Pl.acresV t = n) := by unfold Hid Pl.cntN; simp [HT.out]
      have hE : Hid (Pl.cntE (some n) Pl.acresV t = 0) := by unfold Hid Pl.cntE; simp [HT.out]
      go_enter Tryz.func47, Tryz.ntmps47
      go_wp2_with fail
      refine (Calls.mono (show Calls _ _ _ _ _ from hc.out) ?_)
      rintro e w1 ⟨rfl, hb⟩
      rw [HV.out]
      have hsz := hb.size
      go_wp2_with (go_at_call 51; refine (acres_b n _).mono ?_; rintro e w2 ⟨rfl, hx⟩; rw [HT.out]; have hb2 : Below w.heap.size w w2 := Below.trans (by go_grown) (hx.mono (by go_size)); clear hx)
      go_ret2
      exact ⟨by rw [hN.out, hE.out]; try rfl, hb2⟩
    · have hN : Hid (Pl.cntN (some n) Pl.acresV s = 0) := by unfold Hid Pl.cntN; simp [HT.out, he]
      have hE : Hid (Pl.cntE (some n) Pl.acresV s = 4) := by unfold Hid Pl.cntE; simp [HT.out, he]
      have hne := ne_bytes he
      go_enter Tryz.func47, Tryz.ntmps47
      go_wp2_with fail
      refine (Calls.mono (show Calls _ _ _ _ _ from hc.out) ?_)
      rintro e w1 ⟨rfl, hb⟩
      rw [HV.out]
      have hsz := hb.size
      go_wp2_with (go_at_call 51; refine (acres_b n _).mono ?_; rintro e w2 ⟨rfl, hx⟩; rw [HT.out]; have hb2 : Below w.heap.size w w2 := Below.trans (by go_grown) (hx.mono (by go_size)); clear hx)
      go_ret2
      exact ⟨by rw [hN.out, hE.out]; try rfl, hb2⟩
end Go.Proofs.YthncpapejijloaaGreatDoor
