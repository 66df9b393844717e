/- Walk of the law of texts. -/
import Derived.Test.YthncpapejijloaaGreatDoorProg
import Derived.WalkKit
import Derived.WalkLawsBesides
import Derived.WalkSpells
import Derived.Handy
import Derived.Lib.Hide
import Derived.Great.BuildSlice
import Derived.Deep.QuietTactic
import Derived.BigQuiet
import Derived.Deep.RegionHeld3
import Derived.Deep.DeepCutAuto
import Derived.Test.YthncpapejijloaaGreatDoorLw
import Derived.Test.YthncpapejijloaaGreatDoorBZ
namespace Go.Proofs.YthncpapejijloaaGreatDoor
open Go.RowKit

theorem named_size {us : List Pl.Unit} (hg : Pl.Good us) (hlen : us.length ≤ 4) (hs : ∀ u ∈ us, u.2.1.size ≤ 100 ∧ u.2.2.size ≤ 100) {c : Int} (h0 : 0 ≤ c) (h1 : c ≤ 1000000000000) : (Pl.named c us).size ≤ 1000 := by
  have hL := Pl.namedL_len c us
  unfold Pl.named
  split
  · rw [ByteArray.size_append]
    have : ((us.getLast?.map (fun u : Pl.Unit => u.2.2)).getD ⟨#[]⟩).size ≤ 100 := by
      cases h : us.getLast? with
      | none => show 0 ≤ 100; omega
      | some u => exact (hs u (List.mem_of_getLast? h)).2
    show 2 + _ ≤ 1000
    omega
  · have := Pl.join_le [32] (xs := (Pl.namedL c us).map (·.data.toList)) (N := 100) (by
      intro y hy
      obtain ⟨x, hx', rfl⟩ := List.mem_map.1 hy
      have h5 := Pl.namedL_sizes h0 h1 (fun u hu => (hg u hu).1) hs x hx'
      rw [Array.length_toList]
      exact h5)
    simp only [List.length_map, List.length_cons, List.length_nil] at this
    show (Lib.join _ [32]).length ≤ 1000
    omega
theorem length_size (n : Int) : (Pl.lengthV n).size ≤ 1000 := by
  unfold Pl.lengthV
  split
  · rename_i h; exact named_size Pl.good_poles (by decide) (by decide) h.1 (by omega)
  · show 0 ≤ 1000; omega
theorem acres_size (n : Int) : (Pl.acresV n).size ≤ 1000 := by
  unfold Pl.acresV
  split
  · rename_i h; exact named_size Pl.good_roods (by decide) (by decide) h.1 (by omega)
  · show 0 ≤ 1000; omega
theorem okay {o : Option Int} {wr : Int → ByteArray} {s t : ByteArray} (k : ∀ a, o = some a → wr a = s) (ht : wr (readN o) = t) : (readE o == 0) = true → (t.toList == s.toList) = true := by
  intro h
  cases o with
  | none => simp [readE] at h
  | some a =>
    have := k a rfl
    rw [← ht]
    simp [readN, this]
/-- Links and Area, where the text is named. -/
theorem links_t (t : ByteArray) (o : Option Int) (w : World) (hE : Env w) (hs : t.size ≤ 1000) (h : Hid (Pl.readV Pl.poles Pl.lengthV t = o)) :
    Calls Tryz.prog 44 #[.string t] w fun e w' => e = .returned (.tuple #[.int .i64 (readN o), .int .i64 (readE o)]) ∧ Below w.heap.size w w' := by
  have := links_a t w hE hs
  rw [h.out] at this
  exact this
theorem area_t (t : ByteArray) (o : Option Int) (w : World) (hE : Env w) (hs : t.size ≤ 1000) (h : Hid (Pl.readV Pl.roods Pl.acresV t = o)) :
    Calls Tryz.prog 46 #[.string t] w fun e w' => e = .returned (.tuple #[.int .i64 (readN o), .int .i64 (readE o)]) ∧ Below w.heap.size w w' := by
  have := area_a t w hE hs
  rw [h.out] at this
  exact this
theorem bear_t (t : ByteArray) (o : Option Int) (w : World) (h : Hid (Pl.bearV t = o)) :
    Calls Tryz.prog 57 #[.string t] w fun e w' => e = .returned (.tuple #[.int .i64 (readN o), .int .i64 (readE o)]) ∧ Below w.heap.size w w' := by
  have := bear_a t w
  rw [h.out] at this
  exact this
theorem length_h (n : Int) (t : ByteArray) (w : World) (hE : Env w) (h : Hid (Pl.lengthV n = t)) : Calls Tryz.prog 48 #[.int .i64 n] w fun e w' => e = .returned (.string t) ∧ Below w.heap.size w w' := by
  have := length_a n w hE
  rw [h.out] at this
  exact this
theorem acres_h (n : Int) (t : ByteArray) (w : World) (hE : Env w) (h : Hid (Pl.acresV n = t)) : Calls Tryz.prog 50 #[.int .i64 n] w fun e w' => e = .returned (.string t) ∧ Below w.heap.size w w' := by
  have := acres_a n w hE
  rw [h.out] at this
  exact this
theorem links_some (t : ByteArray) (n : Int) (w : World) (hE : Env w) (hs : t.size ≤ 1000) (h : Hid (Pl.readV Pl.poles Pl.lengthV t = some n)) :
    Calls Tryz.prog 44 #[.string t] w fun e w' => e = .returned (.tuple #[.int .i64 n, .int .i64 0]) ∧ Below w.heap.size w w' := links_t t (some n) w hE hs h
theorem area_some (t : ByteArray) (n : Int) (w : World) (hE : Env w) (hs : t.size ≤ 1000) (h : Hid (Pl.readV Pl.roods Pl.acresV t = some n)) :
    Calls Tryz.prog 46 #[.string t] w fun e w' => e = .returned (.tuple #[.int .i64 n, .int .i64 0]) ∧ Below w.heap.size w w' := area_t t (some n) w hE hs h
theorem bear_some (t : ByteArray) (n : Int) (w : World) (h : Hid (Pl.bearV t = some n)) :
    Calls Tryz.prog 57 #[.string t] w fun e w' => e = .returned (.tuple #[.int .i64 n, .int .i64 0]) ∧ Below w.heap.size w w' := bear_t t (some n) w h
set_option maxRecDepth 100000 in
set_option maxHeartbeats 8000000 in
theorem courseTexts_w (n d : Int) (s : ByteArray) (w : World) (hE : Env w) (hmx : s.size ≤ maxLen) :
    Calls Tryz.prog 19 #[.int .i64 n, .int .i64 d, .string s] w fun e w' => e = .returned (.bool true) ∧ Below w.heap.size w w' := by
  unfold maxLen at hmx
  have h8 : 8 ≤ w.heap.size := hE.size
  have hall : Below w.heap.size w w := Below.refl _ _
  have hsz : w.heap.size ≤ w.heap.size := Nat.le_refl _
  by_cases h100 : s.size ≤ 100
  · obtain ⟨o1, ho1⟩ : ∃ o, Pl.readV Pl.poles Pl.lengthV s = o := ⟨_, rfl⟩
    obtain ⟨o2, ho2⟩ : ∃ o, Pl.readV Pl.roods Pl.acresV s = o := ⟨_, rfl⟩
    obtain ⟨o3, ho3⟩ : ∃ o, Pl.bearV s = o := ⟨_, rfl⟩
    obtain ⟨t1, ht1⟩ : ∃ t, Pl.lengthV (readN o1) = t := ⟨_, rfl⟩
    obtain ⟨t2, ht2⟩ : ∃ t, Pl.acresV (readN o2) = t := ⟨_, rfl⟩
    obtain ⟨t3, ht3⟩ : ∃ t : ByteArray, (⟨(Pl.quad (readN o3)).toArray⟩ : ByteArray) = t := ⟨_, rfl⟩
    have K1 := Lib.hid (okay (wr := Pl.lengthV) (s := s) (o := o1) (fun a h => Pl.readV_wr (by rw [ho1, h])) ht1)
    have K2 := Lib.hid (okay (wr := Pl.acresV) (s := s) (o := o2) (fun a h => Pl.readV_wr (by rw [ho2, h])) ht2)
    have K3 := Lib.hid (okay (wr := fun k => ⟨(Pl.quad k).toArray⟩) (s := s) (o := o3) (fun a h => by have := (Pl.bear_quad (by rw [ho3, h])).1; cases s; simp only [ByteArray.mk.injEq]; rw [this]) ht3)
    have H1 := Lib.hid ho1; have H2 := Lib.hid ho2; have H3 := Lib.hid ho3
    have T1 := Lib.hid ht1; have T2 := Lib.hid ht2; have T3 := Lib.hid ht3
    obtain ⟨m, hm⟩ : ∃ m, d % 360 = m := ⟨_, rfl⟩
    obtain ⟨q, hq⟩ : ∃ q : ByteArray, (⟨(Pl.quad d).toArray⟩ : ByteArray) = q := ⟨_, rfl⟩
    have hbk : Pl.bearV q = some m := by rw [← hq, Pl.bear_back, hm]
    have HM := Lib.hid hm; have HQ := Lib.hid hq; have HBK := Lib.hid hbk
    clear ho1 ho2 ho3 ht1 ht2 ht3 hm hq hbk
    by_cases r1 : 0 ≤ n ∧ n ≤ 1000000
    · obtain ⟨n0, n1⟩ := r1
      have B1' := Pl.links_back n0 n1
      have B2' := Pl.area_back n0 (show n ≤ 1000000000000 by omega)
      have Z1' := length_size n
      have Z2' := acres_size n
      obtain ⟨x1, hx1⟩ : ∃ x, Pl.lengthV n = x := ⟨_, rfl⟩
      obtain ⟨x2, hx2⟩ : ∃ x, Pl.acresV n = x := ⟨_, rfl⟩
      rw [hx1] at B1' Z1'
      rw [hx2] at B2' Z2'
      have B1 := Lib.hid B1'; have B2 := Lib.hid B2'; have X1 := Lib.hid hx1; have X2 := Lib.hid hx2
      have Z1 := Z1'; have Z2 := Z2'
      clear B1' B2' hx1 hx2 Z1' Z2'
      go_enter Tryz.func19, Tryz.ntmps19
      go_wp2_with fail
      (go_at_call 48; refine (length_h n x1 _ (hE.up hall) X1).mono ?_; rintro e w1 ⟨rfl, hx⟩; have hall : Below w.heap.size w w1 := Below.trans (by go_grown) (hx.mono (by go_size)); have hsz : w.heap.size ≤ w1.heap.size := hall.size; clear hx)
      go_wp2_with fail
      (go_at_call 44; refine (links_some x1 n _ (hE.up hall) Z1 B1).mono ?_; rintro e w1 ⟨rfl, hx⟩; have hall : Below w.heap.size w w1 := Below.trans (by go_grown) (hx.mono (by go_size)); have hsz : w.heap.size ≤ w1.heap.size := hall.size; clear hx)
      go_wp2_with fail
      (go_at_call 50; refine (acres_h n x2 _ (hE.up hall) X2).mono ?_; rintro e w1 ⟨rfl, hx⟩; have hall : Below w.heap.size w w1 := Below.trans (by go_grown) (hx.mono (by go_size)); have hsz : w.heap.size ≤ w1.heap.size := hall.size; clear hx)
      go_wp2_with fail
      (go_at_call 46; refine (area_some x2 n _ (hE.up hall) Z2 B2).mono ?_; rintro e w1 ⟨rfl, hx⟩; have hall : Below w.heap.size w w1 := Below.trans (by go_grown) (hx.mono (by go_size)); have hsz : w.heap.size ≤ w1.heap.size := hall.size; clear hx)
      go_wp2_with fail
      (go_at_call 59; refine (quadA_h d q _ HQ).mono ?_; rintro e w' ⟨rfl, rfl⟩)
      go_wp2_with fail
      (go_at_call 57; refine (bear_some q m _ HBK).mono ?_; rintro e w1 ⟨rfl, hx⟩; have hall : Below w.heap.size w w1 := Below.trans (by go_grown) (hx.mono (by go_size)); have hsz : w.heap.size ≤ w1.heap.size := hall.size; clear hx)
      go_wp2_with (go_at_call 21; refine (norm_a _ _).mono ?_; rintro e w' ⟨rfl, rfl⟩; rw [HM.out])
      (go_at_call 44; refine (links_t s o1 _ (hE.up hall) (by omega) H1).mono ?_; rintro e w1 ⟨rfl, hx⟩; have hall : Below w.heap.size w w1 := Below.trans (by go_grown) (hx.mono (by go_size)); have hsz : w.heap.size ≤ w1.heap.size := hall.size; clear hx)
      go_wp2_with fail
      (go_at_call 46; refine (area_t s o2 _ (hE.up hall) (by omega) H2).mono ?_; rintro e w1 ⟨rfl, hx⟩; have hall : Below w.heap.size w w1 := Below.trans (by go_grown) (hx.mono (by go_size)); have hsz : w.heap.size ≤ w1.heap.size := hall.size; clear hx)
      go_wp2_with fail
      (go_at_call 57; refine (bear_t s o3 _ H3).mono ?_; rintro e w1 ⟨rfl, hx⟩; have hall : Below w.heap.size w w1 := Below.trans (by go_grown) (hx.mono (by go_size)); have hsz : w.heap.size ≤ w1.heap.size := hall.size; clear hx)
      go_wp2_with (first
        | (go_at_call 48; refine (length_h _ t1 _ (hE.up hall) T1).mono ?_; rintro e w1 ⟨rfl, hx⟩; have hall : Below w.heap.size w w1 := Below.trans (by go_grown) (hx.mono (by go_size)); have hsz : w.heap.size ≤ w1.heap.size := hall.size; clear hx)
        | (go_at_call 50; refine (acres_h _ t2 _ (hE.up hall) T2).mono ?_; rintro e w1 ⟨rfl, hx⟩; have hall : Below w.heap.size w w1 := Below.trans (by go_grown) (hx.mono (by go_size)); have hsz : w.heap.size ≤ w1.heap.size := hall.size; clear hx)
        | (go_at_call 59; refine (quadA_h _ t3 _ T3).mono ?_; rintro e w' ⟨rfl, rfl⟩)
        | (go_at_call 27; refine (measured_a _ (hE.up hall)).mono ?_; rintro e w1 ⟨rfl, hx⟩; have hall : Below w.heap.size w w1 := Below.trans (by go_grown) (hx.mono (by go_size)); have hsz : w.heap.size ≤ w1.heap.size := hall.size; clear hx))
      all_goals first
        | (go_ret; exact ⟨rfl, hall⟩)
        | (exfalso; have k1 := K1.out; have k2 := K2.out; have k3 := K3.out; simp_all; done)
    · by_cases r2 : 0 ≤ n ∧ n ≤ 1000000000000
      · obtain ⟨n0, n1⟩ := r2
        have B2' := Pl.area_back n0 n1
        have Z2' := acres_size n
        obtain ⟨x2, hx2⟩ : ∃ x, Pl.acresV n = x := ⟨_, rfl⟩
        rw [hx2] at B2' Z2'
        have B2 := Lib.hid B2'; have X2 := Lib.hid hx2
        have Z2 := Z2'
        have big : ¬ n ≤ 1000000 := by omega
        clear B2' hx2 Z2' r1
        go_enter Tryz.func19, Tryz.ntmps19
        go_wp2_with fail
        (go_at_call 50; refine (acres_h n x2 _ (hE.up hall) X2).mono ?_; rintro e w1 ⟨rfl, hx⟩; have hall : Below w.heap.size w w1 := Below.trans (by go_grown) (hx.mono (by go_size)); have hsz : w.heap.size ≤ w1.heap.size := hall.size; clear hx)
        go_wp2_with fail
        (go_at_call 46; refine (area_some x2 n _ (hE.up hall) Z2 B2).mono ?_; rintro e w1 ⟨rfl, hx⟩; have hall : Below w.heap.size w w1 := Below.trans (by go_grown) (hx.mono (by go_size)); have hsz : w.heap.size ≤ w1.heap.size := hall.size; clear hx)
        go_wp2_with fail
        (go_at_call 59; refine (quadA_h d q _ HQ).mono ?_; rintro e w' ⟨rfl, rfl⟩)
        go_wp2_with fail
        (go_at_call 57; refine (bear_some q m _ HBK).mono ?_; rintro e w1 ⟨rfl, hx⟩; have hall : Below w.heap.size w w1 := Below.trans (by go_grown) (hx.mono (by go_size)); have hsz : w.heap.size ≤ w1.heap.size := hall.size; clear hx)
        go_wp2_with (go_at_call 21; refine (norm_a _ _).mono ?_; rintro e w' ⟨rfl, rfl⟩; rw [HM.out])
        (go_at_call 44; refine (links_t s o1 _ (hE.up hall) (by omega) H1).mono ?_; rintro e w1 ⟨rfl, hx⟩; have hall : Below w.heap.size w w1 := Below.trans (by go_grown) (hx.mono (by go_size)); have hsz : w.heap.size ≤ w1.heap.size := hall.size; clear hx)
        go_wp2_with fail
        (go_at_call 46; refine (area_t s o2 _ (hE.up hall) (by omega) H2).mono ?_; rintro e w1 ⟨rfl, hx⟩; have hall : Below w.heap.size w w1 := Below.trans (by go_grown) (hx.mono (by go_size)); have hsz : w.heap.size ≤ w1.heap.size := hall.size; clear hx)
        go_wp2_with fail
        (go_at_call 57; refine (bear_t s o3 _ H3).mono ?_; rintro e w1 ⟨rfl, hx⟩; have hall : Below w.heap.size w w1 := Below.trans (by go_grown) (hx.mono (by go_size)); have hsz : w.heap.size ≤ w1.heap.size := hall.size; clear hx)
        go_wp2_with (first
          | (go_at_call 48; refine (length_h _ t1 _ (hE.up hall) T1).mono ?_; rintro e w1 ⟨rfl, hx⟩; have hall : Below w.heap.size w w1 := Below.trans (by go_grown) (hx.mono (by go_size)); have hsz : w.heap.size ≤ w1.heap.size := hall.size; clear hx)
          | (go_at_call 50; refine (acres_h _ t2 _ (hE.up hall) T2).mono ?_; rintro e w1 ⟨rfl, hx⟩; have hall : Below w.heap.size w w1 := Below.trans (by go_grown) (hx.mono (by go_size)); have hsz : w.heap.size ≤ w1.heap.size := hall.size; clear hx)
          | (go_at_call 59; refine (quadA_h _ t3 _ T3).mono ?_; rintro e w' ⟨rfl, rfl⟩)
          | (go_at_call 27; refine (measured_a _ (hE.up hall)).mono ?_; rintro e w1 ⟨rfl, hx⟩; have hall : Below w.heap.size w w1 := Below.trans (by go_grown) (hx.mono (by go_size)); have hsz : w.heap.size ≤ w1.heap.size := hall.size; clear hx))
        all_goals first
          | (go_ret; exact ⟨rfl, hall⟩)
          | (exfalso; have k1 := K1.out; have k2 := K2.out; have k3 := K3.out; simp_all; done)
      · have hout : n < 0 ∨ 1000000000000 < n := by omega
        clear r1 r2
        rcases hout with hout | hout
        all_goals
          have hout2 := hout
          go_enter Tryz.func19, Tryz.ntmps19
          go_wp2_with fail
          (go_at_call 59; refine (quadA_h d q _ HQ).mono ?_; rintro e w' ⟨rfl, rfl⟩)
          go_wp2_with fail
          (go_at_call 57; refine (bear_some q m _ HBK).mono ?_; rintro e w1 ⟨rfl, hx⟩; have hall : Below w.heap.size w w1 := Below.trans (by go_grown) (hx.mono (by go_size)); have hsz : w.heap.size ≤ w1.heap.size := hall.size; clear hx)
          go_wp2_with (go_at_call 21; refine (norm_a _ _).mono ?_; rintro e w' ⟨rfl, rfl⟩; rw [HM.out])
          (go_at_call 44; refine (links_t s o1 _ (hE.up hall) (by omega) H1).mono ?_; rintro e w1 ⟨rfl, hx⟩; have hall : Below w.heap.size w w1 := Below.trans (by go_grown) (hx.mono (by go_size)); have hsz : w.heap.size ≤ w1.heap.size := hall.size; clear hx)
          go_wp2_with fail
          (go_at_call 46; refine (area_t s o2 _ (hE.up hall) (by omega) H2).mono ?_; rintro e w1 ⟨rfl, hx⟩; have hall : Below w.heap.size w w1 := Below.trans (by go_grown) (hx.mono (by go_size)); have hsz : w.heap.size ≤ w1.heap.size := hall.size; clear hx)
          go_wp2_with fail
          (go_at_call 57; refine (bear_t s o3 _ H3).mono ?_; rintro e w1 ⟨rfl, hx⟩; have hall : Below w.heap.size w w1 := Below.trans (by go_grown) (hx.mono (by go_size)); have hsz : w.heap.size ≤ w1.heap.size := hall.size; clear hx)
          go_wp2_with (first
            | (go_at_call 48; refine (length_h _ t1 _ (hE.up hall) T1).mono ?_; rintro e w1 ⟨rfl, hx⟩; have hall : Below w.heap.size w w1 := Below.trans (by go_grown) (hx.mono (by go_size)); have hsz : w.heap.size ≤ w1.heap.size := hall.size; clear hx)
            | (go_at_call 50; refine (acres_h _ t2 _ (hE.up hall) T2).mono ?_; rintro e w1 ⟨rfl, hx⟩; have hall : Below w.heap.size w w1 := Below.trans (by go_grown) (hx.mono (by go_size)); have hsz : w.heap.size ≤ w1.heap.size := hall.size; clear hx)
            | (go_at_call 59; refine (quadA_h _ t3 _ T3).mono ?_; rintro e w' ⟨rfl, rfl⟩)
            | (go_at_call 27; refine (measured_a _ (hE.up hall)).mono ?_; rintro e w1 ⟨rfl, hx⟩; have hall : Below w.heap.size w w1 := Below.trans (by go_grown) (hx.mono (by go_size)); have hsz : w.heap.size ≤ w1.heap.size := hall.size; clear hx))
          all_goals first
            | (go_ret; exact ⟨rfl, hall⟩)
            | (exfalso; have k1 := K1.out; have k2 := K2.out; have k3 := K3.out; simp_all; done)
  · go_enter Tryz.func19, Tryz.ntmps19
    go_wp2_with (go_at_call 27; refine (measured_a _ (hE.up hall)).mono ?_; rintro e w1 ⟨rfl, hx⟩; have hall : Below w.heap.size w w1 := Below.trans (by go_grown) (hx.mono (by go_size)); have hsz : w.heap.size ≤ w1.heap.size := hall.size; clear hx)
    all_goals first
      | (exfalso; omega)
      | (go_ret; exact ⟨rfl, hall⟩)
end Go.Proofs.YthncpapejijloaaGreatDoor
