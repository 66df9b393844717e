/- Walks of the reference: Needed, Common, Reverse, Narrower. -/
import Derived.Test.YthncpapejijloaaGreatDoorProg
import Derived.WalkKit
import Derived.WalkLawsBesides
import Derived.WalkSpells
import Derived.Handy
import Derived.Lib.Hide
import Derived.Great.BuildSlice
import Derived.Deep.QuietTactic
import Derived.BigQuiet
import Derived.Deep.RegionHeld3
import Derived.Deep.DeepCutAuto
import Derived.Test.YthncpapejijloaaGreatDoorBB
import Derived.Test.YthncpapejijloaaGreatDoorPlA
namespace Go.Proofs.YthncpapejijloaaGreatDoor
open Go.RowKit

theorem withN_ok {c : Pl.Crs} {k : Nat} (h : c.ok = true) (hk : k < 31) : (c.withN k).ok = true := by
  unfold Pl.Crs.ok Pl.courseOk Pl.Crs.withN at *
  simp only [Bool.and_eq_true, decide_eq_true_eq] at *
  exact ⟨by omega, h.2⟩
theorem withN_stepE {v : List (Int × Int)} {c : Pl.Crs} {dx dy : Int} {k : Nat} (h : Pl.stepE v c dx dy = 0) (hk : k < 31) : Pl.stepE v (c.withN k) dx dy = 0 := by
  obtain ⟨h1, h2⟩ := Pl.stepE_zero h
  obtain ⟨k0, k1, k2⟩ := Pl.commonE_one h1
  have e : Pl.commonE v [c.withN k] = 0 := by
    rw [sectorE, if_neg (by simp [k0]), if_pos (withN_ok k1 hk)]
    have : (Pl.decl v (c.withN k).y).2 = true := k2
    rw [if_pos this]
  unfold Pl.stepE
  rw [if_neg (by simp [e]), h2]; rfl
theorem fits_eq {v : List (Int × Int)} {c : Pl.Crs} {dx dy : Int} {k : Nat} (h : Pl.stepE v c dx dy = 0) (hk : k < 31) : Pl.fits v (c.withN k) dx dy = decide (Pl.fitD (c.withN k) (Pl.opened v c dx dy) dx dy = 0) := by
  have e := withN_stepE h hk
  unfold Pl.fits Pl.fitR
  rw [e, if_pos rfl, Pl.fitv_eq]
  unfold Pl.opened
  rw [if_pos h]
  have : (Pl.decl v (c.withN k).y).1 = (Pl.decl v c.y).1 := rfl
  rw [this]
  simp
set_option maxHeartbeats 1000000 in
theorem Needed_b (A : Option Addr) (cp : Nat) (v : List (Int × Int)) (c : Pl.Crs) (dx dy : Int) (w : World) (hl : Vars w w.heap.size A v) (hm : v.length ≤ maxLen) :
    Calls Tryz.prog 39 #[.slice A v.length cp, .agg #[.int .i64 c.b, .int .i64 c.n, .int .i64 c.l, .int .i64 c.y, .int .i64 c.x, .int .i64 c.s], .int .i64 dx, .int .i64 dy] w fun e w' => e = .returned (.tuple #[.int .i64 (Pl.need v c dx dy).1, .bool (Pl.need v c dx dy).2, .int .i64 (Pl.stepE v c dx dy)]) ∧ Below w.heap.size w w' := by
  by_cases h1 : Pl.stepE v c dx dy = 0
  · obtain ⟨k1, j0, j1, j2, j3, j4⟩ := stepE_ok h1
    have h1' : (Pl.stepE v c dx dy != 0) = false := by simp [h1]
    have hO : -60 ≤ Pl.opened v c dx dy ∧ Pl.opened v c dx dy ≤ 60 := by unfold Pl.opened; rw [if_pos h1]; exact decl_bd v c.y
    obtain ⟨o0, o1⟩ := hO
    have HK := Lib.hid k1
    have H1 := Lib.hid h1
    have hR : Hid (Pl.need v c dx dy = Pl.needGo v c dx dy 31 0) := by unfold Hid Pl.need; rw [if_pos h1]
    clear h1 k1
    go_enter Tryz.func39, Tryz.ntmps39
    go_wp2_with (go_at_call 81; refine (opened_b _ _ v c _ _ _ (hl.up (by go_grown)) hm).mono ?_; rintro e w1 ⟨rfl, hx1⟩; have kb1a : w1.heap[w.heap.size]? = some (.cells _ _ (0, 0)) := (hx1.block _ (by first | omega | (simp; done) | (simp; omega))).trans (heap_alloc_new _ _); obtain ⟨hc1a, hf1a⟩ := blk_cells kb1a; have hsz1 := hx1.size; (try simp at hsz1); have hb1 : Below w.heap.size w w1 := Below.trans (by go_grown) (hx1.mono (by go_size)); have hsz1w : w.heap.size ≤ w1.heap.size := hb1.size; clear hx1)
    go_loopw [13] (fun i wr => ∃ (k : Nat) (m : Int), k ≤ 31 ∧ i = .int .i64 k ∧ wr.heap[w.heap.size]? = some (.cells #[.int .i64 c.b, .int .i64 m, .int .i64 c.l, .int .i64 c.y, .int .i64 c.x, .int .i64 c.s] 29 (0, 0)) ∧ Hid (Pl.need v c dx dy = Pl.needGo v c dx dy (31 - k) k) ∧ Below w.heap.size w wr) (fun i _ => 31 - (intOf i).toNat)
    case atStart => exact ⟨0, c.n, by omega, rfl, kb1a, hR, by go_grown⟩
    case round =>
      obtain ⟨k, m, hk, rfl, kb, hg, hb⟩ := hrel
      have hsz := hb.size
      obtain ⟨hc7, hf7⟩ := blk_cells kb
      have hB := Lib.hid kb; clear kb
      have hlt := (Array.getElem?_eq_some_iff.1 hB.out).1
      by_cases h31 : k < 31
      · have hS := Lib.hid (heap_setCell_same wr w.heap.size 1 _ _ (.int .i64 (k : Int)) hB.out)
        have hstep : Hid (Pl.needGo v c dx dy (31 - k) k = if Pl.fits v (c.withN k) dx dy then ((k : Int), true) else Pl.needGo v c dx dy (31 - (k + 1)) (k + 1)) := by
          unfold Hid; rw [show 31 - k = (31 - (k + 1)) + 1 by omega]; rfl
        have HQ := Lib.hid (fits_eq H1.out h31)
        have HW := Lib.hid (withN_ok HK.out h31)
        by_cases hfit : Pl.fitD (c.withN k) (Pl.opened v c dx dy) dx dy = 0
        · have HF := Lib.hid hfit; clear hfit
          go_wp2_with (go_at_call 82; refine (either_b (c.withN k) _ _ _ _ HW.out o0 o1 j0 j1 j2 j3 j4).mono ?_; rintro e w1 ⟨rfl, hx1⟩; rw [HF.out]; have hb1 : Below w.heap.size w w1 := Below.trans (by go_grown) (hx1.mono (by go_size)); clear hx1)
          go_ret3
          exact ⟨by rw [hg.out, hstep.out, HQ.out, decide_eq_true HF.out, H1.out]; rfl, by go_grown⟩
        · have hne : (Pl.fitD (c.withN k) (Pl.opened v c dx dy) dx dy == 0) = false := by simpa using hfit
          have HF := Lib.hid hfit; clear hfit
          go_wp2_with (go_at_call 82; refine (either_b (c.withN k) _ _ _ _ HW.out o0 o1 j0 j1 j2 j3 j4).mono ?_; rintro e w1 ⟨rfl, hx1⟩; have kb1 := Lib.hid ((hx1.block _ (by go_size)).trans hS.out); have hb1 : Below w.heap.size w w1 := Below.trans (by go_grown) (hx1.mono (by go_size)); clear hx1)
          go_roundw
          case rel => exact ⟨k + 1, k, by omega, by go_num, kb1.out, by unfold Hid; rw [hg.out, hstep.out, HQ.out, decide_eq_false HF.out]; rfl, by go_grown⟩
          case measure => first | (simp [intOf]; done) | (simp [intOf]; omega)
      · obtain rfl : k = 31 := by omega
        go_wp2
        go_ret3
        exact ⟨by rw [hg.out, H1.out]; rfl, by go_grown⟩
  · have h1' : (Pl.stepE v c dx dy != 0) = true := by simp [h1]
    have hR : Hid (Pl.need v c dx dy = (0, false)) := by unfold Hid Pl.need; rw [if_neg h1]
    clear h1
    go_enter Tryz.func39, Tryz.ntmps39
    go_wp2_with (go_at_call 81; refine (opened_b _ _ v c _ _ _ (hl.up (by go_grown)) hm).mono ?_; rintro e w1 ⟨rfl, hx1⟩; have kb1a : w1.heap[w.heap.size]? = some (.cells _ _ (0, 0)) := (hx1.block _ (by first | omega | (simp; done) | (simp; omega))).trans (heap_alloc_new _ _); obtain ⟨hc1a, hf1a⟩ := blk_cells kb1a; have hsz1 := hx1.size; (try simp at hsz1); have hb1 : Below w.heap.size w w1 := Below.trans (by go_grown) (hx1.mono (by go_size)); have hsz1w : w.heap.size ≤ w1.heap.size := hb1.size; clear hx1)
    go_ret3
    exact ⟨by rw [hR.out]; rfl, by go_grown⟩
end Go.Proofs.YthncpapejijloaaGreatDoor

namespace Go.Proofs.YthncpapejijloaaGreatDoor
open Go.RowKit

theorem com_eqB {v : List (Int × Int)} {cs : List Pl.Crs} {dx : Int} (h : Pl.comE v cs dx = 0) : Pl.com v cs dx = Pl.comB v dx true (-100000) 100000 cs := by
  unfold Pl.com; rw [if_pos h, Pl.comB_eq (by omega)]
theorem ok_err {c : Pl.Crs} (h : c.ok = true) : Pl.err (Pl.courseOk c.b c.n c.l c.y c.x c.s) = 0 := by unfold Pl.Crs.ok at h; rw [h]; rfl
theorem bad_err {c : Pl.Crs} (h : ¬ c.ok = true) : Pl.err (Pl.courseOk c.b c.n c.l c.y c.x c.s) = 1 := by unfold Pl.Crs.ok at h; simp only [Bool.not_eq_true] at h; rw [h]; rfl
/-- One course out of several: its interval, where the errors in common are none. -/
theorem stepE_of {v : List (Int × Int)} {cs : List Pl.Crs} {dx : Int} (h : Pl.commonE v cs = 0) {k : Nat} (hk : k < cs.length) : Pl.stepE v cs[k] dx 0 = Pl.err (Pl.stepOk dx 0) := by
  obtain ⟨h0, h1, h2⟩ := Pl.commonE_all h
  have e : Pl.commonE v [cs[k]] = 0 := by
    rw [sectorE, if_neg (by simp [h0]), if_pos (Pl.all_mem h1 hk)]
    have := Pl.all_mem h2 hk
    rw [if_pos this]
  unfold Pl.stepE
  rw [if_neg (by simp [e])]
/-- What a loop that looks for the first error knows. -/
def InvE (p : Pl.Crs → Bool) (x : Int) (cs : List Pl.Crs) (k : Nat) (e : Int) : Prop := (e = 0 → (cs.take k).all p = true) ∧ (e = x → cs.all p = false)
theorem InvE.start {p : Pl.Crs → Bool} {x : Int} {cs : List Pl.Crs} (hx : x ≠ 0) : InvE p x cs 0 0 := ⟨fun _ => rfl, fun h => absurd h.symm hx⟩
theorem InvE.yes {p : Pl.Crs → Bool} {x : Int} {cs : List Pl.Crs} {k : Nat} (hx : x ≠ 0) (h : InvE p x cs k 0) (hk : k < cs.length) (hp : p cs[k] = true) : InvE p x cs (k + 1) 0 :=
  ⟨fun _ => by rw [Pl.all_take_succ _ _ _ hk, h.1 rfl, hp]; rfl, fun h => absurd h.symm hx⟩
theorem InvE.no {p : Pl.Crs → Bool} {x : Int} {cs : List Pl.Crs} {k : Nat} (hx : x ≠ 0) (hk : k < cs.length) (hp : p cs[k] = false) : InvE p x cs (k + 1) x :=
  ⟨fun h => absurd h hx, fun _ => Pl.all_not hk hp⟩
theorem InvE.all_yes {p : Pl.Crs → Bool} {x : Int} {cs : List Pl.Crs} (h : InvE p x cs cs.length 0) : cs.all p = true := by have := h.1 rfl; rwa [List.take_length] at this
theorem InvE.all_no {p : Pl.Crs → Bool} {x : Int} {cs : List Pl.Crs} {k : Nat} (h : InvE p x cs k x) : cs.all p = false := h.2 rfl
set_option maxRecDepth 100000 in
set_option maxHeartbeats 4000000 in
theorem com_b (A A' : Option Addr) (cp c' : Nat) (v : List (Int × Int)) (cs : List Pl.Crs) (dx : Int) (w : World) (hl : Vars w w.heap.size A v) (hm : v.length ≤ maxLen) (hcs : Crss w w.heap.size A' cs) (hm' : cs.length ≤ maxLen) :
    Calls Tryz.prog 41 #[.slice A v.length cp, .slice A' cs.length c', .int .i64 dx] w fun e w' => e = .returned (.tuple #[.int .i64 (Pl.com v cs dx).1, .int .i64 (Pl.com v cs dx).2.1, .bool (Pl.com v cs dx).2.2, .int .i64 (Pl.comE v cs dx)]) ∧ Below w.heap.size w w' := by
  unfold maxLen at hm'
  by_cases h40 : 40 < cs.length
  · have hE : Hid (Pl.comE v cs dx = 2) := by unfold Hid Pl.comE; rw [if_pos h40]
    have hR : Hid (Pl.com v cs dx = (0, 0, false)) := by unfold Hid Pl.com; rw [if_neg (by rw [hE.out]; decide)]
    go_enter Tryz.func41, Tryz.ntmps41
    go_wp2
    go_returns
    exact ⟨by rw [hE.out, hR.out]; try rfl, by go_grown⟩
  by_cases h00 : cs.length = 0
  · have hE : Hid (Pl.comE v cs dx = 5) := by unfold Hid Pl.comE; rw [if_neg h40, if_pos h00]
    have hR : Hid (Pl.com v cs dx = (0, 0, false)) := by unfold Hid Pl.com; rw [if_neg (by rw [hE.out]; decide)]
    go_enter Tryz.func41, Tryz.ntmps41
    go_wp2
    go_returns
    exact ⟨by rw [hE.out, hR.out]; try rfl, by go_grown⟩
  by_cases hv : Pl.vars v = 0
  · have HV := Lib.hid hv; clear hv
    go_enter Tryz.func41, Tryz.ntmps41
    go_wp2_with (go_at_call 71; refine (vars_b _ _ v _ hl hm).mono ?_; rintro e w1 ⟨rfl, hx⟩; rw [HV.out]; have hb1 : Below w.heap.size w w1 := Below.trans (by go_grown) (hx.mono (by go_size)); have hsz1 := hb1.size; clear hx)
    go_loopw [9, 10] (fun s9 i wr => ∃ (k : Nat) (e : Int), k ≤ cs.length ∧ i = .int .i64 k ∧ s9 = .int .i64 e ∧ (e = 0 ∨ e = 1) ∧ InvE Pl.Crs.ok 1 cs k e ∧ Below w.heap.size w wr) (fun _ i _ => cs.length - (intOf i).toNat)
    case atStart => exact ⟨0, 0, by omega, rfl, rfl, .inl rfl, InvE.start (by decide), by go_grown⟩
    case round =>
      obtain ⟨k, e, hk, rfl, rfl, he, hg, hb⟩ := hrel
      have hsz := hb.size
      rcases he with rfl | rfl
      · by_cases hlt : k < cs.length
        · obtain ⟨b, off, rfl, hbB, q0, q1, q2, q3, q4, q5⟩ := Crss.at6 (hcs.below hb) hlt
          by_cases hok : cs[k].ok = true
          · have HE := Lib.hid (ok_err hok)
            have HO := Lib.hid hok; clear hok
            go_wp2_with (go_at_call 69; refine (course_b _ _ _ _ _ _ _).mono ?_; rintro e w2 ⟨rfl, hx⟩; rw [HE.out]; have hb2 : Below w.heap.size w w2 := Below.trans (by go_grown) (hx.mono (by go_size)); have hsz2 := hb2.size; clear hx)
            go_roundw
            case rel => exact ⟨k + 1, 0, by omega, by go_num, rfl, .inl rfl, hg.yes (by decide) hlt HO.out, by go_grown⟩
            case measure => first | (simp [intOf]; done) | (simp [intOf]; omega)
          · have HE := Lib.hid (bad_err hok)
            have HO := Lib.hid hok; clear hok
            go_wp2_with (go_at_call 69; refine (course_b _ _ _ _ _ _ _).mono ?_; rintro e w2 ⟨rfl, hx⟩; rw [HE.out]; have hb2 : Below w.heap.size w w2 := Below.trans (by go_grown) (hx.mono (by go_size)); have hsz2 := hb2.size; clear hx)
            go_roundw
            case rel => exact ⟨k + 1, 1, by omega, by go_num, rfl, .inr rfl, InvE.no (by decide) hlt (by have := HO.out; simpa using this), by go_grown⟩
            case measure => first | (simp [intOf]; done) | (simp [intOf]; omega)
        · obtain rfl : k = cs.length := by omega
          have hall := hg.all_yes
          have HA := Lib.hid hall; clear hall hg
          go_wp2
          go_loopw [9, 11] (fun s9 i wr => ∃ (k : Nat) (e : Int), k ≤ cs.length ∧ i = .int .i64 k ∧ s9 = .int .i64 e ∧ (e = 0 ∨ e = 20) ∧ InvE (fun c => (Pl.decl v c.y).2) 20 cs k e ∧ Below w.heap.size w wr) (fun _ i _ => cs.length - (intOf i).toNat)
          case atStart => exact ⟨0, 0, by omega, rfl, rfl, .inl rfl, InvE.start (by decide), by go_grown⟩
          case round =>
            obtain ⟨k, e, hk, rfl, rfl, he, hg, hb2⟩ := hrel
            have hsz2 := hb2.size
            rcases he with rfl | rfl
            · by_cases hlt : k < cs.length
              · obtain ⟨b, off, rfl, hbB, q0, q1, q2, q3, q4, q5⟩ := Crss.at6 (hcs.below hb2) hlt
                by_cases hok : (Pl.decl v cs[k].y).2 = true
                · go_wp2_with (go_at_call 64; refine (decl_b _ _ _ _ _ (hl.up (by go_grown)) hm).mono ?_; rintro e w3 ⟨rfl, hx3⟩; have hb3 : Below w.heap.size w w3 := Below.trans (by go_grown) (hx3.mono (by go_size)); clear hx3; have hsz3 : w.heap.size ≤ w3.heap.size := hb3.size)
                  go_roundw
                  case rel => exact ⟨k + 1, 0, by omega, by go_num, rfl, .inl rfl, hg.yes (by decide) hlt hok, by go_grown⟩
                  case measure => first | (simp [intOf]; done) | (simp [intOf]; omega)
                · have hok' : (Pl.decl v cs[k].y).2 = false := by simpa using hok
                  clear hok
                  go_wp2_with (go_at_call 64; refine (decl_b _ _ _ _ _ (hl.up (by go_grown)) hm).mono ?_; rintro e w3 ⟨rfl, hx3⟩; have hb3 : Below w.heap.size w w3 := Below.trans (by go_grown) (hx3.mono (by go_size)); clear hx3; have hsz3 : w.heap.size ≤ w3.heap.size := hb3.size)
                  go_roundw
                  case rel => exact ⟨k + 1, 20, by omega, by go_num, rfl, .inr rfl, InvE.no (by decide) hlt hok', by go_grown⟩
                  case measure => first | (simp [intOf]; done) | (simp [intOf]; omega)
              · obtain rfl : k = cs.length := by omega
                have hall := hg.all_yes
                have hc0 : Pl.commonE v cs = 0 := by unfold Pl.commonE; rw [if_neg (by simp [HV.out]), if_pos HA.out, if_pos hall]
                have HC := Lib.hid hc0; clear hall hg hc0
                by_cases hs : Pl.stepOk dx 0 = true
                · obtain ⟨j0, j1, j2, _⟩ := Pl.stepOk_iff hs
                  have hE : Hid (Pl.comE v cs dx = 0) := by unfold Hid Pl.comE; rw [if_neg h40, if_neg h00, if_neg (by simp [HC.out]), hs]; rfl
                  have hR := Lib.hid (com_eqB hE.out)
                  have HS := Lib.hid hs; clear hs
                  go_wp2
                  go_loopw [6, 7, 8, 14] (fun a b o i wr => ∃ (k : Nat) (lo hi : Int) (ok : Bool), k ≤ cs.length ∧ i = .int .i64 k ∧ a = .int .i64 lo ∧ b = .int .i64 hi ∧ o = .bool ok ∧ Hid (Pl.com v cs dx = Pl.comB v dx ok lo hi (cs.drop k)) ∧ Below w.heap.size w wr) (fun _ _ _ i _ => cs.length - (intOf i).toNat)
                  case atStart => exact ⟨0, -100000, 100000, true, by omega, rfl, rfl, rfl, rfl, hR, by go_grown⟩
                  case round =>
                    obtain ⟨k, lo, hi, ok, hk, rfl, rfl, rfl, rfl, hg, hb3⟩ := hrel
                    have hsz3 := hb3.size
                    by_cases hlt : k < cs.length
                    · obtain ⟨b, off, rfl, hbB, q0, q1, q2, q3, q4, q5⟩ := Crss.at6 (hcs.below hb3) hlt
                      have hg2 := Lib.hid (Pl.comB_drop (v := v) (dx := dx) (lo := lo) (hi := hi) (ok := ok) hlt)
                      have hz : Pl.stepE v cs[k] dx 0 = 0 := by rw [stepE_of HC.out hlt, HS.out]; rfl
                      have he0 : Hid (Pl.comE v [cs[k]] dx = 0) := by unfold Hid; rw [Pl.comE_one]; exact hz
                      have hc1 : Hid (Pl.com v [cs[k]] dx = Pl.ivlC v cs[k] dx) := by unfold Hid; rw [Pl.com_one, if_pos hz]
                      clear hz
                      go_wp2_with (go_at_call 37; refine (Interval_b _ _ v cs[k] _ _ (hl.up (by go_grown)) hm).mono ?_; rintro e w2 ⟨rfl, hx⟩; rw [he0.out, hc1.out]; have hb2 : Below w.heap.size w w2 := Below.trans (by go_grown) (hx.mono (by go_size)); have hsz2 := hb2.size; clear hx)
                      all_goals (
                        go_roundw
                        case rel => exact ⟨k + 1, max lo (Pl.ivlC v cs[k] dx).1, min hi (Pl.ivlC v cs[k] dx).2.1, ok && (Pl.ivlC v cs[k] dx).2.2, by omega, by go_num, congrArg (Value.int .i64) (by omega), congrArg (Value.int .i64) (by omega), by simp_all, by unfold Hid; rw [hg.out, hg2.out], by go_grown⟩
                        case measure => (first | (simp [intOf]; done) | (simp [intOf]; omega)))
                    · obtain rfl : k = cs.length := by omega
                      go_wp2
                      all_goals go_returns
                      all_goals exact ⟨by rw [hE.out, hg.out, List.drop_length]; unfold Pl.comB; first | (rw [if_pos (by simp_all)]; done) | (rw [if_pos (by simp_all)]; rfl) | (rw [if_neg (by first | (simp_all; done) | (simp_all; omega))]; done) | (rw [if_neg (by first | (simp_all; done) | (simp_all; omega))]; rfl), by go_grown⟩
                · have hs' : Pl.err (Pl.stepOk dx 0) = 1 := by simp only [Bool.not_eq_true] at hs; rw [hs]; rfl
                  have hE : Hid (Pl.comE v cs dx = 1) := by unfold Hid Pl.comE; rw [if_neg h40, if_neg h00, if_neg (by simp [HC.out]), hs']
                  have hR : Hid (Pl.com v cs dx = (0, 0, false)) := by unfold Hid Pl.com; rw [if_neg (by rw [hE.out]; decide)]
                  have HS := Lib.hid hs'; clear hs hs'
                  go_wp2
                  go_loopw [6, 7, 8, 14] (fun a b o i wr => i = .int .i64 0 ∧ a = .int .i64 (-100000) ∧ b = .int .i64 100000 ∧ o = .bool true ∧ Below w.heap.size w wr) (fun _ _ _ i _ => 0)
                  case atStart => exact ⟨rfl, rfl, rfl, rfl, by go_grown⟩
                  case round =>
                    obtain ⟨rfl, rfl, rfl, rfl, hb3⟩ := hrel
                    have hsz3 := hb3.size
                    have hlt : 0 < cs.length := by omega
                    obtain ⟨b, off, rfl, hbB, q0, q1, q2, q3, q4, q5⟩ := Crss.at6 (hcs.below hb3) hlt
                    have he0 : Hid (Pl.comE v [cs[0]] dx = 1) := by unfold Hid; rw [Pl.comE_one, stepE_of HC.out hlt, HS.out]
                    simp only [Nat.zero_mul, Nat.add_zero] at q0 q1 q2 q3 q4 q5
                    go_wp2_with (go_at_call 37; refine (Interval_b _ _ v cs[0] _ _ (hl.up (by go_grown)) hm).mono ?_; rintro e w2 ⟨rfl, hx⟩; rw [he0.out]; have hb2 : Below w.heap.size w w2 := Below.trans (by go_grown) (hx.mono (by go_size)); have hsz2 := hb2.size; clear hx)
                    go_returns
                    exact ⟨by rw [hE.out, hR.out]; try rfl, by go_grown⟩
            · have hc0 : Pl.commonE v cs = 20 := by unfold Pl.commonE; rw [if_neg (by simp [HV.out]), if_pos HA.out, if_neg (by rw [hg.all_no]; decide)]
              have hE : Hid (Pl.comE v cs dx = 20) := by unfold Hid Pl.comE; rw [if_neg h40, if_neg h00, if_pos (by rw [hc0]; decide), hc0]
              have hR : Hid (Pl.com v cs dx = (0, 0, false)) := by unfold Hid Pl.com; rw [if_neg (by rw [hE.out]; decide)]
              clear hc0
              go_wp2
              all_goals go_returns
              all_goals exact ⟨by rw [hE.out, hR.out]; try rfl, by go_grown⟩
      · have hc0 : Pl.commonE v cs = 1 := by unfold Pl.commonE; rw [if_neg (by simp [HV.out]), if_neg (by rw [hg.all_no]; decide)]
        have hE : Hid (Pl.comE v cs dx = 1) := by unfold Hid Pl.comE; rw [if_neg h40, if_neg h00, if_pos (by rw [hc0]; decide), hc0]
        have hR : Hid (Pl.com v cs dx = (0, 0, false)) := by unfold Hid Pl.com; rw [if_neg (by rw [hE.out]; decide)]
        clear hc0
        go_wp2
        all_goals (
          go_loopw [9, 11] (fun s9 i wr => i = .int .i64 0 ∧ s9 = .int .i64 1 ∧ Below w.heap.size w wr) (fun _ _ _ => 0)
          case atStart => exact ⟨rfl, rfl, by go_grown⟩
          case round =>
            obtain ⟨rfl, rfl, hb3⟩ := hrel
            have hsz3 := hb3.size
            go_wp2
            go_returns
            exact ⟨by rw [hE.out, hR.out]; try rfl, by go_grown⟩)
  · have hc0 : Pl.commonE v cs = Pl.vars v := by unfold Pl.commonE; rw [if_pos hv]
    have hE : Hid (Pl.comE v cs dx = Pl.vars v) := by unfold Hid Pl.comE; rw [if_neg h40, if_neg h00, if_pos (by rw [hc0]; exact hv), hc0]
    have hR : Hid (Pl.com v cs dx = (0, 0, false)) := by unfold Hid Pl.com; rw [if_neg (by rw [hE.out]; exact hv)]
    have hv1 : (Pl.vars v == 0) = false := by simp [hv]
    have hv2 : (Pl.vars v != 0) = true := by simp [hv]
    clear hc0 hv
    go_enter Tryz.func41, Tryz.ntmps41
    go_wp2_with (go_at_call 71; refine (vars_b _ _ v _ hl hm).mono ?_; rintro e w1 ⟨rfl, hx1⟩; have hb1 : Below w.heap.size w w1 := Below.trans (by go_grown) (hx1.mono (by go_size)); clear hx1; have hsz1 : w.heap.size ≤ w1.heap.size := hb1.size)
    go_loopw [9, 10] (fun s9 i wr => i = .int .i64 0 ∧ s9 = .int .i64 (Pl.vars v) ∧ Below w.heap.size w wr) (fun _ _ _ => 0)
    case atStart => exact ⟨rfl, rfl, by go_grown⟩
    case round =>
      obtain ⟨rfl, rfl, hb3⟩ := hrel
      have hsz3 := hb3.size
      go_wp2
      go_loopw [9, 11] (fun s9 i wr => i = .int .i64 0 ∧ s9 = .int .i64 (Pl.vars v) ∧ Below w.heap.size w wr) (fun _ _ _ => 0)
      case atStart => exact ⟨rfl, rfl, by go_grown⟩
      case round =>
        obtain ⟨rfl, rfl, hb4⟩ := hrel
        have hsz4 := hb4.size
        go_wp2
        go_returns
        exact ⟨by rw [hE.out, hR.out]; try rfl, by go_grown⟩
end Go.Proofs.YthncpapejijloaaGreatDoor

namespace Go.Proofs.YthncpapejijloaaGreatDoor
open Go.RowKit

theorem ReverseB_ok (c : Pl.Crs) (w : World) (h : c.ok = true) : Calls Tryz.prog 52 #[.agg #[.int .i64 c.b, .int .i64 c.n, .int .i64 c.l, .int .i64 c.y, .int .i64 c.x, .int .i64 c.s]] w fun e w' => e = .returned (.tuple #[.agg #[.int .i64 ((c.b + 180) % 360), .int .i64 c.n, .int .i64 c.l, .int .i64 c.y, .int .i64 c.x, .int .i64 c.s], .int .i64 0]) ∧ Below w.heap.size w w' := by
  obtain ⟨⟨g0, g1⟩, _⟩ := c.ok_iff h
  have HE := Lib.hid (ok_err h); clear h
  go_enter Tryz.func52, Tryz.ntmps52
  go_wp2_with (first
    | (go_at_call 69; refine (course_b _ _ _ _ _ _ _).mono ?_; rintro e w1 ⟨rfl, hx⟩; rw [HE.out]; have kb1 := (hx.block w.heap.size (by first | omega | (simp; done) | (simp; omega))).trans (heap_alloc2_old _ _ _); obtain ⟨hc1, hf1⟩ := blk_cells kb1; have kb2 := (hx.block (w.heap.size + 1) (by first | omega | (simp; done) | (simp; omega))).trans (heap_alloc2_new _ _ _); obtain ⟨hc2, hf2⟩ := blk_cells kb2; have hb1 : Below w.heap.size w w1 := Below.trans (by go_grown) (hx.mono (by go_size)); have hsz1 := hb1.size; have hlt1 := (Array.getElem?_eq_some_iff.1 kb2).1; clear hx)
    | (go_at_call 22; refine (norm_b _ _).mono ?_; rintro e w' ⟨rfl, rfl⟩))
  have hlt2 : w.heap.size < w1.heap.size := by omega
  refine bodyPost_ret (v := .tuple #[.agg #[.int .i64 ((c.b + 180) % 360), .int .i64 c.n, .int .i64 c.l, .int .i64 c.y, .int .i64 c.x, .int .i64 c.s], .int .i64 0]) (by simp [results, Tryz.results52, go_sem, hc2]) rfl ⟨rfl, by go_grown⟩
theorem ReverseB_no (c : Pl.Crs) (w : World) (h : ¬ c.ok = true) : Calls Tryz.prog 52 #[.agg #[.int .i64 c.b, .int .i64 c.n, .int .i64 c.l, .int .i64 c.y, .int .i64 c.x, .int .i64 c.s]] w fun e w' => e = .returned (.tuple #[.agg #[.int .i64 0, .int .i64 0, .int .i64 0, .int .i64 0, .int .i64 0, .int .i64 0], .int .i64 1]) ∧ Below w.heap.size w w' := by
  have HE := Lib.hid (bad_err h); clear h
  go_enter Tryz.func52, Tryz.ntmps52
  go_wp2_with (first
    | (go_at_call 69; refine (course_b _ _ _ _ _ _ _).mono ?_; rintro e w1 ⟨rfl, hx⟩; rw [HE.out]; have kb2 := (hx.block (w.heap.size + 1) (by first | omega | (simp; done) | (simp; omega))).trans (heap_alloc2_new _ _ _); obtain ⟨hc2, hf2⟩ := blk_cells kb2; have hb1 : Below w.heap.size w w1 := Below.trans (by go_grown) (hx.mono (by go_size)); have hsz1 := hb1.size; have hlt1 := (Array.getElem?_eq_some_iff.1 kb2).1; clear hx))
  refine bodyPost_ret (v := .tuple #[.agg #[.int .i64 0, .int .i64 0, .int .i64 0, .int .i64 0, .int .i64 0, .int .i64 0], .int .i64 1]) (by simp [results, Tryz.results52, go_sem, hc2]) rfl ⟨rfl, by go_grown⟩

theorem narrower_no1 {a b : Pl.Crs} (h : ¬ a.ok = true) : Pl.narrower a b = false := by unfold Pl.narrower; simp only [Bool.not_eq_true] at h; rw [h]; rfl
theorem narrower_no2 {a b : Pl.Crs} (h : ¬ b.ok = true) : Pl.narrower a b = false := by unfold Pl.narrower; simp only [Bool.not_eq_true] at h; rw [h]; simp
theorem narrower_yes {a b : Pl.Crs} (h : a.ok = true) (k : b.ok = true) : Pl.narrower a b = decide (a.b = b.b ∧ a.l = b.l ∧ a.y = b.y ∧ a.n ≤ b.n ∧ b.x - b.s ≤ a.x - a.s ∧ a.x + a.s ≤ b.x + b.s) := by unfold Pl.narrower; rw [h, k]; simp
set_option maxRecDepth 100000 in
set_option maxHeartbeats 2000000 in
theorem Narrower_a (a b : Pl.Crs) (w : World) : Calls Tryz.prog 53 #[.agg #[.int .i64 a.b, .int .i64 a.n, .int .i64 a.l, .int .i64 a.y, .int .i64 a.x, .int .i64 a.s], .agg #[.int .i64 b.b, .int .i64 b.n, .int .i64 b.l, .int .i64 b.y, .int .i64 b.x, .int .i64 b.s]] w fun e w' => e = .returned (.bool (Pl.narrower a b)) ∧ Below w.heap.size w w' := by
  by_cases ha : a.ok = true
  · obtain ⟨_, _, _, _, ⟨i8, i9⟩, i10, i11⟩ := a.ok_iff ha
    have HA := Lib.hid (ok_err ha)
    by_cases hb : b.ok = true
    · obtain ⟨_, _, _, _, ⟨j8, j9⟩, j10, j11⟩ := b.ok_iff hb
      have HB := Lib.hid (ok_err hb)
      have HN := Lib.hid (narrower_yes ha hb)
      clear ha hb
      go_enter Tryz.func53, Tryz.ntmps53
      go_wp2_with fail
      go_at_call 43
      refine (course_a _ _ _ _ _ _ _).mono ?_
      rintro e w1 ⟨rfl, hx⟩
      rw [HA.out]
      have k1 := (hx.block w.heap.size (by first | omega | (simp; done) | (simp; omega))).trans (heap_alloc2_old _ _ _)
      have k2 := (hx.block (w.heap.size + 1) (by first | omega | (simp; done) | (simp; omega))).trans (heap_alloc2_new _ _ _)
      have hb1 : Below w.heap.size w w1 := Below.trans (by go_grown) (hx.mono (by go_size))
      clear hx
      obtain ⟨hc1, hf1⟩ := blk_cells k1
      obtain ⟨hc2, hf2⟩ := blk_cells k2
      have hlt2 := (Array.getElem?_eq_some_iff.1 k2).1
      have hsz1 := hb1.size
      go_wp2_with fail
      go_at_call 43
      refine (course_a _ _ _ _ _ _ _).mono ?_
      rintro e w2 ⟨rfl, hx⟩
      rw [HB.out]
      have m1 := (hx.block w.heap.size (by omega)).trans k1
      have m2 := (hx.block (w.heap.size + 1) (by omega)).trans k2
      have hb2 : Below w.heap.size w w2 := Below.trans hb1 (hx.mono hsz1)
      clear hx hc1 hf1 hc2 hf2
      obtain ⟨hc1, hf1⟩ := blk_cells m1
      obtain ⟨hc2, hf2⟩ := blk_cells m2
      have hlt2 := (Array.getElem?_eq_some_iff.1 m2).1
      have hlt1 : w.heap.size < w2.heap.size := by omega
      have hsz2 := hb2.size
      clear m1 m2 k1 k2 hb1 hsz1
      go_wp2
      go_region
      all_goals go_wp2
      all_goals go_ret
      all_goals exact ⟨by rw [HN.out]; exact ret_bool (by grind), by go_grown⟩
    · have HB := Lib.hid (bad_err hb)
      have HN := Lib.hid (narrower_no2 (a := a) hb)
      clear ha hb
      go_enter Tryz.func53, Tryz.ntmps53
      go_wp2_with fail
      go_at_call 43
      refine (course_a _ _ _ _ _ _ _).mono ?_
      rintro e w1 ⟨rfl, hx⟩
      rw [HA.out]
      have k2 := (hx.block (w.heap.size + 1) (by first | omega | (simp; done) | (simp; omega))).trans (heap_alloc2_new _ _ _)
      have hb1 : Below w.heap.size w w1 := Below.trans (by go_grown) (hx.mono (by go_size))
      clear hx
      obtain ⟨hc2, hf2⟩ := blk_cells k2
      have hsz1 := hb1.size
      go_wp2_with fail
      go_at_call 43
      refine (course_a _ _ _ _ _ _ _).mono ?_
      rintro e w2 ⟨rfl, hx⟩
      rw [HB.out]
      have hb2 : Below w.heap.size w w2 := Below.trans hb1 (hx.mono hsz1)
      go_wp2
      go_ret
      exact ⟨by rw [HN.out]; try rfl, hb2⟩
  · have HA := Lib.hid (bad_err ha)
    have HN := Lib.hid (narrower_no1 (b := b) ha)
    clear ha
    go_enter Tryz.func53, Tryz.ntmps53
    go_wp2_with fail
    go_at_call 43
    refine (course_a _ _ _ _ _ _ _).mono ?_
    rintro e w1 ⟨rfl, hx⟩
    rw [HA.out]
    have hb1 : Below w.heap.size w w1 := Below.trans (by go_grown) (hx.mono (by go_size))
    go_wp2
    go_ret
    exact ⟨by rw [HN.out]; try rfl, hb1⟩
set_option maxRecDepth 100000 in
set_option maxHeartbeats 2000000 in
theorem Narrower_b (a b : Pl.Crs) (w : World) : Calls Tryz.prog 54 #[.agg #[.int .i64 a.b, .int .i64 a.n, .int .i64 a.l, .int .i64 a.y, .int .i64 a.x, .int .i64 a.s], .agg #[.int .i64 b.b, .int .i64 b.n, .int .i64 b.l, .int .i64 b.y, .int .i64 b.x, .int .i64 b.s]] w fun e w' => e = .returned (.bool (Pl.narrower a b)) ∧ Below w.heap.size w w' := by
  by_cases ha : a.ok = true
  · obtain ⟨_, _, _, _, ⟨i8, i9⟩, i10, i11⟩ := a.ok_iff ha
    have HA := Lib.hid (ok_err ha)
    by_cases hb : b.ok = true
    · obtain ⟨_, _, _, _, ⟨j8, j9⟩, j10, j11⟩ := b.ok_iff hb
      have HB := Lib.hid (ok_err hb)
      have HN := Lib.hid (narrower_yes ha hb)
      clear ha hb
      go_enter Tryz.func54, Tryz.ntmps54
      go_wp2_with fail
      go_at_call 69
      refine (course_b _ _ _ _ _ _ _).mono ?_
      rintro e w1 ⟨rfl, hx⟩
      rw [HA.out]
      have k1 := (hx.block w.heap.size (by first | omega | (simp; done) | (simp; omega))).trans (heap_alloc2_old _ _ _)
      have k2 := (hx.block (w.heap.size + 1) (by first | omega | (simp; done) | (simp; omega))).trans (heap_alloc2_new _ _ _)
      have hb1 : Below w.heap.size w w1 := Below.trans (by go_grown) (hx.mono (by go_size))
      clear hx
      obtain ⟨hc1, hf1⟩ := blk_cells k1
      obtain ⟨hc2, hf2⟩ := blk_cells k2
      have hlt2 := (Array.getElem?_eq_some_iff.1 k2).1
      have hsz1 := hb1.size
      go_wp2_with fail
      go_at_call 69
      refine (course_b _ _ _ _ _ _ _).mono ?_
      rintro e w2 ⟨rfl, hx⟩
      rw [HB.out]
      have m1 := (hx.block w.heap.size (by omega)).trans k1
      have m2 := (hx.block (w.heap.size + 1) (by omega)).trans k2
      have hb2 : Below w.heap.size w w2 := Below.trans hb1 (hx.mono hsz1)
      clear hx hc1 hf1 hc2 hf2
      obtain ⟨hc1, hf1⟩ := blk_cells m1
      obtain ⟨hc2, hf2⟩ := blk_cells m2
      have hlt2 := (Array.getElem?_eq_some_iff.1 m2).1
      have hlt1 : w.heap.size < w2.heap.size := by omega
      have hsz2 := hb2.size
      clear m1 m2 k1 k2 hb1 hsz1
      go_wp2
      all_goals go_ret
      all_goals exact ⟨by rw [HN.out]; exact ret_bool (by grind), by go_grown⟩
    · have HB := Lib.hid (bad_err hb)
      have HN := Lib.hid (narrower_no2 (a := a) hb)
      clear ha hb
      go_enter Tryz.func54, Tryz.ntmps54
      go_wp2_with fail
      go_at_call 69
      refine (course_b _ _ _ _ _ _ _).mono ?_
      rintro e w1 ⟨rfl, hx⟩
      rw [HA.out]
      have k2 := (hx.block (w.heap.size + 1) (by first | omega | (simp; done) | (simp; omega))).trans (heap_alloc2_new _ _ _)
      have hb1 : Below w.heap.size w w1 := Below.trans (by go_grown) (hx.mono (by go_size))
      clear hx
      obtain ⟨hc2, hf2⟩ := blk_cells k2
      have hsz1 := hb1.size
      go_wp2_with fail
      go_at_call 69
      refine (course_b _ _ _ _ _ _ _).mono ?_
      rintro e w2 ⟨rfl, hx⟩
      rw [HB.out]
      have hb2 : Below w.heap.size w w2 := Below.trans hb1 (hx.mono hsz1)
      go_wp2
      go_ret
      exact ⟨by rw [HN.out]; try rfl, hb2⟩
  · have HA := Lib.hid (bad_err ha)
    have HN := Lib.hid (narrower_no1 (b := b) ha)
    clear ha
    go_enter Tryz.func54, Tryz.ntmps54
    go_wp2_with fail
    go_at_call 69
    refine (course_b _ _ _ _ _ _ _).mono ?_
    rintro e w1 ⟨rfl, hx⟩
    rw [HA.out]
    have hb1 : Below w.heap.size w w1 := Below.trans (by go_grown) (hx.mono (by go_size))
    go_wp2
    go_ret
    exact ⟨by rw [HN.out]; try rfl, hb1⟩
end Go.Proofs.YthncpapejijloaaGreatDoor
