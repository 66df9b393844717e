/- Walk of the law of what several courses share. -/
import Derived.Test.YthncpapejijloaaGreatDoorProg
import Derived.WalkKit
import Derived.WalkLawsBesides
import Derived.WalkSpells
import Derived.Handy
import Derived.Lib.Hide
import Derived.Great.BuildSlice
import Derived.Deep.QuietTactic
import Derived.BigQuiet
import Derived.Deep.RegionHeld3
import Derived.Deep.DeepCutAuto
import Derived.Test.YthncpapejijloaaGreatDoorLx
import Derived.Test.YthncpapejijloaaGreatDoorLCom
namespace Go.Proofs.YthncpapejijloaaGreatDoor
open Go.RowKit

def fitB (v : List (Int × Int)) (dx y : Int) (c : Pl.Crs) : Bool := decide (Pl.stepE v c dx y = 0 ∧ Pl.fitR v c dx y = 0)
theorem all_exact {v : List (Int × Int)} {cs : List Pl.Crs} {dx y : Int} (h : Pl.comE v cs dx = 0) (y0 : -100000 ≤ y) (y1 : y ≤ 100000) :
    cs.all (fitB v dx y) = ((Pl.com v cs dx).2.2 && decide ((Pl.com v cs dx).1 ≤ y) && decide (y ≤ (Pl.com v cs dx).2.1)) := by
  have k := Pl.com_spec (y := y) h y0 y1
  unfold Pl.inIvl at k
  rw [Bool.eq_iff_iff, List.all_eq_true]
  simp only [Bool.and_eq_true, decide_eq_true_eq]
  constructor
  · intro hc
    obtain ⟨a, b, d⟩ := k.2 (fun c hm => by have := hc c hm; unfold fitB at this; exact (of_decide_eq_true this).2)
    exact ⟨⟨a, b⟩, d⟩
  · rintro ⟨⟨a, b⟩, d⟩ c hm
    unfold fitB
    exact decide_eq_true ⟨Pl.stepE_mem h y0 y1 hm, k.1 ⟨a, b, d⟩ c hm⟩
theorem Common_h (A A' : Option Addr) (cp c' : Nat) (v : List (Int × Int)) (cs : List Pl.Crs) (dx lo hi E : Int) (ok : Bool) (w : World) (hC : Hid (Pl.com v cs dx = (lo, hi, ok))) (hE : Hid (Pl.comE v cs dx = E)) (hl : Vars w w.heap.size A v) (hm : v.length ≤ maxLen) (hcs : Crss w w.heap.size A' cs) (hm' : cs.length ≤ maxLen) :
    Calls Tryz.prog 40 #[.slice A v.length cp, .slice A' cs.length c', .int .i64 dx] w fun e w' => e = .returned (.tuple #[.int .i64 lo, .int .i64 hi, .bool ok, .int .i64 E]) ∧ Below w.heap.size w w' := by
  have h := com_t A A' cp c' v cs dx w hl hm hcs hm'
  rw [hC.out, hE.out] at h
  exact h
set_option maxRecDepth 100000 in
set_option maxHeartbeats 4000000 in
theorem courseShared_w     (A : Option Addr) (cp : Nat) (v : List (Int × Int)) (A' : Option Addr) (c' : Nat) (cs : List Pl.Crs) (dx dy : Int) (w : World) (hE : Env w) (hl : Vars w w.heap.size A v) (hm : v.length ≤ maxLen) (hcs : Crss w w.heap.size A' cs) (hm' : cs.length ≤ maxLen) :
    Calls Tryz.prog 12 #[.slice A v.length cp, .slice A' cs.length c', .int .i64 dx, .int .i64 dy] w fun e w' => e = .returned (.bool true) ∧ Below w.heap.size w w' := by
  have hmm := hm'
  unfold maxLen at hmm
  have h8 : 8 ≤ w.heap.size := hE.size
  have hall : Below w.heap.size w w := Below.refl _ _
  have hsz : w.heap.size ≤ w.heap.size := Nat.le_refl _
  by_cases h60 : v.length ≤ 60
  · by_cases h20 : cs.length ≤ 20
    · by_cases hy : -100000 ≤ dy ∧ dy ≤ 100000
      · obtain ⟨y0, y1⟩ := hy
        obtain ⟨lo, hi, ok, hcom⟩ : ∃ lo hi ok, Pl.com v cs dx = (lo, hi, ok) := ⟨_, _, _, rfl⟩
        obtain ⟨b0, b1, b2⟩ := Pl.com_bd v cs dx
        rw [hcom] at b0 b1 b2
        simp only [] at b0 b1 b2
        by_cases he : Pl.comE v cs dx = 0
        · have key : ∀ y, -100000 ≤ y → y ≤ 100000 → cs.all (fitB v dx y) = (ok && decide (lo ≤ y) && decide (y ≤ hi)) := by
            intro y h0 h1
            have := all_exact he h0 h1
            rwa [hcom] at this
          have HK := Lib.hid key
          have HC := Lib.hid hcom
          have HE := Lib.hid he
          clear key hcom he
          go_enter Tryz.func12, Tryz.ntmps12
          go_wp2_with (first
            | (go_at_call 32; refine (few_yes _ _ _ _ h60).mono ?_; rintro e w' ⟨rfl, rfl⟩)
            | (go_at_call 40; refine (Common_h _ _ _ _ v cs _ _ _ _ _ _ HC HE (hl.up (by go_grown)) hm (hcs.up (by go_grown)) hm').mono ?_; rintro e w1 ⟨rfl, hx⟩; have hall : Below w.heap.size w w1 := Below.trans (by go_grown) (hx.mono (by go_size)); have hsz : w.heap.size ≤ w1.heap.size := hall.size; clear hx))
          go_loopw [14] (fun i wr => ∃ (k : Nat) (l : List Int), k ≤ 5 ∧ i = .int .i64 k ∧ l.length = 5 ∧ wr.heap[w1.heap.size]? = some (.cells (l.map (Value.int .i64)).toArray 3 (0, 0)) ∧ Below w.heap.size w wr) (fun i _ => 5 - (intOf i).toNat)
          case atStart => exact ⟨0, [_, _, _, _, _], by omega, rfl, rfl, heap_alloc_new _ _, by go_grown⟩
          case round =>
            obtain ⟨k, l, hk, rfl, hlen, kg, hb⟩ := hrel
            have hsz2 := hb.size
            have hltg := (Array.getElem?_eq_some_iff.1 kg).1
            by_cases hlt : k < 5
            · have hyc := ints_cell kg (show k < l.length by omega)
              obtain ⟨y, hy⟩ : ∃ y, l[k] = y := ⟨_, rfl⟩
              rw [hy] at hyc
              clear hy
              have HL := Lib.hid hlen; clear hlen
              by_cases hr : -100000 ≤ y ∧ y ≤ 100000
              · obtain ⟨r0, r1⟩ := hr
                have KG := Lib.hid kg; clear kg
                go_wp2
                go_loopw [16, 17] (fun a i wx => ∃ (j : Nat) (B : Bool), j ≤ cs.length ∧ i = .int .i64 j ∧ a = .bool B ∧ Hid ((cs.take j).all (fitB v dx y) = B) ∧ wx.heap[w1.heap.size]? = some (.cells (l.map (Value.int .i64)).toArray 3 (0, 0)) ∧ Below w.heap.size w wx) (fun _ i _ => cs.length - (intOf i).toNat)
                case atStart => exact ⟨0, true, by omega, rfl, rfl, by unfold Hid; simp, KG.out, by go_grown⟩
                case round =>
                  obtain ⟨j, B, hj, rfl, rfl, hg, kx, hb3⟩ := hrel
                  have hsz3 := hb3.size
                  have hltx := (Array.getElem?_eq_some_iff.1 kx).1
                  by_cases hlj : j < cs.length
                  · obtain ⟨b, off, rfl, hbB, q0, q1, q2, q3, q4, q5⟩ := Crss.at6 (hcs.below hb3) hlj
                    obtain ⟨X, hX⟩ : ∃ X, decide (Pl.stepE v cs[j] dx y = 0 ∧ Pl.fitR v cs[j] dx y = 0) = X := ⟨_, rfl⟩
                    have HX := Lib.hid hX
                    have HZ := Lib.hid (Pl.stepE_mem HE.out r0 r1 (List.getElem_mem hlj))
                    have HT : Hid ((cs.take (j + 1)).all (fitB v dx y) = (B && X)) := by unfold Hid; rw [Pl.all_take_succ _ _ _ hlj, hg.out]; unfold fitB; rw [hX]
                    clear hX
                    go_wp2_with (go_at_call 35; refine (Fits_hh _ _ v cs[j] _ _ X 0 _ HX HZ (hl.up (by go_grown)) hm).mono ?_; rintro e w4 ⟨rfl, hx⟩; have kx := (hx.block (w1.heap.size) (by first | exact (Array.getElem?_eq_some_iff.1 kx).1 | omega | (simp; done) | (simp; omega))).trans (by first | exact kx | exact (Below.heap_alloc _ _ _ (Array.getElem?_eq_some_iff.1 kx).1).trans kx); obtain ⟨hckx, hfkx⟩ := blk_cells kx; have hltkx := (Array.getElem?_eq_some_iff.1 kx).1; have hall : Below w.heap.size w w4 := Below.trans (by go_grown) (hx.mono (by go_size)); have hsz : w.heap.size ≤ w4.heap.size := hall.size; clear hx)
                    all_goals (
                      go_roundw
                      case rel => exact ⟨j + 1, B && X, by omega, by go_num, by simp_all, HT, kx, by go_grown⟩
                      case measure => first | (simp [intOf]; done) | (simp [intOf]; omega))
                  · obtain rfl : j = cs.length := by omega
                    have hg2 := hg.out
                    rw [List.take_length, HK.out y r0 r1] at hg2
                    clear hg
                    have hO : (ok = true ∧ lo ≤ y ∧ y ≤ hi ∧ B = true) ∨ (ok = false ∧ B = false) ∨ (ok = true ∧ ¬ lo ≤ y ∧ B = false) ∨ (ok = true ∧ lo ≤ y ∧ ¬ y ≤ hi ∧ B = false) := by
                      rw [← hg2]
                      cases ok <;> by_cases o1 : lo ≤ y <;> by_cases o2 : y ≤ hi <;> simp [o1, o2]
                    clear hg2
                    rcases hO with ⟨rfl, o1, o2, rfl⟩ | ⟨rfl, rfl⟩ | ⟨rfl, o1, rfl⟩ | ⟨rfl, o1, o2, rfl⟩
                    all_goals (
                      go_wp2
                      go_roundw
                      case rel => exact ⟨k + 1, l, by omega, by go_num, HL.out, kx, by go_grown⟩
                      case measure => first | (simp [intOf]; done) | (simp [intOf]; omega))
              · have hr' : y < -100000 ∨ 100000 < y := by omega
                go_wp2
                all_goals first
                  | (exfalso; omega)
                  | (go_roundw
                     case rel => exact ⟨k + 1, l, by omega, by go_num, HL.out, kg, by go_grown⟩
                     case measure => first | (simp [intOf]; done) | (simp [intOf]; omega))
            · have hall : Below w.heap.size w wr := hb
              go_wp2_with (go_at_call 27; refine (measured_a _ (hE.up hall)).mono ?_; rintro e w1 ⟨rfl, hx⟩; have hall : Below w.heap.size w w1 := Below.trans (by go_grown) (hx.mono (by go_size)); have hsz : w.heap.size ≤ w1.heap.size := hall.size; clear hx)
              go_ret
              exact ⟨rfl, hall⟩
        · have hcom0 := Pl.com_no he
          obtain ⟨E, hEE⟩ : ∃ E, Pl.comE v cs dx = E := ⟨_, rfl⟩
          have he1 : (E != 0) = true := by rw [← hEE]; simp [he]
          have HC := Lib.hid hcom0
          have HE := Lib.hid hEE
          clear hcom0 hcom he hEE
          go_enter Tryz.func12, Tryz.ntmps12
          go_wp2_with (first
            | (go_at_call 32; refine (few_yes _ _ _ _ h60).mono ?_; rintro e w' ⟨rfl, rfl⟩)
            | (go_at_call 40; refine (Common_h _ _ _ _ v cs _ _ _ _ _ _ HC HE (hl.up (by go_grown)) hm (hcs.up (by go_grown)) hm').mono ?_; rintro e w1 ⟨rfl, hx⟩; have hall : Below w.heap.size w w1 := Below.trans (by go_grown) (hx.mono (by go_size)); have hsz : w.heap.size ≤ w1.heap.size := hall.size; clear hx)
            | (go_at_call 27; refine (measured_a _ (hE.up hall)).mono ?_; rintro e w1 ⟨rfl, hx⟩; have hall : Below w.heap.size w w1 := Below.trans (by go_grown) (hx.mono (by go_size)); have hsz : w.heap.size ≤ w1.heap.size := hall.size; clear hx))
          all_goals go_ret
          all_goals exact ⟨by first | rfl | simp, hall⟩
      · have hd' : dy < -100000 ∨ 100000 < dy := by omega
        clear hy
        go_enter Tryz.func12, Tryz.ntmps12
        go_wp2_with (first
          | (go_at_call 32; refine (few_yes _ _ _ _ h60).mono ?_; rintro e w' ⟨rfl, rfl⟩)
          | (go_at_call 27; refine (measured_a _ (hE.up hall)).mono ?_; rintro e w1 ⟨rfl, hx⟩; have hall : Below w.heap.size w w1 := Below.trans (by go_grown) (hx.mono (by go_size)); have hsz : w.heap.size ≤ w1.heap.size := hall.size; clear hx))
        all_goals first
          | (exfalso; omega)
          | (go_ret; exact ⟨rfl, hall⟩)
    · go_enter Tryz.func12, Tryz.ntmps12
      go_wp2_with (first
        | (go_at_call 32; refine (few_yes _ _ _ _ h60).mono ?_; rintro e w' ⟨rfl, rfl⟩)
        | (go_at_call 27; refine (measured_a _ (hE.up hall)).mono ?_; rintro e w1 ⟨rfl, hx⟩; have hall : Below w.heap.size w w1 := Below.trans (by go_grown) (hx.mono (by go_size)); have hsz : w.heap.size ≤ w1.heap.size := hall.size; clear hx))
      all_goals go_ret
      all_goals exact ⟨rfl, hall⟩
  · go_enter Tryz.func12, Tryz.ntmps12
    go_wp2_with (first
      | (go_at_call 32; refine (few_no _ _ _ _ h60 hm).mono ?_; rintro e w' ⟨rfl, rfl⟩)
      | (go_at_call 27; refine (measured_a _ (hE.up hall)).mono ?_; rintro e w1 ⟨rfl, hx⟩; have hall : Below w.heap.size w w1 := Below.trans (by go_grown) (hx.mono (by go_size)); have hsz : w.heap.size ≤ w1.heap.size := hall.size; clear hx))
    all_goals go_ret
    all_goals exact ⟨rfl, hall⟩
end Go.Proofs.YthncpapejijloaaGreatDoor
