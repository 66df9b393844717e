/- Walks: the laws' own bounded, keeps; SameBounds of two equal lists. -/
import Derived.Test.YtgbpekeoegfjpaaGreatDoorProg
import Derived.WalkKit
import Derived.WalkLawsBesides
import Derived.WalkSpells
import Derived.Handy
import Derived.Lib.Hide
import Derived.Great.BuildSlice
import Derived.Deep.QuietTactic
import Derived.BigQuiet
import Derived.Deep.RegionHeld3
import Derived.Deep.DeepCutAuto
import Derived.Test.YtgbpekeoegfjpaaGreatDoorM05
namespace Go.Proofs.YtgbpekeoegfjpaaGreatDoor
open Go.RowKit

def Pl.bounded (y : List Int) : Bool := y.all fun n => decide (-1000000000 ≤ n ∧ n ≤ 1000000000)
set_option maxHeartbeats 1000000 in
theorem bounded_a (A : Option Addr) (c : Nat) (y : List Int) (b : Bool) (w : World) (hy : Ints w w.heap.size A y) (hm : y.length ≤ 100000) (hb : Hid (Pl.bounded y = b)) :
    Calls Tryz.prog 33 #[.slice A y.length c] w fun e w' => e = .returned (.bool b) ∧ w = w' := by
  rw [← hb.out]
  clear hb
  go_enter Tryz.func33, Tryz.ntmps33
  go_wp2
  go_loop [3] (fun i => ∃ (k : Nat), k ≤ y.length ∧ i = .int .i64 k ∧ Hid (∀ j (h : j < y.length), j < k → -1000000000 ≤ y[j] ∧ y[j] ≤ 1000000000)) (fun i => y.length - (intOf i).toNat)
  case atStart => exact ⟨0, by omega, rfl, Lib.hid fun j _ h => by omega⟩
  case round =>
    obtain ⟨k, hk, rfl, hg⟩ := hrel
    by_cases hlt : k < y.length
    · obtain ⟨b, off, rfl, hbB, q0⟩ := Ints.at1 hy hlt
      by_cases h1 : y[k] < -1000000000
      · have hv : Hid (Pl.bounded y = false) := Lib.hid (by
          unfold Pl.bounded; rw [List.all_eq_false]; exact ⟨_, List.getElem_mem hlt, by simp; omega⟩)
        go_wp2
        go_ret
        exact ⟨by rw [hv.out]; try rfl, rfl⟩
      · by_cases h2 : 1000000000 < y[k]
        · have hv : Hid (Pl.bounded y = false) := Lib.hid (by
            unfold Pl.bounded; rw [List.all_eq_false]; exact ⟨_, List.getElem_mem hlt, by simp; omega⟩)
          go_wp2
          go_ret
          exact ⟨by rw [hv.out]; try rfl, rfl⟩
        · have hn : Hid (-1000000000 ≤ y[k] ∧ y[k] ≤ 1000000000) := Lib.hid (by omega)
          go_wp2
          go_round
          case rel => exact ⟨k + 1, by omega, by go_num, Lib.hid fun j h hj => by
            by_cases e : j = k
            · subst e; exact hn.out
            · exact hg.out j h (by omega)⟩
          case measure => first | (simp [intOf]; done) | (simp [intOf]; omega)
    · have hv : Hid (Pl.bounded y = true) := Lib.hid (by
        unfold Pl.bounded; rw [List.all_eq_true]; intro n hn
        obtain ⟨j, hj, rfl⟩ := List.getElem_of_mem hn
        simpa using hg.out j hj (by omega))
      go_wp2
      go_ret
      exact ⟨by rw [hv.out]; try rfl, rfl⟩
theorem keepsB_bad {l : List Pl.Bd} {y : List Int} {k : Nat} (h : k < l.length) (hb : l[k].most < Pl.at0 y l[k].till - Pl.at0 y l[k].fr) : Pl.keepsB l y = false := by
  unfold Pl.keepsB
  rw [Bool.not_eq_false', List.any_eq_true]
  exact ⟨_, List.getElem_mem h, by simpa using hb⟩
theorem keepsB_good {l : List Pl.Bd} {y : List Int} (h : ∀ j (h : j < l.length), Pl.at0 y l[j].till - Pl.at0 y l[j].fr ≤ l[j].most) : Pl.keepsB l y = true := by
  unfold Pl.keepsB
  rw [Bool.not_eq_true', List.any_eq_false]
  intro b hb
  obtain ⟨j, hj, rfl⟩ := List.getElem_of_mem hb
  simpa using h j hj
set_option maxRecDepth 100000 in
set_option maxHeartbeats 4000000 in
theorem keeps_a (A A' : Option Addr) (c c' : Nat) (l : List Pl.Bd) (y : List Int) (K : Bool) (w : World) (hl : Bds w w.heap.size A l) (hm : l.length ≤ 100000) (hy : Ints w w.heap.size A' y) (_hym : y.length ≤ 100000)
    (hp : ∀ b ∈ l, b.fr < y.length ∧ b.till < y.length) (hr : ∀ n ∈ y, -1000000000 ≤ n ∧ n ≤ 1000000000) (hK : Hid (Pl.keepsB l y = K)) :
    Calls Tryz.prog 36 #[.slice A l.length c, .slice A' y.length c'] w fun e w' => e = .returned (.bool K) ∧ Below w.heap.size w w' := by
  rw [← hK.out]
  clear hK
  go_enter Tryz.func36, Tryz.ntmps36
  go_wp2
  go_loopw [5] (fun i wr => ∃ (k : Nat), k ≤ l.length ∧ i = .int .i64 k ∧ Hid (∀ j (h : j < l.length), j < k → Pl.at0 y l[j].till - Pl.at0 y l[j].fr ≤ l[j].most) ∧ Below w.heap.size w wr) (fun i _ => l.length - (intOf i).toNat)
  case atStart => exact ⟨0, by omega, rfl, Lib.hid fun j _ h => by omega, by go_grown⟩
  case round =>
    obtain ⟨k, hk, rfl, hg, hall⟩ := hrel
    by_cases hlt : k < l.length
    · obtain ⟨b, off, hA, hbB, q0, q1, q2, q3⟩ := Bds.at4 (hl.below hall) hlt
      obtain ⟨h1, h2⟩ := hp _ (List.getElem_mem hlt)
      have hno : Hid (Pl.at0 y l[k].till - Pl.at0 y l[k].fr ≤ l[k].most → ∀ j (h : j < l.length), j < k + 1 → Pl.at0 y l[j].till - Pl.at0 y l[j].fr ≤ l[j].most) := Lib.hid fun h0 j h hj => by
        by_cases e : j = k
        · subst e; exact h0
        · exact hg.out j h (by omega)
      have hbad : Hid (l[k].most < Pl.at0 y l[k].till - Pl.at0 y l[k].fr → Pl.keepsB l y = false) := Lib.hid fun h0 => keepsB_bad hlt h0
      obtain ⟨⟨f, t, m, r⟩, hbd⟩ : ∃ x, l[k] = x := ⟨_, rfl⟩
      rw [hbd] at h1 h2 hno hbad q0 q1 q2 q3
      simp only at h1 h2 hno hbad q0 q1 q2 q3
      clear hbd
      obtain ⟨g, o, hA', hg', r1⟩ := Ints.at1 (hy.below hall) h1
      obtain ⟨g', o', hA'', _, r2⟩ := Ints.at1 (hy.below hall) h2
      rw [hA'] at hA''
      obtain ⟨rfl, rfl⟩ : g = g' ∧ o = o' := by simpa using hA''
      clear hA''
      obtain ⟨x0, x1⟩ := hr y[f] (List.getElem_mem h1)
      obtain ⟨x2, x3⟩ := hr y[t] (List.getElem_mem h2)
      rw [Pl.at0_get h1, Pl.at0_get h2] at hno hbad
      obtain ⟨u, hu⟩ : ∃ u, y[f] = u := ⟨_, rfl⟩
      obtain ⟨v, hv⟩ : ∃ v, y[t] = v := ⟨_, rfl⟩
      rw [hu] at r1 x0 x1 hno hbad
      rw [hv] at r2 x2 x3 hno hbad
      clear hu hv
      subst hA hA'
      have hgr : g < wr.heap.size := by have := hall.size; omega
      have kp := heap_alloc_new wr (.cells #[.int .i64 (f : Int), .int .i64 (t : Int), .int .i64 m, .int .i64 r] 99)
      obtain ⟨hckp, hfkp⟩ := blk_cells kp
      have s1 : (wr.alloc (.cells #[.int .i64 (f : Int), .int .i64 (t : Int), .int .i64 m, .int .i64 r] 99)).cell? ⟨g, o + f, none⟩ = some (.int .i64 u) := (World.cell?_of_block (Below.heap_alloc _ _ _ hgr)).trans r1
      have s2 : (wr.alloc (.cells #[.int .i64 (f : Int), .int .i64 (t : Int), .int .i64 m, .int .i64 r] 99)).cell? ⟨g, o + t, none⟩ = some (.int .i64 v) := (World.cell?_of_block (Below.heap_alloc _ _ _ hgr)).trans r2
      have e1 : (0 : Int) ≤ (f : Int) := by omega
      have e2 : (f : Int) < (y.length : Int) := by omega
      have e3 : (0 : Int) ≤ (t : Int) := by omega
      have e4 : (t : Int) < (y.length : Int) := by omega
      have n1 : decide ((f : Int) < 0) = false := by simp
      have n2 : decide (y.length ≤ f) = false := by simp; omega
      have n3 : decide ((t : Int) < 0) = false := by simp
      have n4 : decide (y.length ≤ t) = false := by simp; omega
      have hsz := hall.size
      have e5 : IntKind.i64.wrap (v - u) = v - u := IntWalk.i64_in _ (by omega)
      have hnew : Below w.heap.size w (wr.alloc (.cells #[.int .i64 (f : Int), .int .i64 (t : Int), .int .i64 m, .int .i64 r] 99)) := by go_grown
      by_cases hz : m < v - u
      · have HV := Lib.hid (hbad.out hz)
        go_wp2
        go_region_held3 (fun W => W.cell? ⟨wr.heap.size, 0, none⟩ = some (.int .i64 (f : Int)) ∧ W.cell? ⟨wr.heap.size, 1, none⟩ = some (.int .i64 (t : Int)) ∧ W.cell? ⟨wr.heap.size, 2, none⟩ = some (.int .i64 m) ∧ W.cell? ⟨g, o + f, none⟩ = some (.int .i64 u) ∧ W.cell? ⟨g, o + t, none⟩ = some (.int .i64 v)) (exact ⟨hckp 0, hckp 1, hckp 2, s1, s2⟩) (fail)
        all_goals go_wp2
        all_goals go_ret
        all_goals exact ⟨by rw [HV.out]; try rfl, by first | (go_grown; done) | exact below_drewN hnew _⟩
      · have HN := Lib.hid (hno.out (Int.not_lt.1 hz))
        go_wp2
        go_region_held3 (fun W => W.cell? ⟨wr.heap.size, 0, none⟩ = some (.int .i64 (f : Int)) ∧ W.cell? ⟨wr.heap.size, 1, none⟩ = some (.int .i64 (t : Int)) ∧ W.cell? ⟨wr.heap.size, 2, none⟩ = some (.int .i64 m) ∧ W.cell? ⟨g, o + f, none⟩ = some (.int .i64 u) ∧ W.cell? ⟨g, o + t, none⟩ = some (.int .i64 v)) (exact ⟨hckp 0, hckp 1, hckp 2, s1, s2⟩) (fail)
        all_goals go_wp2
        all_goals (
          go_roundw
          case rel => exact ⟨k + 1, by omega, by go_num, HN, by first | (go_grown; done) | exact below_drewN hnew _⟩
          case measure => first | (simp [intOf]; done) | (simp [intOf]; omega))
    · have HV : Hid (Pl.keepsB l y = true) := Lib.hid (keepsB_good fun j h => hg.out j h (by omega))
      go_wp2
      go_ret
      exact ⟨by rw [HV.out]; try rfl, hall⟩
set_option maxRecDepth 100000 in
set_option maxHeartbeats 4000000 in
theorem sameBounds_a (A A' : Option Addr) (c c' n : Nat) (l : List Pl.Bd) (w : World) (hn : l.length = n) (hl : Bds w w.heap.size A l) (hm : l.length ≤ 100000) (hl' : Bds w w.heap.size A' l) :
    Calls Tryz.prog 28 #[.slice A n c, .slice A' n c'] w fun e w' => e = .returned (.bool true) ∧ Below w.heap.size w w' := by
  subst hn
  go_enter Tryz.func28, Tryz.ntmps28
  go_wp2
  go_loopw [5] (fun i wr => ∃ (k : Nat), k ≤ l.length ∧ i = .int .i64 k ∧ Below w.heap.size w wr) (fun i _ => l.length - (intOf i).toNat)
  case atStart => exact ⟨0, by omega, rfl, by go_grown⟩
  case round =>
    obtain ⟨k, hk, rfl, hall⟩ := hrel
    by_cases hlt : k < l.length
    · obtain ⟨b, off, hA, hbB, q0, q1, q2, q3⟩ := Bds.at4 (hl.below hall) hlt
      obtain ⟨b', off', hA', hbB', r0, r1, r2, r3⟩ := Bds.at4 (hl'.below hall) hlt
      obtain ⟨⟨f, t, m, r⟩, hbd⟩ : ∃ x, l[k] = x := ⟨_, rfl⟩
      rw [hbd] at q0 q1 q2 q3 r0 r1 r2 r3
      simp only at q0 q1 q2 q3 r0 r1 r2 r3
      clear hbd
      subst hA hA'
      have e1 : (0 : Int) ≤ (k : Int) := by omega
      have e2 : (k : Int) < (l.length : Int) := by omega
      go_wp2
      go_region_held3 (fun W => W.cell? ⟨b, off + k * 4, none⟩ = some (.int .i64 (f : Int)) ∧ W.cell? ⟨b, off + k * 4 + 1, none⟩ = some (.int .i64 (t : Int)) ∧ W.cell? ⟨b, off + k * 4 + 2, none⟩ = some (.int .i64 m) ∧ W.cell? ⟨b, off + k * 4 + 3, none⟩ = some (.int .i64 r) ∧ W.cell? ⟨b', off' + k * 4, none⟩ = some (.int .i64 (f : Int)) ∧ W.cell? ⟨b', off' + k * 4 + 1, none⟩ = some (.int .i64 (t : Int)) ∧ W.cell? ⟨b', off' + k * 4 + 2, none⟩ = some (.int .i64 m) ∧ W.cell? ⟨b', off' + k * 4 + 3, none⟩ = some (.int .i64 r)) (exact ⟨q0, q1, q2, q3, r0, r1, r2, r3⟩) (fail)
      all_goals go_wp2
      all_goals (
        go_roundw
        case rel => exact ⟨k + 1, by omega, by go_num, by first | (go_grown; done) | exact below_drewN hall _⟩
        case measure => first | (simp [intOf]; done) | (simp [intOf]; omega))
    · go_wp2
      go_ret
      exact ⟨rfl, hall⟩
end Go.Proofs.YtgbpekeoegfjpaaGreatDoor
