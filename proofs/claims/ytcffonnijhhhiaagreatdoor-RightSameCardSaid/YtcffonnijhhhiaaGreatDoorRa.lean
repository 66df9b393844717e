/- Walks: the reference's comparisons (merestoneref07). -/
import Derived.Test.YtcffonnijhhhiaaGreatDoorProg
import Derived.WalkKit
import Derived.WalkLawsBesides
import Derived.WalkSpells
import Derived.Handy
import Derived.Lib.Hide
import Derived.Great.BuildSlice
import Derived.Deep.QuietTactic
import Derived.BigQuiet
import Derived.Deep.RegionHeld3
import Derived.Deep.DeepCutAuto
import Derived.Test.YtcffonnijhhhiaaGreatDoorU26
import Derived.Test.YtcffonnijhhhiaaGreatDoorU24
import Derived.Test.YtcffonnijhhhiaaGreatDoorU25
set_option linter.all false
set_option linter.unusedSimpArgs false
set_option linter.unusedVariables false
set_option linter.unusedSectionVars false
namespace Go.Proofs.YtcffonnijhhhiaaGreatDoor
open Go Go.RowKit Go.Maps Mp
attribute [-simp] Prod.forall Prod.exists
attribute [-go_sem] loadVar storeVar run_equalIn_agg Builtin.append_
attribute [local go_sem] lk_int lk_u8 lk_ints lk_sL lk_sE lk_sS lk_holds

theorem Rt.eqBy_true_len {α β : Type} {p : α → β → Bool} {l : List α} {m : List β} (h : Rt.eqBy p l m = true) : l.length = m.length := by
  by_cases e : l.length = m.length
  · exact e
  · rw [Rt.eqBy_len e] at h
    cases h
theorem below_drewQ {B : Nat} {a w : World} (h : Below B a w) (n : Nat) : Below B a (w.drewN n) := ⟨h.os, h.tape, h.output, h.size, h.block⟩
theorem hid_box2 {w : World} (ra rb : Array Value) (t : TypeId) :
    Below w.heap.size w ((w.alloc (.cells ra t (0, 0))).alloc (.cells rb t (0, 0))) ∧ ((w.alloc (.cells ra t (0, 0))).alloc (.cells rb t (0, 0))).heap[w.heap.size]? = some (.cells ra t (0, 0)) ∧
    ((w.alloc (.cells ra t (0, 0))).alloc (.cells rb t (0, 0))).heap[w.heap.size + 1]? = some (.cells rb t (0, 0)) ∧ ((w.alloc (.cells ra t (0, 0))).alloc (.cells rb t (0, 0))).heap.size = w.heap.size + 2 :=
  ⟨((Below.refl _ w).alloc (Nat.le_refl _) _).alloc (by simp) _, by rw [Below.heap_alloc _ _ _ (by simp)]; exact heap_at rfl, heap_at (by simp), by simp⟩

set_option maxRecDepth 100000 in
set_option maxHeartbeats 1000000 in
theorem sameEases_h (A B : Option Addr) (c d : Nat) (l m : List Rt.Ease) (w : World) (hl : Seg encE 3 w w.heap.size A l) (hm : Seg encE 3 w w.heap.size B m) (h1 : l.length ≤ 3000000000000) :
    Calls Tryz.prog 115 #[.slice A l.length c, .slice B m.length d] w fun e w' => e = .returned (.bool (Rt.eqBy Rt.sameE l m)) ∧ Below w.heap.size w w' := by
  by_cases hne : l.length = m.length
  · have HL := Lib.hid hne
    obtain ⟨N, hN⟩ : ∃ N, m.length = N := ⟨_, rfl⟩
    have hNl : l.length = N := hne.trans hN
    rw [hN, hNl]
    rw [hNl] at h1
    have HNl := Lib.hid hNl
    have HN := Lib.hid hN
    have HA := Lib.hid hl
    have HB := Lib.hid hm
    clear hne hN hNl hl hm
    go_enter Tryz.func115, Tryz.ntmps115
    go_wp2
    go_loopw [5] (fun i wr => ∃ k : Nat, k ≤ N ∧ i = .int .i64 k ∧ Hid (∀ j (hj : j < l.length) (hj' : j < m.length), j < k → Rt.sameE l[j] m[j] = true) ∧ Below w.heap.size w wr) (fun i _ => N - (intOf i).toNat)
    case atStart => exact ⟨0, by omega, rfl, Lib.hid (fun j _ _ h => by omega), Below.refl _ _⟩
    case round =>
      obtain ⟨k, hk, rfl, hg, hb⟩ := hrel
      by_cases hlt : k < N
      · obtain ⟨W, hW⟩ : ∃ W : World, W = wr := ⟨_, rfl⟩
        have b1 : Below w.heap.size w W := by rw [hW]; exact hb
        have HW := Lib.hid hW
        have HB1 := Lib.hid b1
        subst hW
        have hkl : k < l.length := by have := HNl.out; omega
        have hkm : k < m.length := by have := HN.out; omega
        have hki : (k : Int) < (N : Int) := by omega
        obtain ⟨bi, oi, ei, hbi, q1⟩ := (HA.out.below b1).at_ hkl
        obtain ⟨bj, oj, ej, hbj, q2⟩ := (HB.out.below b1).at_ hkm
        subst ei ej
        obtain ⟨x, hx⟩ : ∃ x, l[k] = x := ⟨_, rfl⟩
        obtain ⟨y, hy⟩ : ∃ y, m[k] = y := ⟨_, rfl⟩
        rw [hx] at q1
        rw [hy] at q2
        have x0 : W.cell? ⟨bi, oi + k * 3, none⟩ = some (.int .i64 x.over) := by have := q1 0 _ rfl; simpa using this
        have y0 : W.cell? ⟨bj, oj + k * 3, none⟩ = some (.int .i64 y.over) := by have := q2 0 _ rfl; simpa using this
        have x1 : W.cell? ⟨bi, oi + k * 3 + 1, none⟩ = some (.int .i64 x.of) := by have := q1 1 _ rfl; simpa using this
        have y1 : W.cell? ⟨bj, oj + k * 3 + 1, none⟩ = some (.int .i64 y.of) := by have := q2 1 _ rfl; simpa using this
        have HX := Lib.hid hx
        have HY := Lib.hid hy
        clear hx hy q1 q2
        by_cases g0 : x.over = y.over
        case neg =>
          have n0 : (x.over != y.over) = true := by simpa using g0
          have HV := Lib.hid (show Rt.eqBy Rt.sameE l m = false by
            rw [Bool.eq_false_iff]
            intro e
            have := (Rt.eqBy_iff HL.out).1 e k hkl hkm
            rw [HX.out, HY.out] at this
            unfold Rt.sameE at this; simp [g0] at this)
          clear g0
          go_wp2
          refine wp_region_quiet_lit (by kernel_rfl) (by kernel_rfl) ?_
          repeat (first | go_big_quiet_step (fail) | quiet_step (fail))
          refine wpQuiet_nil ?_
          rintro wq ⟨nq, rfl⟩
          have b1 := below_drewQ HB1.out nq
          go_wp2
          go_ret
          exact ⟨ret_bool HV.out.symm, b1⟩
        have n0 : (x.over != y.over) = false := by simpa using g0
        by_cases g1 : x.of = y.of
        case neg =>
          have n1 : (x.of != y.of) = true := by simpa using g1
          have HV := Lib.hid (show Rt.eqBy Rt.sameE l m = false by
            rw [Bool.eq_false_iff]
            intro e
            have := (Rt.eqBy_iff HL.out).1 e k hkl hkm
            rw [HX.out, HY.out] at this
            unfold Rt.sameE at this; simp [g1] at this)
          clear g0 g1
          go_wp2
          refine wp_region_quiet_lit (by kernel_rfl) (by kernel_rfl) ?_
          repeat (first | go_big_quiet_step (fail) | quiet_step (fail))
          refine wpQuiet_nil ?_
          rintro wq ⟨nq, rfl⟩
          have b1 := below_drewQ HB1.out nq
          go_wp2
          go_ret
          exact ⟨ret_bool HV.out.symm, b1⟩
        have n1 : (x.of != y.of) = false := by simpa using g1
        have HS : Hid (Rt.sameE x y = true) := Lib.hid (by unfold Rt.sameE; simp [g0, g1])
        clear g0 g1
        go_wp2
        refine wp_region_quiet_lit (by kernel_rfl) (by kernel_rfl) ?_
        repeat (first | go_big_quiet_step (fail) | quiet_step (fail))
        refine wpQuiet_nil ?_
        rintro wq ⟨nq, rfl⟩
        have b1 := below_drewQ HB1.out nq
        go_wp2
        go_roundw
        case rel => exact ⟨k + 1, by omega, by go_num, Lib.hid (fun j hj hj' h => by
          by_cases e : j = k
          · subst e
            rw [HX.out, HY.out]
            exact HS.out
          · exact hg.out j hj hj' (by omega)), b1⟩
        case measure => first | (simp [intOf]; done) | (simp [intOf]; omega)
      · obtain rfl : k = N := by omega
        have HV := Lib.hid (show Rt.eqBy Rt.sameE l m = true from (Rt.eqBy_iff HL.out).2 (fun j hj hj' => hg.out j hj hj' (by have := HNl.out; omega)))
        go_wp2
        go_ret
        exact ⟨ret_bool HV.out.symm, hb⟩
  · have hq : ((l.length : Int) != (m.length : Int)) = true := bne_iff_ne.2 (by omega)
    have HV := Lib.hid (Rt.eqBy_len (p := Rt.sameE) hne)
    clear hne
    go_enter Tryz.func115, Tryz.ntmps115
    go_wp2
    go_ret
    exact ⟨ret_bool HV.out.symm, Below.refl _ _⟩
set_option maxRecDepth 100000 in
set_option maxHeartbeats 1000000 in
theorem sameGrazing_h (A B : Option Addr) (c d : Nat) (l m : List Rt.Stint) (w : World) (hl : Seg encS 4 w w.heap.size A l) (hm : Seg encS 4 w w.heap.size B m) (h1 : l.length ≤ 3000000000000) :
    Calls Tryz.prog 116 #[.slice A l.length c, .slice B m.length d] w fun e w' => e = .returned (.bool (Rt.eqBy Rt.sameS l m)) ∧ Below w.heap.size w w' := by
  by_cases hne : l.length = m.length
  · have HL := Lib.hid hne
    obtain ⟨N, hN⟩ : ∃ N, m.length = N := ⟨_, rfl⟩
    have hNl : l.length = N := hne.trans hN
    rw [hN, hNl]
    rw [hNl] at h1
    have HNl := Lib.hid hNl
    have HN := Lib.hid hN
    have HA := Lib.hid hl
    have HB := Lib.hid hm
    clear hne hN hNl hl hm
    go_enter Tryz.func116, Tryz.ntmps116
    go_wp2
    go_loopw [5] (fun i wr => ∃ k : Nat, k ≤ N ∧ i = .int .i64 k ∧ Hid (∀ j (hj : j < l.length) (hj' : j < m.length), j < k → Rt.sameS l[j] m[j] = true) ∧ Below w.heap.size w wr) (fun i _ => N - (intOf i).toNat)
    case atStart => exact ⟨0, by omega, rfl, Lib.hid (fun j _ _ h => by omega), Below.refl _ _⟩
    case round =>
      obtain ⟨k, hk, rfl, hg, hb⟩ := hrel
      by_cases hlt : k < N
      · obtain ⟨W, hW⟩ : ∃ W : World, W = wr := ⟨_, rfl⟩
        have b1 : Below w.heap.size w W := by rw [hW]; exact hb
        have HW := Lib.hid hW
        have HB1 := Lib.hid b1
        subst hW
        have hkl : k < l.length := by have := HNl.out; omega
        have hkm : k < m.length := by have := HN.out; omega
        have hki : (k : Int) < (N : Int) := by omega
        obtain ⟨bi, oi, ei, hbi, q1⟩ := (HA.out.below b1).at_ hkl
        obtain ⟨bj, oj, ej, hbj, q2⟩ := (HB.out.below b1).at_ hkm
        subst ei ej
        obtain ⟨x, hx⟩ : ∃ x, l[k] = x := ⟨_, rfl⟩
        obtain ⟨y, hy⟩ : ∃ y, m[k] = y := ⟨_, rfl⟩
        rw [hx] at q1
        rw [hy] at q2
        have x0 : W.cell? ⟨bi, oi + k * 4, none⟩ = some (.int .i64 x.lot) := by have := q1 0 _ rfl; simpa using this
        have y0 : W.cell? ⟨bj, oj + k * 4, none⟩ = some (.int .i64 y.lot) := by have := q2 0 _ rfl; simpa using this
        have x1 : W.cell? ⟨bi, oi + k * 4 + 1, none⟩ = some (.int .i64 x.owner) := by have := q1 1 _ rfl; simpa using this
        have y1 : W.cell? ⟨bj, oj + k * 4 + 1, none⟩ = some (.int .i64 y.owner) := by have := q2 1 _ rfl; simpa using this
        have x2 : W.cell? ⟨bi, oi + k * 4 + 2, none⟩ = some (.int .i64 x.beasts) := by have := q1 2 _ rfl; simpa using this
        have y2 : W.cell? ⟨bj, oj + k * 4 + 2, none⟩ = some (.int .i64 y.beasts) := by have := q2 2 _ rfl; simpa using this
        have HX := Lib.hid hx
        have HY := Lib.hid hy
        clear hx hy q1 q2
        by_cases g0 : x.lot = y.lot
        case neg =>
          have n0 : (x.lot != y.lot) = true := by simpa using g0
          have HV := Lib.hid (show Rt.eqBy Rt.sameS l m = false by
            rw [Bool.eq_false_iff]
            intro e
            have := (Rt.eqBy_iff HL.out).1 e k hkl hkm
            rw [HX.out, HY.out] at this
            unfold Rt.sameS at this; simp [g0] at this)
          clear g0
          go_wp2
          refine wp_region_quiet_lit (by kernel_rfl) (by kernel_rfl) ?_
          repeat (first | go_big_quiet_step (fail) | quiet_step (fail))
          refine wpQuiet_nil ?_
          rintro wq ⟨nq, rfl⟩
          have b1 := below_drewQ HB1.out nq
          go_wp2
          go_ret
          exact ⟨ret_bool HV.out.symm, b1⟩
        have n0 : (x.lot != y.lot) = false := by simpa using g0
        by_cases g1 : x.owner = y.owner
        case neg =>
          have n1 : (x.owner != y.owner) = true := by simpa using g1
          have HV := Lib.hid (show Rt.eqBy Rt.sameS l m = false by
            rw [Bool.eq_false_iff]
            intro e
            have := (Rt.eqBy_iff HL.out).1 e k hkl hkm
            rw [HX.out, HY.out] at this
            unfold Rt.sameS at this; simp [g1] at this)
          clear g0 g1
          go_wp2
          refine wp_region_quiet_lit (by kernel_rfl) (by kernel_rfl) ?_
          repeat (first | go_big_quiet_step (fail) | quiet_step (fail))
          refine wpQuiet_nil ?_
          rintro wq ⟨nq, rfl⟩
          have b1 := below_drewQ HB1.out nq
          go_wp2
          go_ret
          exact ⟨ret_bool HV.out.symm, b1⟩
        have n1 : (x.owner != y.owner) = false := by simpa using g1
        by_cases g2 : x.beasts = y.beasts
        case neg =>
          have n2 : (x.beasts != y.beasts) = true := by simpa using g2
          have HV := Lib.hid (show Rt.eqBy Rt.sameS l m = false by
            rw [Bool.eq_false_iff]
            intro e
            have := (Rt.eqBy_iff HL.out).1 e k hkl hkm
            rw [HX.out, HY.out] at this
            unfold Rt.sameS at this; simp [g2] at this)
          clear g0 g1 g2
          go_wp2
          refine wp_region_quiet_lit (by kernel_rfl) (by kernel_rfl) ?_
          repeat (first | go_big_quiet_step (fail) | quiet_step (fail))
          refine wpQuiet_nil ?_
          rintro wq ⟨nq, rfl⟩
          have b1 := below_drewQ HB1.out nq
          go_wp2
          go_ret
          exact ⟨ret_bool HV.out.symm, b1⟩
        have n2 : (x.beasts != y.beasts) = false := by simpa using g2
        have HS : Hid (Rt.sameS x y = true) := Lib.hid (by unfold Rt.sameS; simp [g0, g1, g2])
        clear g0 g1 g2
        go_wp2
        refine wp_region_quiet_lit (by kernel_rfl) (by kernel_rfl) ?_
        repeat (first | go_big_quiet_step (fail) | quiet_step (fail))
        refine wpQuiet_nil ?_
        rintro wq ⟨nq, rfl⟩
        have b1 := below_drewQ HB1.out nq
        go_wp2
        go_roundw
        case rel => exact ⟨k + 1, by omega, by go_num, Lib.hid (fun j hj hj' h => by
          by_cases e : j = k
          · subst e
            rw [HX.out, HY.out]
            exact HS.out
          · exact hg.out j hj hj' (by omega)), b1⟩
        case measure => first | (simp [intOf]; done) | (simp [intOf]; omega)
      · obtain rfl : k = N := by omega
        have HV := Lib.hid (show Rt.eqBy Rt.sameS l m = true from (Rt.eqBy_iff HL.out).2 (fun j hj hj' => hg.out j hj hj' (by have := HNl.out; omega)))
        go_wp2
        go_ret
        exact ⟨ret_bool HV.out.symm, hb⟩
  · have hq : ((l.length : Int) != (m.length : Int)) = true := bne_iff_ne.2 (by omega)
    have HV := Lib.hid (Rt.eqBy_len (p := Rt.sameS) hne)
    clear hne
    go_enter Tryz.func116, Tryz.ntmps116
    go_wp2
    go_ret
    exact ⟨ret_bool HV.out.symm, Below.refl _ _⟩
set_option maxRecDepth 100000 in
set_option maxHeartbeats 1000000 in
theorem sameInts_h (A B : Option Addr) (c d : Nat) (l m : List Int) (w : World) (hl : Seg encInt 1 w w.heap.size A l) (hm : Seg encInt 1 w w.heap.size B m) (h1 : l.length ≤ 3000000000000) :
    Calls Tryz.prog 99 #[.slice A l.length c, .slice B m.length d] w fun e w' => e = .returned (.bool (Rt.eqBy (fun a b : Int => decide (a = b)) l m)) ∧ Below w.heap.size w w' := by
  by_cases hne : l.length = m.length
  · have HL := Lib.hid hne
    obtain ⟨N, hN⟩ : ∃ N, m.length = N := ⟨_, rfl⟩
    have hNl : l.length = N := hne.trans hN
    rw [hN, hNl]
    rw [hNl] at h1
    have HNl := Lib.hid hNl
    have HN := Lib.hid hN
    have HA := Lib.hid hl
    have HB := Lib.hid hm
    clear hne hN hNl hl hm
    go_enter Tryz.func99, Tryz.ntmps99
    go_wp2
    go_loopw [5] (fun i wr => ∃ k : Nat, k ≤ N ∧ i = .int .i64 k ∧ Hid (∀ j (hj : j < l.length) (hj' : j < m.length), j < k → (fun a b : Int => decide (a = b)) l[j] m[j] = true) ∧ Below w.heap.size w wr) (fun i _ => N - (intOf i).toNat)
    case atStart => exact ⟨0, by omega, rfl, Lib.hid (fun j _ _ h => by omega), Below.refl _ _⟩
    case round =>
      obtain ⟨k, hk, rfl, hg, hb⟩ := hrel
      by_cases hlt : k < N
      · obtain ⟨W, hW⟩ : ∃ W : World, W = wr.drew := ⟨_, rfl⟩
        have b1 : Below w.heap.size w W := by rw [hW]; exact below_drew hb
        have HW := Lib.hid hW
        have HB1 := Lib.hid b1
        clear hW
        have hkl : k < l.length := by have := HNl.out; omega
        have hkm : k < m.length := by have := HN.out; omega
        have hki : (k : Int) < (N : Int) := by omega
        obtain ⟨bi, oi, ei, hbi, q1⟩ := (HA.out.below b1).at_ hkl
        obtain ⟨bj, oj, ej, hbj, q2⟩ := (HB.out.below b1).at_ hkm
        subst ei ej
        obtain ⟨x, hx⟩ : ∃ x, l[k] = x := ⟨_, rfl⟩
        obtain ⟨y, hy⟩ : ∃ y, m[k] = y := ⟨_, rfl⟩
        rw [hx] at q1
        rw [hy] at q2
        have x0 : W.cell? ⟨bi, oi + k, none⟩ = some (.int .i64 x) := by have := q1 0 _ rfl; simpa using this
        have y0 : W.cell? ⟨bj, oj + k, none⟩ = some (.int .i64 y) := by have := q2 0 _ rfl; simpa using this
        have HX := Lib.hid hx
        have HY := Lib.hid hy
        clear hx hy q1 q2
        by_cases g0 : x = y
        case neg =>
          have n0 : (x != y) = true := by simpa using g0
          have HV := Lib.hid (show Rt.eqBy (fun a b : Int => decide (a = b)) l m = false by
            rw [Bool.eq_false_iff]
            intro e
            have := (Rt.eqBy_iff HL.out).1 e k hkl hkm
            rw [HX.out, HY.out] at this
            simp [g0] at this)
          clear g0
          go_wp2
          refine still_all HW.out (by kernel_rfl) (by kernel_rfl) ?_
          repeat still_step
          refine wpStill_nil ?_
          go_wp2
          go_ret
          exact ⟨ret_bool HV.out.symm, b1⟩
        have n0 : (x != y) = false := by simpa using g0
        have HS : Hid (((fun a b : Int => decide (a = b))) x y = true) := Lib.hid (by simp [g0])
        clear g0
        go_wp2
        refine still_all HW.out (by kernel_rfl) (by kernel_rfl) ?_
        repeat still_step
        refine wpStill_nil ?_
        go_wp2
        go_roundw
        case rel => exact ⟨k + 1, by omega, by go_num, Lib.hid (fun j hj hj' h => by
          by_cases e : j = k
          · subst e
            rw [HX.out, HY.out]
            exact HS.out
          · exact hg.out j hj hj' (by omega)), b1⟩
        case measure => first | (simp [intOf]; done) | (simp [intOf]; omega)
      · obtain rfl : k = N := by omega
        have HV := Lib.hid (show Rt.eqBy (fun a b : Int => decide (a = b)) l m = true from (Rt.eqBy_iff HL.out).2 (fun j hj hj' => hg.out j hj hj' (by have := HNl.out; omega)))
        go_wp2
        go_ret
        exact ⟨ret_bool HV.out.symm, hb⟩
  · have hq : ((l.length : Int) != (m.length : Int)) = true := bne_iff_ne.2 (by omega)
    have HV := Lib.hid (Rt.eqBy_len (p := (fun a b : Int => decide (a = b))) hne)
    clear hne
    go_enter Tryz.func99, Tryz.ntmps99
    go_wp2
    go_ret
    exact ⟨ret_bool HV.out.symm, Below.refl _ _⟩
set_option maxRecDepth 100000 in
set_option maxHeartbeats 1000000 in
theorem sameHold_h (p q : Lp) (w : World) (hp : Seg encH 2 w w.heap.size p.A p.x.held) (hq : Seg encH 2 w w.heap.size q.A q.x.held) (h1 : p.x.held.length ≤ 2000000) :
    Calls Tryz.prog 119 #[.agg (rowL p), .agg (rowL q)] w fun e w' => e = .returned (.bool (decide (p.x.held = q.x.held))) ∧ Below w.heap.size w w' := by
  obtain ⟨b0, k1, k2, z0⟩ := hid_box2 (w := w) (rowL p) (rowL q) 54
  obtain ⟨l, hl⟩ : ∃ l, p.x.held = l := ⟨_, rfl⟩
  obtain ⟨m, hm⟩ : ∃ l, q.x.held = l := ⟨_, rfl⟩
  obtain ⟨A, hA⟩ : ∃ A, p.A = A := ⟨_, rfl⟩
  obtain ⟨B, hB⟩ : ∃ A, q.A = A := ⟨_, rfl⟩
  unfold rowL at b0 k1 k2 z0 ⊢
  rw [hl, hA] at hp
  rw [hm, hB] at hq
  rw [hl, hA, hm, hB] at b0 k1 k2 z0
  rw [hl] at h1
  rw [hl, hm, hA, hB]
  obtain ⟨x1, _⟩ := blk_cells k1
  obtain ⟨x2, _⟩ := blk_cells k2
  have d2 : _ = some (Value.slice A l.length p.c) := x1 2
  have e2 : _ = some (Value.slice B m.length q.c) := x2 2
  obtain ⟨W0, hW0⟩ : ∃ W0, (w.alloc (.cells #[.int .i64 p.x.number, .int .i64 p.x.size, .slice A l.length p.c] 54 (0, 0))).alloc (.cells #[.int .i64 q.x.number, .int .i64 q.x.size, .slice B m.length q.c] 54 (0, 0)) = W0 := ⟨_, rfl⟩
  rw [hW0] at b0 k1 k2 z0
  have HW0 := Lib.hid hW0
  have B0 := Lib.hid b0
  have K1 := Lib.hid k1
  have K2 := Lib.hid k2
  have HP := Lib.hid hp
  have HQ := Lib.hid hq
  clear x1 x2 hW0 hl hm hA hB b0 k1 k2 hp hq
  by_cases hne : l.length = m.length
  · have HL := Lib.hid hne
    obtain ⟨N, hN⟩ : ∃ N, m.length = N := ⟨_, rfl⟩
    have hNl : l.length = N := hne.trans hN
    rw [hNl] at d2
    rw [hN] at e2
    rw [hNl, hN]
    rw [hNl] at h1
    have HNl := Lib.hid hNl
    have HN := Lib.hid hN
    clear hne hN hNl
    go_enter Tryz.func119, Tryz.ntmps119
    go_wp2
    go_loopw [5] (fun i wr => ∃ k : Nat, k ≤ N ∧ i = .int .i64 k ∧ Hid (∀ j (hj : j < l.length) (hj' : j < m.length), j < k → l[j] = m[j]) ∧ Hid (Below W0.heap.size W0 wr)) (fun i _ => N - (intOf i).toNat)
    case atStart => exact ⟨0, by omega, rfl, Lib.hid (fun j _ _ h => by omega), Lib.hid (by have := HW0.out; rw [HNl.out, HN.out] at this; rw [this]; exact Below.refl _ _)⟩
    case round =>
      obtain ⟨k, hk, rfl, hg, HB⟩ := hrel
      have kr1 := (HB.out.block _ (by omega)).trans K1.out
      have kr2 := (HB.out.block _ (by omega)).trans K2.out
      rw [HNl.out] at kr1
      rw [HN.out] at kr2
      have dr2 : _ = some (Value.slice A N p.c) := (blk_cells kr1).1 2
      have er2 : _ = some (Value.slice B N q.c) := (blk_cells kr2).1 2
      by_cases hlt : k < N
      · obtain ⟨W, hW⟩ : ∃ W : World, W = wr.drew := ⟨_, rfl⟩
        have b1 : Below w.heap.size w W := by rw [hW]; exact below_drew (B0.out.trans (HB.out.mono B0.out.size))
        have HB1 : Hid (Below W0.heap.size W0 W) := Lib.hid (by rw [hW]; exact below_drew HB.out)
        have dw2 : W.cell? ⟨w.heap.size, 2, none⟩ = some (Value.slice A N p.c) := by rw [hW]; exact dr2
        have ew2 : W.cell? ⟨w.heap.size + 1, 2, none⟩ = some (Value.slice B N q.c) := by rw [hW]; exact er2
        have HW := Lib.hid hW
        clear hW kr1 kr2
        have hkl : k < l.length := by have := HNl.out; omega
        have hkm : k < m.length := by have := HN.out; omega
        have hki : (k : Int) < (N : Int) := by omega
        obtain ⟨bi, oi, ei, hbi, q1⟩ := ld_H (HP.out.below b1) hkl
        obtain ⟨bj, oj, ej, hbj, q2⟩ := ld_H (HQ.out.below b1) hkm
        subst ei ej
        obtain ⟨x, hx⟩ : ∃ x, l[k] = x := ⟨_, rfl⟩
        obtain ⟨y, hy⟩ : ∃ y, m[k] = y := ⟨_, rfl⟩
        rw [hx] at q1
        rw [hy] at q2
        have qe := eq_hold x y W
        have HX := Lib.hid hx
        have HY := Lib.hid hy
        clear hx hy
        by_cases hxy : x = y
        · have qd : decide (x = y) = true := by simpa using hxy
          rw [qd] at qe
          have HXY := Lib.hid hxy
          clear hxy qd
          go_wp2
          refine still_all HW.out (by kernel_rfl) (by kernel_rfl) ?_
          repeat still_step
          refine wpStill_nil ?_
          go_wp2
          go_roundw
          case rel => exact ⟨k + 1, by omega, by go_num, Lib.hid (fun j hj hj' h => by
            by_cases e : j = k
            · subst e
              rw [HX.out, HY.out, HXY.out]
            · exact hg.out j hj hj' (by omega)), HB1⟩
          case measure => first | (simp [intOf]; done) | (simp [intOf]; omega)
        · have qd : decide (x = y) = false := by simpa using hxy
          rw [qd] at qe
          have HV := Lib.hid (show decide (l = m) = false by
            rw [decide_eq_false_iff_not]
            intro e
            subst e
            exact hxy (HX.out.symm.trans HY.out))
          clear hxy qd
          go_wp2
          refine still_all HW.out (by kernel_rfl) (by kernel_rfl) ?_
          repeat still_step
          refine wpStill_nil ?_
          go_wp2
          go_ret
          exact ⟨ret_bool HV.out.symm, b1⟩
      · obtain rfl : k = N := by omega
        have HV := Lib.hid (show decide (l = m) = true by
          rw [decide_eq_true_iff]
          exact List.ext_getElem HL.out (fun j hj hj' => hg.out j hj hj' (by have := HNl.out; omega)))
        have hb : Hid (Below w.heap.size w wr) := Lib.hid (B0.out.trans (HB.out.mono B0.out.size))
        clear kr1 kr2
        go_wp2
        go_ret
        exact ⟨ret_bool HV.out.symm, hb.out⟩
  · have hq : ((l.length : Int) != (m.length : Int)) = true := bne_iff_ne.2 (by omega)
    have HV := Lib.hid (show decide (l = m) = false by
      rw [decide_eq_false_iff_not]
      intro e
      exact hne (by rw [e]))
    clear hne
    go_enter Tryz.func119, Tryz.ntmps119
    go_wp2
    go_ret
    exact ⟨ret_bool HV.out.symm, by rw [HW0.out]; exact B0.out⟩
set_option maxRecDepth 100000 in
set_option maxHeartbeats 1000000 in
theorem sameLot_h (p q : Lp) (w : World) (hp : Seg encH 2 w w.heap.size p.A p.x.held) (hq : Seg encH 2 w w.heap.size q.A q.x.held) (h1 : p.x.held.length ≤ 2000000) :
    Calls Tryz.prog 47 #[.agg (rowL p), .agg (rowL q)] w fun e w' => e = .returned (.bool (Rt.sameL p.x q.x)) ∧ Below w.heap.size w w' := by
  obtain ⟨b0, k1, k2, z0⟩ := hid_box2 (w := w) (rowL p) (rowL q) 54
  have hc := sameHold_h p q _ ((hp.below b0).more b0.size) ((hq.below b0).more b0.size) h1
  have l1 := ld_row k1 Tryz.underlying54 rfl info_lot
  have l2 := ld_row k2 Tryz.underlying54 rfl info_lot
  have K1 := Lib.hid k1
  have K2 := Lib.hid k2
  have B0 := Lib.hid b0
  have Z0 := Lib.hid z0
  have hr : Rt.sameL p.x q.x = (decide (p.x.held = q.x.held) && decide (p.x.number = q.x.number) && decide (p.x.size = q.x.size)) := by
    unfold Rt.sameL
    obtain ⟨⟨p1, p2, p3⟩, _, _⟩ := p
    obtain ⟨⟨q1, q2, q3⟩, _, _⟩ := q
    simp only [Rt.Lot.mk.injEq, Bool.decide_and]
    by_cases h1 : p1 = q1 <;> by_cases h2 : p2 = q2 <;> by_cases h3 : p3 = q3 <;> simp [h1, h2, h3]
  rw [hr]
  obtain ⟨v, hv⟩ : ∃ v, decide (p.x.held = q.x.held) = v := ⟨_, rfl⟩
  rw [hv] at hc ⊢
  clear hr hv hp hq h1 k1 k2 b0 z0
  go_enter Tryz.func47, Tryz.ntmps47
  go_wp2_with fail
  refine hc.mono ?_
  clear hc l1 l2
  rintro e w2 ⟨rfl, b2⟩
  have hz := Z0.out
  have kr1 := (b2.block w.heap.size (by omega)).trans K1.out
  have kr2 := (b2.block (w.heap.size + 1) (by omega)).trans K2.out
  have d0 : _ = some (Value.int .i64 p.x.number) := (blk_cells kr1).1 0
  have d1 : _ = some (Value.int .i64 p.x.size) := (blk_cells kr1).1 1
  have e0 : _ = some (Value.int .i64 q.x.number) := (blk_cells kr2).1 0
  have e1 : _ = some (Value.int .i64 q.x.size) := (blk_cells kr2).1 1
  have HBB := Lib.hid (B0.out.trans (b2.mono B0.out.size))
  clear kr1 kr2 b2 hz
  cases v with
  | false =>
    go_wp2
    go_ret
    exact ⟨rfl, HBB.out⟩
  | true =>
    by_cases g1 : p.x.number = q.x.number
    · have q1 : (p.x.number == q.x.number) = true := by simpa using g1
      have HG := Lib.hid g1
      clear g1
      obtain ⟨v2, q2⟩ : ∃ v, (p.x.size == q.x.size) = v := ⟨_, rfl⟩
      have HG2 : Hid (decide (p.x.size = q.x.size) = v2) := Lib.hid (by rw [← q2]; rfl)
      go_wp2
      go_ret
      exact ⟨by rw [decide_eq_true HG.out, HG2.out]; rfl, HBB.out⟩
    · have q1 : (p.x.number == q.x.number) = false := by simpa using g1
      have HG := Lib.hid g1
      clear g1
      go_wp2
      go_ret
      exact ⟨by simp [HG.out], HBB.out⟩

set_option maxRecDepth 100000 in
set_option maxHeartbeats 2000000 in
theorem same_h (A1 A2 A3 B1 B2 B3 : Option Addr) (c1 c2 c3 d1 d2 d3 : Nat) (L M : List Lp) (r s : Rt.Roll) (w : World) (hr : Rol w w.heap.size A1 A2 A3 L r) (hs : Rol w w.heap.size B1 B2 B3 M s) (fr : Rt.Few r) :
    Calls Tryz.prog 43 #[.agg (rowR r A1 A2 A3 c1 c2 c3), .agg (rowR s B1 B2 B3 d1 d2 d3)] w fun e w' => e = .returned (.bool (Rt.sameR r s)) ∧ Below w.heap.size w w' := by
  obtain ⟨b0, k1, k2, z0⟩ := hid_box2 (w := w) (rowR r A1 A2 A3 c1 c2 c3) (rowR s B1 B2 B3 d1 d2 d3) 50
  obtain ⟨x1, _⟩ := blk_cells k1
  obtain ⟨x2, _⟩ := blk_cells k2
  have HR := Lib.hid (hr.up b0)
  have HS := Lib.hid (hs.up b0)
  have d0 : _ = some (Value.slice A1 r.lots.length c1) := x1 0
  have e0 : _ = some (Value.slice B1 s.lots.length d1) := x2 0
  obtain ⟨W0, hW0⟩ : ∃ W0, (w.alloc (.cells (rowR r A1 A2 A3 c1 c2 c3) 50 (0, 0))).alloc (.cells (rowR s B1 B2 B3 d1 d2 d3) 50 (0, 0)) = W0 := ⟨_, rfl⟩
  rw [hW0] at b0 k1 k2 z0 HR HS
  have HW0 := Lib.hid hW0
  have B0 := Lib.hid b0
  have K1 := Lib.hid k1
  have K2 := Lib.hid k2
  have FR := Lib.hid fr
  have hLr := hr.llen
  have hMs := hs.llen
  clear x1 x2 hW0 b0 k1 k2 hr hs fr
  obtain ⟨n, hn⟩ : ∃ n, r.lots.length = n := ⟨_, rfl⟩
  obtain ⟨m, hm⟩ : ∃ n, s.lots.length = n := ⟨_, rfl⟩
  have HLn : Hid (L.length = n) := Lib.hid (by rw [hLr, hn])
  have HMm : Hid (M.length = m) := Lib.hid (by rw [hMs, hm])
  have HN := Lib.hid hn
  have HM := Lib.hid hm
  have hnb : n ≤ 2000000 := by have := FR.out.lots; omega
  rw [hn] at d0
  rw [hm] at e0
  obtain ⟨v, hv⟩ : ∃ v, Rt.sameR r s = v := ⟨_, rfl⟩
  unfold rowR
  rw [hv, hn, hm]
  have HV := Lib.hid hv
  clear hv hLr hMs hn hm
  by_cases hne : n = m
  case neg =>
    have hq : ((n : Int) != (m : Int)) = true := bne_iff_ne.2 (by omega)
    obtain rfl : v = false := by
      rw [← HV.out]
      unfold Rt.sameR
      rw [Rt.eqBy_len (by rw [HN.out, HM.out]; exact hne)]
      rfl
    clear hne
    go_enter Tryz.func43, Tryz.ntmps43
    go_wp2
    go_ret
    exact ⟨rfl, by have := HW0.out; unfold rowR at this; rw [HN.out, HM.out] at this; rw [this]; exact B0.out⟩
  subst hne
  have hq : ((n : Int) != (n : Int)) = false := by simp
  go_enter Tryz.func43, Tryz.ntmps43
  go_wp2
  go_loopw [5] (fun i wr => ∃ k : Nat, k ≤ n ∧ i = .int .i64 k ∧ Hid (∀ j (hj : j < L.length) (hj' : j < M.length), j < k → Rt.sameL L[j].x M[j].x = true) ∧ Hid (Below W0.heap.size W0 wr)) (fun i _ => n - (intOf i).toNat)
  case atStart => exact ⟨0, by omega, rfl, Lib.hid (fun j _ _ h => by omega), Lib.hid (by have := HW0.out; unfold rowR at this; rw [HN.out, HM.out] at this; rw [this]; exact Below.refl _ _)⟩
  case round =>
    obtain ⟨k, hk, rfl, hg, HB⟩ := hrel
    have kr1 := (HB.out.block _ (by omega)).trans K1.out
    have kr2 := (HB.out.block _ (by omega)).trans K2.out
    unfold rowR at kr1 kr2
    rw [HN.out] at kr1
    rw [HM.out] at kr2
    have dr0 : _ = some (Value.slice A1 n c1) := (blk_cells kr1).1 0
    have er0 : _ = some (Value.slice B1 n d1) := (blk_cells kr2).1 0
    by_cases hlt : k < n
    · obtain ⟨W, hW⟩ : ∃ W : World, W = wr.drew := ⟨_, rfl⟩
      have b1 : Below W0.heap.size W0 W := by rw [hW]; exact below_drew HB.out
      have dw0 : W.cell? ⟨w.heap.size, 0, none⟩ = some (Value.slice A1 n c1) := by rw [hW]; exact dr0
      have ew0 : W.cell? ⟨w.heap.size + 1, 0, none⟩ = some (Value.slice B1 n d1) := by rw [hW]; exact er0
      have HW := Lib.hid hW
      clear hW kr1 kr2
      have hkl : k < L.length := by have := HLn.out; omega
      have hkm : k < M.length := by have := HMm.out; omega
      have hki : (k : Int) < (n : Int) := by omega
      have R1 := HR.out.up b1
      have S1 := HS.out.up b1
      obtain ⟨bi, oi, ei, hbi, q1⟩ := ld_L R1.lots.seg hkl
      obtain ⟨bj, oj, ej, hbj, q2⟩ := ld_L S1.lots.seg hkm
      have hcall := sameLot_h L[k] M[k] W (R1.lots.each _ (List.getElem_mem hkl)).1 (S1.lots.each _ (List.getElem_mem hkm)).1 (HR.out.held FR.out (List.getElem_mem hkl))
      subst ei ej
      obtain ⟨x, hx⟩ : ∃ x, L[k] = x := ⟨_, rfl⟩
      obtain ⟨y, hy⟩ : ∃ y, M[k] = y := ⟨_, rfl⟩
      rw [hx] at q1 hcall
      rw [hy] at q2 hcall
      obtain ⟨u, hu⟩ : ∃ u, Rt.sameL x.x y.x = u := ⟨_, rfl⟩
      rw [hu] at hcall
      have HU : Hid (Rt.sameL L[k].x M[k].x = u) := Lib.hid (by rw [hx, hy, hu])
      have HB1 := Lib.hid b1
      clear hx hy hu R1 S1 b1
      go_wp2
      refine still_tail HW.out 10 (by kernel_rfl) (by kernel_rfl) ?_
      simp only [List.take_succ_cons, List.take_zero, List.drop_succ_cons, List.drop_zero]
      repeat still_step
      refine wpStill_nil ?_
      go_wp2_with fail
      refine hcall.mono ?_
      clear hcall
      rintro e w6 ⟨rfl, b6⟩
      have HB6 := Lib.hid (HB1.out.trans (b6.mono HB1.out.size))
      clear b6
      cases u with
      | true =>
        go_wp2
        go_roundw
        case rel => exact ⟨k + 1, by omega, by go_num, Lib.hid (fun j hj hj' h => by
          by_cases e : j = k
          · subst e
            exact HU.out
          · exact hg.out j hj hj' (by omega)), HB6⟩
        case measure => first | (simp [intOf]; done) | (simp [intOf]; omega)
      | false =>
        obtain rfl : v = false := by
          rw [← HV.out]
          unfold Rt.sameR
          have h1 : Rt.eqBy Rt.sameL r.lots s.lots = false := by
            have hl1 : L.map (fun p => p.x) = r.lots := HR.out.is
            have hl2 : M.map (fun p => p.x) = s.lots := HS.out.is
            rw [← hl1, ← hl2, ← Rt.eqBy_map, Bool.eq_false_iff]
            intro e
            have := (Rt.eqBy_iff (by rw [HLn.out, HMm.out])).1 e k hkl hkm
            rw [HU.out] at this
            cases this
          rw [h1]
          rfl
        go_wp2
        go_ret
        exact ⟨rfl, B0.out.trans (HB6.out.mono B0.out.size)⟩
    · obtain rfl : k = n := by omega
      have hv1 : Rt.eqBy Rt.sameL r.lots s.lots = true := by
        have hl1 : L.map (fun p => p.x) = r.lots := HR.out.is
        have hl2 : M.map (fun p => p.x) = s.lots := HS.out.is
        rw [← hl1, ← hl2, ← Rt.eqBy_map]
        exact (Rt.eqBy_iff (by rw [HLn.out, HMm.out])).2 (fun j hj hj' => hg.out j hj hj' (by have := HLn.out; omega))
      have HVV : Hid (v = (Rt.eqBy Rt.sameE r.eases s.eases && Rt.eqBy Rt.sameS r.stints s.stints)) := Lib.hid (by rw [← HV.out]; unfold Rt.sameR; rw [hv1]; rfl)
      have dr1 : _ = some (Value.slice A2 r.eases.length c2) := (blk_cells kr1).1 1
      have er1 : _ = some (Value.slice B2 s.eases.length d2) := (blk_cells kr2).1 1
      have R1 := HR.out.up HB.out
      have S1 := HS.out.up HB.out
      have hc1 := sameEases_h A2 B2 c2 d2 r.eases s.eases wr R1.eases S1.eases FR.out.eases
      obtain ⟨v1, hv2⟩ : ∃ v, Rt.eqBy Rt.sameE r.eases s.eases = v := ⟨_, rfl⟩
      rw [hv2] at hc1 HVV
      clear kr1 kr2 hv1 hv2 R1 S1 HV
      go_wp2_with fail
      refine hc1.mono ?_
      clear hc1
      rintro e w6 ⟨rfl, b6⟩
      have HB6 := Lib.hid (HB.out.trans (b6.mono HB.out.size))
      have kr1 := (HB6.out.block _ (by omega)).trans K1.out
      have kr2 := (HB6.out.block _ (by omega)).trans K2.out
      unfold rowR at kr1 kr2
      have dr2 : _ = some (Value.slice A3 r.stints.length c3) := (blk_cells kr1).1 2
      have er2 : _ = some (Value.slice B3 s.stints.length d3) := (blk_cells kr2).1 2
      have R1 := HR.out.up HB6.out
      have S1 := HS.out.up HB6.out
      have hc2 := sameGrazing_h A3 B3 c3 d3 r.stints s.stints w6 R1.stints S1.stints FR.out.stints
      obtain ⟨v2, hv2⟩ : ∃ v, Rt.eqBy Rt.sameS r.stints s.stints = v := ⟨_, rfl⟩
      rw [hv2] at hc2 HVV
      clear kr1 kr2 hv2 R1 S1 b6
      go_wp2_with fail
      refine hc2.mono ?_
      clear hc2
      rintro e w7 ⟨rfl, b7⟩
      have HB7 := Lib.hid (HB6.out.trans (b7.mono HB6.out.size))
      clear b7
      have hv := HVV.out
      clear HVV
      subst hv
      cases v1
      all_goals
        go_wp2
        go_ret
        exact ⟨rfl, B0.out.trans (HB7.out.mono B0.out.size)⟩
theorem Rt.equal_iff {r s : Rt.Roll} (h : Rt.sameR r s = true) (h1 : ∀ j (hj : j < r.eases.length) (hj' : j < s.eases.length), r.eases[j].deal = s.eases[j].deal) (h2 : ∀ j (hj : j < r.stints.length) (hj' : j < s.stints.length), r.stints[j].deal = s.stints[j].deal) : r = s := by
  unfold Rt.sameR at h
  rw [Bool.and_eq_true, Bool.and_eq_true] at h
  obtain ⟨⟨ha, hb⟩, hc⟩ := h
  have la := Rt.eqBy_true_len ha
  have lb := Rt.eqBy_true_len hb
  have lc := Rt.eqBy_true_len hc
  obtain ⟨a1, a2, a3⟩ := r
  obtain ⟨b1, b2, b3⟩ := s
  rw [Rt.Roll.mk.injEq]
  refine ⟨List.ext_getElem la fun j hj hj' => ?_, List.ext_getElem lb fun j hj hj' => ?_, List.ext_getElem lc fun j hj hj' => ?_⟩
  · have := (Rt.eqBy_iff la).1 ha j hj hj'
    simpa [Rt.sameL] using this
  · have := (Rt.eqBy_iff lb).1 hb j hj hj'
    have h3 := h1 j hj hj'
    simp only [Rt.sameE, decide_eq_true_eq] at this
    revert this h3
    dsimp only
    cases a2[j]
    cases b2[j]
    simp
    omega
  · have := (Rt.eqBy_iff lc).1 hc j hj hj'
    have h3 := h2 j hj hj'
    simp only [Rt.sameS, decide_eq_true_eq] at this
    revert this h3
    dsimp only
    cases a3[j]
    cases b3[j]
    simp
    omega

set_option maxRecDepth 100000 in
set_option maxHeartbeats 2000000 in
theorem equal_h (A1 A2 A3 B1 B2 B3 : Option Addr) (c1 c2 c3 d1 d2 d3 : Nat) (L M : List Lp) (r s : Rt.Roll) (w : World) (hr : Rol w w.heap.size A1 A2 A3 L r) (hs : Rol w w.heap.size B1 B2 B3 M s) (fr : Rt.Few r) :
    Calls Tryz.prog 50 #[.agg (rowR r A1 A2 A3 c1 c2 c3), .agg (rowR s B1 B2 B3 d1 d2 d3)] w fun e w' => e = .returned (.bool (decide (r = s))) ∧ Below w.heap.size w w' := by
  obtain ⟨b0, k1, k2, z0⟩ := hid_box2 (w := w) (rowR r A1 A2 A3 c1 c2 c3) (rowR s B1 B2 B3 d1 d2 d3) 50
  have hcs := same_h A1 A2 A3 B1 B2 B3 c1 c2 c3 d1 d2 d3 L M r s _ (hr.up b0) (hs.up b0) fr
  have l1 := ld_row k1 Tryz.underlying50 rfl info_roll
  have l2 := ld_row k2 Tryz.underlying50 rfl info_roll
  have HR := Lib.hid (hr.up b0)
  have HS := Lib.hid (hs.up b0)
  have B0 := Lib.hid b0
  have K1 := Lib.hid k1
  have K2 := Lib.hid k2
  have Z0 := Lib.hid z0
  have FR := Lib.hid fr
  obtain ⟨u, hu⟩ : ∃ u, Rt.sameR r s = u := ⟨_, rfl⟩
  rw [hu] at hcs
  obtain ⟨v, hv⟩ : ∃ v, decide (r = s) = v := ⟨_, rfl⟩
  rw [hv]
  have HU := Lib.hid hu
  have HV := Lib.hid hv
  clear hu hv b0 k1 k2 z0 hr hs fr
  go_enter Tryz.func50, Tryz.ntmps50
  go_wp2_with fail
  refine hcs.mono ?_
  clear hcs l1 l2
  rintro e w2 ⟨rfl, b2⟩
  have HB2 := Lib.hid b2
  have hz := Z0.out
  have hz2 := b2.size
  have kr1 := (b2.block w.heap.size (by omega)).trans K1.out
  have kr2 := (b2.block (w.heap.size + 1) (by omega)).trans K2.out
  have KR1 := Lib.hid kr1
  have KR2 := Lib.hid kr2
  have HR2 := Lib.hid (HR.out.up b2)
  have HS2 := Lib.hid (HS.out.up b2)
  have HBW := Lib.hid (B0.out.trans (b2.mono B0.out.size))
  have hw2 : w.heap.size + 1 < w2.heap.size := by omega
  clear kr1 kr2 b2 hz hz2 HB2 HR HS B0 K1 K2 Z0
  cases u with
  | false =>
    obtain rfl : v = false := by
      rw [← HV.out, decide_eq_false_iff_not]
      intro e
      subst e
      have := HU.out
      unfold Rt.sameR at this
      have h1 : Rt.eqBy Rt.sameL r.lots r.lots = true := (Rt.eqBy_iff rfl).2 (fun j hj hj' => by simp [Rt.sameL])
      have h2 : Rt.eqBy Rt.sameE r.eases r.eases = true := (Rt.eqBy_iff rfl).2 (fun j hj hj' => by simp [Rt.sameE])
      have h3 : Rt.eqBy Rt.sameS r.stints r.stints = true := (Rt.eqBy_iff rfl).2 (fun j hj hj' => by simp [Rt.sameS])
      rw [h1, h2, h3] at this
      cases this
    go_wp2
    go_ret
    exact ⟨rfl, HBW.out⟩
  | true =>
  have hsR := HU.out
  unfold Rt.sameR at hsR
  rw [Bool.and_eq_true, Bool.and_eq_true] at hsR
  have HLE : Hid (s.eases.length = r.eases.length) := Lib.hid (Rt.eqBy_true_len hsR.1.2).symm
  have HLS : Hid (s.stints.length = r.stints.length) := Lib.hid (Rt.eqBy_true_len hsR.2).symm
  clear hsR
  obtain ⟨n, hn⟩ : ∃ n, r.eases.length = n := ⟨_, rfl⟩
  have HN := Lib.hid hn
  have hnb : n ≤ 3000000000000 := by have := FR.out.eases; omega
  clear hn
  have HB0 : Hid (Below w2.heap.size w2 w2) := Lib.hid (Below.refl _ _)
  go_wp2
  go_loopw [6] (fun i wr => ∃ k : Nat, k ≤ n ∧ i = .int .i64 k ∧ Hid (∀ j (hj : j < r.eases.length) (hj' : j < s.eases.length), j < k → r.eases[j].deal = s.eases[j].deal) ∧ Hid (Below w2.heap.size w2 wr)) (fun i _ => n - (intOf i).toNat)
  case atStart => exact ⟨0, by omega, rfl, Lib.hid (fun j _ _ h => by omega), HB0⟩
  case round =>
    obtain ⟨k, hk, rfl, hg, HB⟩ := hrel
    have kr1 := (HB.out.block _ (by omega)).trans KR1.out
    have kr2 := (HB.out.block _ (by omega)).trans KR2.out
    unfold rowR at kr1 kr2
    rw [HN.out] at kr1
    rw [HLE.out, HN.out] at kr2
    have dr1 : _ = some (Value.slice A2 n c2) := (blk_cells kr1).1 1
    have er1 : _ = some (Value.slice B2 n d2) := (blk_cells kr2).1 1
    by_cases hlt : k < n
    · obtain ⟨W, hW⟩ : ∃ W : World, W = wr.drew := ⟨_, rfl⟩
      have b1 : Below w2.heap.size w2 W := by rw [hW]; exact below_drew HB.out
      have dw0 : W.cell? ⟨w.heap.size, 1, none⟩ = some (Value.slice A2 n c2) := by rw [hW]; exact dr1
      have ew0 : W.cell? ⟨w.heap.size + 1, 1, none⟩ = some (Value.slice B2 n d2) := by rw [hW]; exact er1
      have HW := Lib.hid hW
      clear hW kr1 kr2
      have hkl : k < r.eases.length := by have := HN.out; omega
      have hkm : k < s.eases.length := by have := HN.out; have := HLE.out; omega
      have hki : (k : Int) < (n : Int) := by omega
      obtain ⟨bi, oi, ei, hbi, q1⟩ := (HR2.out.up b1).eases.at_ hkl
      obtain ⟨bj, oj, ej, hbj, q2⟩ := (HS2.out.up b1).eases.at_ hkm
      subst ei ej
      obtain ⟨x, hx⟩ : ∃ x, r.eases[k].deal = x := ⟨_, rfl⟩
      obtain ⟨y, hy⟩ : ∃ y, s.eases[k].deal = y := ⟨_, rfl⟩
      have x2 : W.cell? ⟨bi, oi + k * 3 + 2, none⟩ = some (.int .i64 x) := by have := q1 2 _ rfl; rw [hx] at this; exact this
      have y2 : W.cell? ⟨bj, oj + k * 3 + 2, none⟩ = some (.int .i64 y) := by have := q2 2 _ rfl; rw [hy] at this; exact this
      have HX := Lib.hid hx
      have HY := Lib.hid hy
      have HB1 := Lib.hid b1
      clear hx hy q1 q2 b1
      by_cases hxy : x = y
      · have qd : (x != y) = false := by simpa using hxy
        have HXY := Lib.hid hxy
        clear hxy
        go_wp2
        refine still_all HW.out (by kernel_rfl) (by kernel_rfl) ?_
        repeat still_step
        refine wpStill_nil ?_
        go_wp2
        go_roundw
        case rel => exact ⟨k + 1, by omega, by go_num, Lib.hid (fun j hj hj' h => by
          by_cases e : j = k
          · subst e
            rw [HX.out, HY.out, HXY.out]
          · exact hg.out j hj hj' (by omega)), HB1⟩
        case measure => first | (simp [intOf]; done) | (simp [intOf]; omega)
      · have qd : (x != y) = true := by simpa using hxy
        obtain rfl : v = false := by
          rw [← HV.out, decide_eq_false_iff_not]
          intro e
          subst e
          exact hxy (HX.out.symm.trans HY.out)
        clear hxy
        go_wp2
        refine still_all HW.out (by kernel_rfl) (by kernel_rfl) ?_
        repeat still_step
        refine wpStill_nil ?_
        go_wp2
        go_ret
        exact ⟨rfl, HBW.out.trans (HB1.out.mono HBW.out.size)⟩
    · obtain rfl : k = n := by omega
      have HG1 : Hid (∀ j (hj : j < r.eases.length) (hj' : j < s.eases.length), r.eases[j].deal = s.eases[j].deal) := Lib.hid fun j hj hj' => hg.out j hj hj' (by have := HN.out; omega)
      obtain ⟨m, hm⟩ : ∃ n, r.stints.length = n := ⟨_, rfl⟩
      have HM := Lib.hid hm
      have hmb : m ≤ 3000000000000 := by have := FR.out.stints; omega
      clear hm kr1 kr2 hg
      go_wp2
      go_loopw [7] (fun i wr => ∃ k : Nat, k ≤ m ∧ i = .int .i64 k ∧ Hid (∀ j (hj : j < r.stints.length) (hj' : j < s.stints.length), j < k → r.stints[j].deal = s.stints[j].deal) ∧ Hid (Below w2.heap.size w2 wr)) (fun i _ => m - (intOf i).toNat)
      case atStart => exact ⟨0, by omega, rfl, Lib.hid (fun j _ _ h => by omega), HB⟩
      case round =>
        obtain ⟨k, hk, rfl, hg, HB⟩ := hrel
        have kr1 := (HB.out.block _ (by omega)).trans KR1.out
        have kr2 := (HB.out.block _ (by omega)).trans KR2.out
        unfold rowR at kr1 kr2
        rw [HM.out] at kr1
        rw [HLS.out, HM.out] at kr2
        have dr1 : _ = some (Value.slice A3 m c3) := (blk_cells kr1).1 2
        have er1 : _ = some (Value.slice B3 m d3) := (blk_cells kr2).1 2
        by_cases hlt : k < m
        · obtain ⟨W, hW⟩ : ∃ W : World, W = wr.drew := ⟨_, rfl⟩
          have b1 : Below w2.heap.size w2 W := by rw [hW]; exact below_drew HB.out
          have dw0 : W.cell? ⟨w.heap.size, 2, none⟩ = some (Value.slice A3 m c3) := by rw [hW]; exact dr1
          have ew0 : W.cell? ⟨w.heap.size + 1, 2, none⟩ = some (Value.slice B3 m d3) := by rw [hW]; exact er1
          have HW := Lib.hid hW
          clear hW kr1 kr2
          have hkl : k < r.stints.length := by have := HM.out; omega
          have hkm : k < s.stints.length := by have := HM.out; have := HLS.out; omega
          have hki : (k : Int) < (m : Int) := by omega
          obtain ⟨bi, oi, ei, hbi, q1⟩ := (HR2.out.up b1).stints.at_ hkl
          obtain ⟨bj, oj, ej, hbj, q2⟩ := (HS2.out.up b1).stints.at_ hkm
          subst ei ej
          obtain ⟨x, hx⟩ : ∃ x, r.stints[k].deal = x := ⟨_, rfl⟩
          obtain ⟨y, hy⟩ : ∃ y, s.stints[k].deal = y := ⟨_, rfl⟩
          have x2 : W.cell? ⟨bi, oi + k * 4 + 3, none⟩ = some (.int .i64 x) := by have := q1 3 _ rfl; rw [hx] at this; exact this
          have y2 : W.cell? ⟨bj, oj + k * 4 + 3, none⟩ = some (.int .i64 y) := by have := q2 3 _ rfl; rw [hy] at this; exact this
          have HX := Lib.hid hx
          have HY := Lib.hid hy
          have HB1 := Lib.hid b1
          clear hx hy q1 q2 b1
          by_cases hxy : x = y
          · have qd : (x != y) = false := by simpa using hxy
            have HXY := Lib.hid hxy
            clear hxy
            go_wp2
            refine still_all HW.out (by kernel_rfl) (by kernel_rfl) ?_
            repeat still_step
            refine wpStill_nil ?_
            go_wp2
            go_roundw
            case rel => exact ⟨k + 1, by omega, by go_num, Lib.hid (fun j hj hj' h => by
              by_cases e : j = k
              · subst e
                rw [HX.out, HY.out, HXY.out]
              · exact hg.out j hj hj' (by omega)), HB1⟩
            case measure => first | (simp [intOf]; done) | (simp [intOf]; omega)
          · have qd : (x != y) = true := by simpa using hxy
            obtain rfl : v = false := by
              rw [← HV.out, decide_eq_false_iff_not]
              intro e
              subst e
              exact hxy (HX.out.symm.trans HY.out)
            clear hxy
            go_wp2
            refine still_all HW.out (by kernel_rfl) (by kernel_rfl) ?_
            repeat still_step
            refine wpStill_nil ?_
            go_wp2
            go_ret
            exact ⟨rfl, HBW.out.trans (HB1.out.mono HBW.out.size)⟩
        · obtain rfl : k = m := by omega
          obtain rfl : v = true := by
            rw [← HV.out, decide_eq_true_iff]
            exact Rt.equal_iff HU.out HG1.out fun j hj hj' => hg.out j hj hj' (by have := HM.out; omega)
          clear kr1 kr2
          go_wp2
          go_ret
          exact ⟨rfl, HBW.out.trans (HB.out.mono HBW.out.size)⟩

end Go.Proofs.YtcffonnijhhhiaaGreatDoor
