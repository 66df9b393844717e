/- Walks: variations, sectors, the errors in common. -/
import Derived.Test.YthncpapejijloaaGreatDoorProg
import Derived.WalkKit
import Derived.WalkLawsBesides
import Derived.WalkSpells
import Derived.Handy
import Derived.Lib.Hide
import Derived.Great.BuildSlice
import Derived.Deep.QuietTactic
import Derived.BigQuiet
import Derived.Deep.RegionHeld3
import Derived.Deep.DeepCutAuto
import Derived.Test.YthncpapejijloaaGreatDoorAA
import Derived.Test.YthncpapejijloaaGreatDoorMem
import Derived.Test.YthncpapejijloaaGreatDoorPlA
namespace Go.Proofs.YthncpapejijloaaGreatDoor
open Go.RowKit

theorem vars_a (A : Option Addr) (c : Nat) (l : List (Int × Int)) (w : World) (hl : Vars w w.heap.size A l) (hm : l.length ≤ maxLen) :
    Calls Tryz.prog 70 #[.slice A l.length c] w fun e w' => e = .returned (.int .i64 (Pl.vars l)) ∧ Below w.heap.size w w' := by
  unfold maxLen at hm
  by_cases h40 : 40 < l.length
  · go_enter Tryz.func70, Tryz.ntmps70
    go_wp2
    go_ret
    exact ⟨ret_int (by unfold Pl.vars; rw [if_pos h40]), by go_grown⟩
  · go_enter Tryz.func70, Tryz.ntmps70
    go_wp2
    go_loopw [3, 11] (fun y i wr => ∃ (k : Nat) (p : Int), k ≤ l.length ∧ i = .int .i64 k ∧ y = .int .i64 p ∧ 0 ≤ p ∧ p ≤ 3000 ∧ Pl.varsGo 0 l = Pl.varsGo p (l.drop k) ∧ Below w.heap.size w wr) (fun _ i _ => l.length - (intOf i).toNat)
    case atStart => exact ⟨0, 0, by omega, rfl, rfl, by omega, by omega, rfl, by go_grown⟩
    case round =>
      obtain ⟨k, p, hk, rfl, rfl, hp0, hp1, hg, hb⟩ := hrel
      have hsz := hb.size
      by_cases hlt : k < l.length
      · have hg2 := Pl.varsGo_drop (p := p) hlt
        obtain ⟨b, off, rfl, hbB, hc0, hc1⟩ := Vars.at2 (hl.below hb) hlt
        have H := Lib.hid hg; clear hg
        have H2 := Lib.hid hg2; clear hg2
        go_wp2_with (go_at_call 87; refine (in_a _ _ _ _).mono ?_; rintro e w' ⟨rfl, rfl⟩)
        · go_ret
          exact ⟨ret_int (by have e1 := H.out; have e2 := H2.out; grind [Pl.vars, Pl.err]), by go_grown⟩
        · go_roundw
          case rel => exact ⟨k + 1, l[k].1, by omega, by go_num, rfl, by grind [Pl.inB], by grind [Pl.inB], by have e1 := H.out; have e2 := H2.out; grind, by go_grown⟩
          case measure => simp [intOf]; omega
        · go_ret
          exact ⟨ret_int (by have e1 := H.out; have e2 := H2.out; grind [Pl.vars, Pl.err]), by go_grown⟩
      · obtain rfl : k = l.length := by omega
        have H := Lib.hid hg; clear hg
        go_wp2
        go_ret
        exact ⟨ret_int (by have e1 := H.out; rw [List.drop_length] at e1; grind [Pl.vars, Pl.err, Pl.varsGo]), by go_grown⟩
set_option maxHeartbeats 1600000 in
theorem vars_b (A : Option Addr) (c : Nat) (l : List (Int × Int)) (w : World) (hl : Vars w w.heap.size A l) (hm : l.length ≤ maxLen) :
    Calls Tryz.prog 71 #[.slice A l.length c] w fun e w' => e = .returned (.int .i64 (Pl.vars l)) ∧ Below w.heap.size w w' := by
  unfold maxLen at hm
  by_cases h40 : 40 < l.length
  · go_enter Tryz.func71, Tryz.ntmps71
    go_wp2
    go_ret
    exact ⟨ret_int (by unfold Pl.vars; rw [if_pos h40]), by go_grown⟩
  · go_enter Tryz.func71, Tryz.ntmps71
    go_wp2
    go_loopw [3] (fun i wr => ∃ (k : Nat), k ≤ l.length ∧ i = .int .i64 k ∧ Pl.varsGo 0 l = Pl.varsGo (Pl.prevYear l k) (l.drop k) ∧ 0 ≤ Pl.prevYear l k ∧ Below w.heap.size w wr) (fun i _ => l.length - (intOf i).toNat)
    case atStart => exact ⟨0, by omega, rfl, rfl, by simp [Pl.prevYear], by go_grown⟩
    case round =>
      obtain ⟨k, hk, rfl, hg, hp, hb⟩ := hrel
      have hsz := hb.size
      by_cases hlt : k < l.length
      · have hg2 := Pl.varsGo_drop (p := Pl.prevYear l k) hlt
        obtain ⟨b, off, rfl, hbB, hc0, hc1⟩ := Vars.at2 (hl.below hb) hlt
        have H := Lib.hid hg; clear hg
        have H2 := Lib.hid hg2; clear hg2
        have H3 := Lib.hid hp; clear hp
        have hbW : b < wr.heap.size := by omega
        have H5 : Hid (Pl.prevYear l (k + 1) = l[k].1) := by unfold Hid Pl.prevYear; rw [if_neg (by omega), Nat.add_sub_cancel, List.getElem?_eq_getElem hlt]; rfl
        by_cases h0 : 0 < k
        · obtain ⟨b', off', he, _, hd0, hd1⟩ := Vars.at2 (hl.below hb) (show k - 1 < l.length by omega)
          obtain ⟨rfl, rfl⟩ : b = b' ∧ off = off' := by simpa using he
          clear he
          have H4 : Hid (Pl.prevYear l k = l[k - 1].1) := by unfold Hid Pl.prevYear; rw [if_neg (by omega), List.getElem?_eq_getElem (by omega)]; rfl
          go_wp2
          all_goals (refine wp_region_quiet_lit (by kernel_rfl) (by kernel_rfl) ?_)
          repeat (any_goals (first | go_big_quiet_step (fail) | quiet_step (fail) | (refine wpQuiet_step (fun K hK => ?_); go_simp; split <;> (refine hK _ ?_; clear hK K))))
          all_goals (refine wpQuiet_nil ?_; intro wq hw'; obtain ⟨nq, hw''⟩ := hw'; have hbq : Below w.heap.size w wq := by rw [hw'']; exact below_drewN (by go_grown) nq)
          all_goals subst hw''
          all_goals go_wp2
          all_goals first
            | (go_ret; exact ⟨ret_int (by have e1 := H.out; have e2 := H2.out; have e3 := H4.out; have e5 := H3.out; grind [Pl.vars, Pl.err, Pl.inB]), by go_grown⟩)
            | (go_roundw
               case rel => exact ⟨k + 1, by omega, by go_num, by have e1 := H.out; have e2 := H2.out; have e3 := H4.out; have e4 := H5.out; grind [Pl.inB], by have e4 := H5.out; omega, by go_grown⟩
               case measure => simp [intOf]; omega)
        · have H4 : Hid (Pl.prevYear l k = 0) := by unfold Hid Pl.prevYear; rw [if_pos (by omega)]
          go_wp2
          all_goals (refine wp_region_quiet_lit (by kernel_rfl) (by kernel_rfl) ?_)
          repeat (any_goals (first | go_big_quiet_step (fail) | quiet_step (fail) | (refine wpQuiet_step (fun K hK => ?_); go_simp; split <;> (refine hK _ ?_; clear hK K))))
          all_goals (refine wpQuiet_nil ?_; intro wq hw'; obtain ⟨nq, hw''⟩ := hw'; have hbq : Below w.heap.size w wq := by rw [hw'']; exact below_drewN (by go_grown) nq)
          all_goals subst hw''
          all_goals go_wp2
          all_goals first
            | (go_ret; exact ⟨ret_int (by have e1 := H.out; have e2 := H2.out; have e3 := H4.out; have e5 := H3.out; grind [Pl.vars, Pl.err, Pl.inB]), by go_grown⟩)
            | (go_roundw
               case rel => exact ⟨k + 1, by omega, by go_num, by have e1 := H.out; have e2 := H2.out; have e3 := H4.out; have e4 := H5.out; grind [Pl.inB], by have e4 := H5.out; omega, by go_grown⟩
               case measure => simp [intOf]; omega)
      · obtain rfl : k = l.length := by omega
        have H := Lib.hid hg; clear hg
        go_wp2
        go_ret
        exact ⟨ret_int (by have e1 := H.out; rw [List.drop_length] at e1; grind [Pl.vars, Pl.err, Pl.varsGo]), by go_grown⟩
theorem decl_a (A : Option Addr) (c : Nat) (l : List (Int × Int)) (y : Int) (w : World) (hl : Vars w w.heap.size A l) (hm : l.length ≤ maxLen) :
    Calls Tryz.prog 63 #[.slice A l.length c, .int .i64 y] w fun e w' => e = .returned (.tuple #[.int .i64 (Pl.decl l y).1, .bool (Pl.decl l y).2]) ∧ Below w.heap.size w w' := by
  have hm' := hm
  unfold maxLen at hm
  by_cases hv : Pl.vars l = 0
  · have hv' : (Pl.vars l != 0) = false := by simp [hv]
    have H0 := Lib.hid hv; clear hv
    go_enter Tryz.func63, Tryz.ntmps63
    go_wp2_with (go_at_call 70; refine (vars_a _ _ _ _ hl hm').mono ?_; rintro e w1 ⟨rfl, hx1⟩; have hb1 : Below w.heap.size w w1 := Below.trans (by go_grown) (hx1.mono (by go_size)); clear hx1; have hsz1 : w.heap.size ≤ w1.heap.size := hb1.size)
    go_loopw [6, 7, 15] (fun e0 i0 i wr => ∃ (k : Nat) (s : Int × Bool), k ≤ l.length ∧ i = .int .i64 k ∧ e0 = .int .i64 s.1 ∧ i0 = .bool s.2 ∧ Pl.declGo y (0, false) l = Pl.declGo y s (l.drop k) ∧ Below w.heap.size w wr) (fun _ _ i _ => l.length - (intOf i).toNat)
    case atStart => exact ⟨0, (0, false), by omega, rfl, rfl, rfl, rfl, by go_grown⟩
    case round =>
      obtain ⟨k, s, hk, rfl, rfl, rfl, hg, hb⟩ := hrel
      have hsz := hb.size
      by_cases hlt : k < l.length
      · have hg2 := Pl.declGo_drop (y := y) (s := s) hlt
        obtain ⟨b, off, rfl, hbB, hc0, hc1⟩ := Vars.at2 (hl.below hb) hlt
        have H := Lib.hid hg; clear hg
        have H2 := Lib.hid hg2; clear hg2
        go_wp2
        · go_roundw
          case rel => exact ⟨k + 1, (l[k].2, true), by omega, by go_num, rfl, rfl, by have e1 := H.out; have e2 := H2.out; grind, by go_grown⟩
          case measure => simp [intOf]; omega
        · go_roundw
          case rel => exact ⟨k + 1, s, by omega, by go_num, rfl, rfl, by have e1 := H.out; have e2 := H2.out; grind, by go_grown⟩
          case measure => simp [intOf]; omega
      · obtain rfl : k = l.length := by omega
        have H := Lib.hid hg; clear hg
        go_wp2
        go_ret2
        have e1 : Pl.decl l y = s := by unfold Pl.decl; rw [if_pos H0.out, H.out, List.drop_length]; rfl
        exact ⟨by rw [e1]; rfl, by go_grown⟩
  · have hv' : (Pl.vars l != 0) = true := by simp [hv]
    have H0 := Lib.hid hv; clear hv
    go_enter Tryz.func63, Tryz.ntmps63
    go_wp2_with (go_at_call 70; refine (vars_a _ _ _ _ hl hm').mono ?_; rintro e w1 ⟨rfl, hx1⟩; have hb1 : Below w.heap.size w w1 := Below.trans (by go_grown) (hx1.mono (by go_size)); clear hx1; have hsz1 : w.heap.size ≤ w1.heap.size := hb1.size)
    go_ret2
    exact ⟨by unfold Pl.decl; rw [if_neg H0.out]; rfl, by go_grown⟩
theorem decl_b (A : Option Addr) (c : Nat) (l : List (Int × Int)) (y : Int) (w : World) (hl : Vars w w.heap.size A l) (hm : l.length ≤ maxLen) :
    Calls Tryz.prog 64 #[.slice A l.length c, .int .i64 y] w fun e w' => e = .returned (.tuple #[.int .i64 (Pl.decl l y).1, .bool (Pl.decl l y).2]) ∧ Below w.heap.size w w' := by
  have hm' := hm
  unfold maxLen at hm
  by_cases hv : Pl.vars l = 0
  · have hv' : (Pl.vars l != 0) = false := by simp [hv]
    have H0 := Lib.hid hv; clear hv
    go_enter Tryz.func64, Tryz.ntmps64
    go_wp2_with (go_at_call 71; refine (vars_b _ _ _ _ hl hm').mono ?_; rintro e w1 ⟨rfl, hx1⟩; have hb1 : Below w.heap.size w w1 := Below.trans (by go_grown) (hx1.mono (by go_size)); clear hx1; have hsz1 : w.heap.size ≤ w1.heap.size := hb1.size)
    have Hsp := Lib.hid hsz1; clear hsz1
    go_loopw [6] (fun i wr => ∃ (k : Nat), k ≤ l.length ∧ i = .int .i64 ((k : Int) - 1) ∧ Hid (∀ j x, k ≤ j → l[j]? = some x → y < x.1) ∧ Below w.heap.size w wr) (fun i _ => (intOf i + 1).toNat)
    case atStart =>
      refine ⟨l.length, by omega, rfl, ?_, by go_grown⟩
      intro j x hj hx; rw [List.getElem?_eq_none hj] at hx; cases hx
    case round =>
      obtain ⟨k, hk, rfl, hg, hb⟩ := hrel
      have hsz := hb.size
      cases k with
      | zero =>
        go_wp2
        go_ret2
        exact ⟨by rw [Pl.decl_none H0.out hg.out]; rfl, by go_grown⟩
      | succ k =>
        have hlt : k < l.length := by omega
        obtain ⟨b, off, rfl, hbB, hc0, hc1⟩ := Vars.at2 (hl.below hb) hlt
        go_wp2
        · go_ret2
          exact ⟨by rw [Pl.decl_last H0.out hlt (by assumption) hg.out]; rfl, by go_grown⟩
        · go_roundw
          case rel => exact ⟨k, by omega, rfl, Pl.later hlt (by assumption) hg.out, by go_grown⟩
          case measure => first | (simp [intOf]; done) | (simp [intOf]; omega)
  · have hv' : (Pl.vars l != 0) = true := by simp [hv]
    have H0 := Lib.hid hv; clear hv
    go_enter Tryz.func64, Tryz.ntmps64
    go_wp2_with (go_at_call 71; refine (vars_b _ _ _ _ hl hm').mono ?_; rintro e w1 ⟨rfl, hx1⟩; have hb1 : Below w.heap.size w w1 := Below.trans (by go_grown) (hx1.mono (by go_size)); clear hx1; have hsz1 : w.heap.size ≤ w1.heap.size := hb1.size)
    go_ret2
    exact ⟨by unfold Pl.decl; rw [if_neg H0.out]; rfl, by go_grown⟩
end Go.Proofs.YthncpapejijloaaGreatDoor

namespace Go.Proofs.YthncpapejijloaaGreatDoor
open Go.RowKit

theorem lengths_a (x s l : Int) (w : World) (h0 : 1 ≤ l) (h1 : l ≤ 100000) (h2 : -500 ≤ x) (h3 : x ≤ 500) (h4 : 0 ≤ s) (h5 : s ≤ 200) :
    Calls Tryz.prog 101 #[.agg #[.int .i64 x, .int .i64 s], .int .i64 l] w fun e w' => e = .returned (.tuple #[.int .i64 (Pl.near l x s), .int .i64 (Pl.far l x s)]) ∧ Below w.heap.size w w' := by
  obtain ⟨⟨b0, b1⟩, b2, b3⟩ := Pl.len_bd h0 h1 h2 h3 h4 h5
  go_enter Tryz.func101, Tryz.ntmps101
  go_wp2
  all_goals (refine wp_region_quiet_lit (by kernel_rfl) (by kernel_rfl) ?_)
  repeat (any_goals (first | go_big_quiet_step (fail) | quiet_step (fail) | (refine wpQuiet_step (fun K hK => ?_); go_simp; split <;> (refine hK _ ?_; clear hK K))))
  all_goals (refine wpQuiet_nil ?_; intro wq hw'; obtain ⟨nq, hw''⟩ := hw'; have hbq : Below w.heap.size w wq := by rw [hw'']; exact below_drewN (by go_grown) nq)
  all_goals subst hw''
  go_wp2
  go_ret2
  exact ⟨rfl, by go_grown⟩
theorem decl_bd (l : List (Int × Int)) (y : Int) : -60 ≤ (Pl.decl l y).1 ∧ (Pl.decl l y).1 ≤ 60 := Pl.decl_bd l y
theorem sector_a (A : Option Addr) (c : Nat) (v : List (Int × Int)) (b n l y x s : Int) (w : World) (hl : Vars w w.heap.size A v) (hm : v.length ≤ maxLen) (hb0 : 0 ≤ b) (hb1 : b ≤ 359) (hn0 : 0 ≤ n) (hn1 : n ≤ 30) :
    Calls Tryz.prog 103 #[.slice A v.length c, .agg #[.int .i64 b, .int .i64 n, .int .i64 l, .int .i64 y, .int .i64 x, .int .i64 s]] w fun e w' => e = .returned (.tuple #[.int .i64 (Pl.mid b (Pl.decl v y).1 - n), .int .i64 (Pl.mid b (Pl.decl v y).1 + n)]) ∧ Below w.heap.size w w' := by
  obtain ⟨d0, d1⟩ := decl_bd v y
  have m0 : 0 ≤ (b + (Pl.decl v y).1 + 90) % 360 ∧ (b + (Pl.decl v y).1 + 90) % 360 < 360 := by omega
  obtain ⟨m1, m2⟩ := m0
  go_enter Tryz.func103, Tryz.ntmps103
  go_wp2_with (first | (go_at_call 21; refine (norm_a _ _).mono ?_; rintro e w' ⟨rfl, rfl⟩) | (go_at_call 63; refine (decl_a _ _ _ _ _ (hl.up (by go_grown)) hm).mono ?_; rintro e w7 ⟨rfl, hx7⟩; obtain ⟨hc7, hf7⟩ := bcell hx7; have hsz7 := hx7.size; (try simp at hsz7); (try (have hz7a : w.heap.size < w7.heap.size := (by omega))); (try (have hz7b : w.heap.size + 1 < w7.heap.size := (by omega))); (try (have hz7c : w.heap.size + 1 + 1 < w7.heap.size := (by omega))); (try (have hz7d : w.heap.size + 1 + 1 + 1 < w7.heap.size := (by omega))); (try (have hz7e : w.heap.size + 1 + 1 + 1 + 1 < w7.heap.size := (by omega))); have hb7 : Below w.heap.size w w7 := Below.trans (by go_grown) (hx7.mono (by go_size)); clear hx7))
  all_goals (refine wp_region_quiet_lit (by kernel_rfl) (by kernel_rfl) ?_)
  repeat (any_goals (first | go_big_quiet_step (fail) | quiet_step (fail) | (refine wpQuiet_step (fun K hK => ?_); go_simp; split <;> (refine hK _ ?_; clear hK K))))
  all_goals (refine wpQuiet_nil ?_; intro wq hw'; obtain ⟨nq, hw''⟩ := hw'; have hbq : Below w.heap.size w wq := by rw [hw'']; exact below_drewN (by go_grown) nq)
  all_goals subst hw''
  go_wp2
  go_ret2
  exact ⟨rfl, by go_grown⟩
theorem sector_b (b n l y x s east : Int) (w : World) (hb0 : 0 ≤ b) (hb1 : b ≤ 359) (hn0 : 0 ≤ n) (hn1 : n ≤ 30) (he0 : -60 ≤ east) (he1 : east ≤ 60) :
    Calls Tryz.prog 104 #[.agg #[.int .i64 b, .int .i64 n, .int .i64 l, .int .i64 y, .int .i64 x, .int .i64 s], .int .i64 east] w fun e w' => e = .returned (.tuple #[.int .i64 (Pl.mid b east - n), .int .i64 (Pl.mid b east + n)]) ∧ Below w.heap.size w w' := by
  have m0 : 0 ≤ (b + east) % 360 ∧ (b + east) % 360 < 360 := by omega
  obtain ⟨m1, m2⟩ := m0
  by_cases hm : 269 < (b + east) % 360
  all_goals
    have hH : Hid (Pl.mid b east = if 269 < (b + east) % 360 then (b + east) % 360 - 360 else (b + east) % 360) := by unfold Hid Pl.mid; split <;> omega
    go_enter Tryz.func104, Tryz.ntmps104
    go_wp2_with (first | (go_at_call 22; refine (norm_b _ _).mono ?_; rintro e w' ⟨rfl, rfl⟩))
    all_goals (refine wp_region_quiet_lit (by kernel_rfl) (by kernel_rfl) ?_)
    repeat (any_goals (first | go_big_quiet_step (fail) | quiet_step (fail) | (refine wpQuiet_step (fun K hK => ?_); go_simp; split <;> (refine hK _ ?_; clear hK K))))
    all_goals (refine wpQuiet_nil ?_; intro wq hw'; obtain ⟨nq, hw''⟩ := hw'; have hbq : Below w.heap.size w wq := by rw [hw'']; exact below_drewN (by go_grown) nq)
    all_goals subst hw''
    go_wp2
    go_ret2
    have hE := hH.out
    first
      | (rw [if_pos (by omega)] at hE; exact ⟨by rw [hE]; rfl, by go_grown⟩)
      | (rw [if_neg (by omega)] at hE; exact ⟨by rw [hE]; rfl, by go_grown⟩)
theorem step_a (dx dy : Int) (w : World) :
    Calls Tryz.prog 77 #[.int .i64 dx, .int .i64 dy] w fun e w' => e = .returned (.int .i64 (Pl.err (Pl.stepOk dx dy))) ∧ w = w' := by
  go_enter Tryz.func77, Tryz.ntmps77
  go_wp2_with (first | (go_at_call 87; refine (in_a _ _ _ _).mono ?_; rintro e w' ⟨rfl, rfl⟩) | (go_at_call 86; refine (right_a _ _).mono ?_; rintro e w' ⟨rfl, rfl⟩))
  all_goals go_ret
  all_goals exact ⟨ret_int (by grind [Pl.inB, Pl.err, Pl.stepOk]), rfl⟩
theorem back_a (b n l y x s : Int) (w : World) (h0 : -1000000 ≤ b) (h1 : b ≤ 1000000) :
    Calls Tryz.prog 85 #[.agg #[.int .i64 b, .int .i64 n, .int .i64 l, .int .i64 y, .int .i64 x, .int .i64 s]] w fun e w' => e = .returned (.agg #[.int .i64 ((b + 180) % 360), .int .i64 n, .int .i64 l, .int .i64 y, .int .i64 x, .int .i64 s]) ∧ Below w.heap.size w w' := by
  go_enter Tryz.func85, Tryz.ntmps85
  go_wp2_with (first | (go_at_call 21; refine (norm_a _ _).mono ?_; rintro e w' ⟨rfl, rfl⟩))
  go_returns
  exact ⟨rfl, by go_grown⟩
theorem turned_neg (b n l y x s dx dy : Int) (w : World) (h0 : -1000000 ≤ b) (h1 : b ≤ 1000000) (h2 : -100000 ≤ dx) (h3 : dx < 0) (h4 : -100000 ≤ dy) (h5 : dy ≤ 100000) :
    Calls Tryz.prog 78 #[.agg #[.int .i64 b, .int .i64 n, .int .i64 l, .int .i64 y, .int .i64 x, .int .i64 s], .int .i64 dx, .int .i64 dy] w fun e w' => e = .returned (.tuple #[.agg #[.int .i64 ((b + 180) % 360), .int .i64 n, .int .i64 l, .int .i64 y, .int .i64 x, .int .i64 s], .int .i64 (-dx), .int .i64 (-dy)]) ∧ Below w.heap.size w w' := by
  go_enter Tryz.func78, Tryz.ntmps78
  go_wp2_with (first | (go_at_call 85; refine (back_a _ _ _ _ _ _ _ h0 h1).mono ?_; rintro e w7 ⟨rfl, hx7⟩; obtain ⟨hc7, hf7⟩ := bcell hx7; have hsz7 := hx7.size; (try simp at hsz7); (try (have hz7a : w.heap.size < w7.heap.size := (by omega))); (try (have hz7b : w.heap.size + 1 < w7.heap.size := (by omega))); (try (have hz7c : w.heap.size + 1 + 1 < w7.heap.size := (by omega))); (try (have hz7d : w.heap.size + 1 + 1 + 1 < w7.heap.size := (by omega))); (try (have hz7e : w.heap.size + 1 + 1 + 1 + 1 < w7.heap.size := (by omega))); have hb7 : Below w.heap.size w w7 := Below.trans (by go_grown) (hx7.mono (by go_size)); clear hx7))
  refine bodyPost_ret (v := .tuple #[.agg #[.int .i64 ((b + 180) % 360), .int .i64 n, .int .i64 l, .int .i64 y, .int .i64 x, .int .i64 s], .int .i64 (-dx), .int .i64 (-dy)]) (by simp [results, Tryz.results78, go_sem, hc7]) rfl ⟨rfl, by go_grown⟩
theorem turned_pos (b n l y x s dx dy : Int) (w : World) (h3 : 0 ≤ dx) :
    Calls Tryz.prog 78 #[.agg #[.int .i64 b, .int .i64 n, .int .i64 l, .int .i64 y, .int .i64 x, .int .i64 s], .int .i64 dx, .int .i64 dy] w fun e w' => e = .returned (.tuple #[.agg #[.int .i64 b, .int .i64 n, .int .i64 l, .int .i64 y, .int .i64 x, .int .i64 s], .int .i64 dx, .int .i64 dy]) ∧ Below w.heap.size w w' := by
  go_enter Tryz.func78, Tryz.ntmps78
  go_wp2
  go_returns
  exact ⟨rfl, by go_grown⟩
end Go.Proofs.YthncpapejijloaaGreatDoor

namespace Go.Proofs.YthncpapejijloaaGreatDoor
open Go.RowKit

def encCrs (c : Pl.Crs) : List Value := [.int .i64 c.b, .int .i64 c.n, .int .i64 c.l, .int .i64 c.y, .int .i64 c.x, .int .i64 c.s]
abbrev Crss := @Seg Pl.Crs encCrs 6
theorem Crss.at6 {w : World} {B : Nat} {A : Option Addr} {l : List Pl.Crs} (h : Crss w B A l) {k : Nat} (hk : k < l.length) :
    ∃ b off, A = some ⟨b, off, none⟩ ∧ b < B ∧ w.cell? ⟨b, off + k * 6, none⟩ = some (.int .i64 l[k].b) ∧ w.cell? ⟨b, off + k * 6 + 1, none⟩ = some (.int .i64 l[k].n) ∧ w.cell? ⟨b, off + k * 6 + 2, none⟩ = some (.int .i64 l[k].l) ∧
      w.cell? ⟨b, off + k * 6 + 3, none⟩ = some (.int .i64 l[k].y) ∧ w.cell? ⟨b, off + k * 6 + 4, none⟩ = some (.int .i64 l[k].x) ∧ w.cell? ⟨b, off + k * 6 + 5, none⟩ = some (.int .i64 l[k].s) := by
  obtain ⟨b, off, hA, hb, hc⟩ := Seg.at_ h hk
  exact ⟨b, off, hA, hb, hc 0 _ rfl, hc 1 _ rfl, hc 2 _ rfl, hc 3 _ rfl, hc 4 _ rfl, hc 5 _ rfl⟩

theorem floor_a (a b : Int) (w : World) (h0 : -9223372036854775807 ≤ a) (h1 : a ≤ 9223372036854775807) (h2 : 1 ≤ b) :
    Calls Tryz.prog 125 #[.int .i64 a, .int .i64 b] w fun e w' => e = .returned (.int .i64 (a / b)) ∧ w = w' := by
  have k1 := (Pl.tdiv_bd (a := a) h2).1
  have k2 := (Pl.tdiv_bd (a := a) h2).2
  have H1 := Lib.hid k1; have H2 := Lib.hid k2; clear k1 k2
  go_enter Tryz.func125, Tryz.ntmps125
  go_wp2
  all_goals go_ret
  · exact ⟨ret_int (by rw [IntWalk.wrap64_in _ (by have := H1.out; have := H2.out; omega)]; exact Pl.floor_up h2 (by assumption)), rfl⟩
  · exact ⟨ret_int (Pl.floor_eq h2 (by omega)), rfl⟩
theorem ceil_a (a b : Int) (w : World) (h0 : -9223372036854775807 ≤ a) (h1 : a ≤ 9223372036854775807) (h2 : 1 ≤ b) :
    Calls Tryz.prog 126 #[.int .i64 a, .int .i64 b] w fun e w' => e = .returned (.int .i64 (-(-a / b))) ∧ w = w' := by
  have k1 := (Pl.ediv_bd (a := -a) h2).1
  have k2 := (Pl.ediv_bd (a := -a) h2).2
  have k3 : -9223372036854775807 ≤ -a / b ∧ -a / b ≤ 9223372036854775807 := by omega
  obtain ⟨k4, k5⟩ := k3
  clear k1 k2
  go_enter Tryz.func126, Tryz.ntmps126
  go_wp2_with (go_at_call 125; refine (floor_a _ _ _ (by omega) (by omega) h2).mono ?_; rintro e w' ⟨rfl, rfl⟩)
  go_ret
  exact ⟨rfl, rfl⟩
theorem floor_b (a b : Int) (w : World) (h0 : -9223372036854775807 ≤ a) (h1 : a ≤ 9223372036854775807) (h2 : 1 ≤ b) :
    Calls Tryz.prog 124 #[.int .i64 a, .int .i64 b] w fun e w' => e = .returned (.int .i64 (a / b)) ∧ w = w' := by
  have k1 := (Pl.tdiv_mul_bd (a := a) h2)
  have k3 : -9223372036854775807 ≤ a.tdiv b * b ∧ a.tdiv b * b ≤ 9223372036854775807 := by omega
  obtain ⟨k4, k5⟩ := k3
  have j1 := (Pl.tdiv_bd (a := a) h2)
  have j3 : -9223372036854775807 ≤ a.tdiv b ∧ a.tdiv b ≤ 9223372036854775807 := by omega
  obtain ⟨j4, j5⟩ := j3
  clear k1 j1
  by_cases hc : a < a.tdiv b * b
  · have hf := Pl.floor_mul_up h2 hc
    have H := Lib.hid hf; clear hf
    go_enter Tryz.func124, Tryz.ntmps124
    go_wp2
    all_goals go_ret
    all_goals exact ⟨ret_int (by rw [← H.out]; try (rw [IntWalk.wrap64_in _ (by omega)])), rfl⟩
  · have hf := Pl.floor_mul_eq h2 hc
    have H := Lib.hid hf; clear hf
    go_enter Tryz.func124, Tryz.ntmps124
    go_wp2
    all_goals go_ret
    all_goals exact ⟨ret_int (by rw [← H.out]), rfl⟩

set_option maxHeartbeats 800000 in
theorem common_a (A A' : Option Addr) (c c' : Nat) (v : List (Int × Int)) (cs : List Pl.Crs) (w : World) (hl : Vars w w.heap.size A v) (hm : v.length ≤ maxLen) (hcs : Crss w w.heap.size A' cs) (hm' : cs.length ≤ maxLen) :
    Calls Tryz.prog 76 #[.slice A v.length c, .slice A' cs.length c'] w fun e w' => e = .returned (.int .i64 (Pl.commonE v cs)) ∧ Below w.heap.size w w' := by
  unfold maxLen at hm'
  by_cases hv : Pl.vars v = 0
  · have hv' : (Pl.vars v != 0) = false := by simp [hv]
    have H0 := Lib.hid hv; clear hv
    go_enter Tryz.func76, Tryz.ntmps76
    go_wp2_with (go_at_call 70; refine (vars_a _ _ _ _ hl hm).mono ?_; rintro e w1 ⟨rfl, hx1⟩; have hb1 : Below w.heap.size w w1 := Below.trans (by go_grown) (hx1.mono (by go_size)); clear hx1; have hsz1 : w.heap.size ≤ w1.heap.size := hb1.size)
    go_loopw [20] (fun i wr => ∃ (k : Nat), k ≤ cs.length ∧ i = .int .i64 k ∧ Hid ((cs.take k).all Pl.Crs.ok = true) ∧ Below w.heap.size w wr) (fun i _ => cs.length - (intOf i).toNat)
    case atStart => exact ⟨0, by omega, rfl, rfl, by go_grown⟩
    case round =>
      obtain ⟨k, hk, rfl, hg, hb⟩ := hrel
      have hsz := hb.size
      by_cases hlt : k < cs.length
      · obtain ⟨b, off, rfl, hbB, q0, q1, q2, q3, q4, q5⟩ := Crss.at6 (hcs.below hb) hlt
        by_cases hok : cs[k].ok = true
        · have he : (Pl.err (Pl.courseOk cs[k].b cs[k].n cs[k].l cs[k].y cs[k].x cs[k].s) != 0) = false := by unfold Pl.Crs.ok at hok; rw [hok]; rfl
          have H1 := Lib.hid hok; clear hok
          go_wp2_with (go_at_call 43; refine (course_a _ _ _ _ _ _ _).mono ?_; rintro e w2 ⟨rfl, hx2⟩; have hb2 : Below w.heap.size w w2 := Below.trans (by go_grown) (hx2.mono (by go_size)); clear hx2; have hsz2 : w.heap.size ≤ w2.heap.size := hb2.size)
          go_roundw
          case rel => exact ⟨k + 1, by omega, by go_num, by unfold Hid; rw [Pl.all_take_succ _ _ _ hlt, hg.out, H1.out]; rfl, by go_grown⟩
          case measure => first | (simp [intOf]; done) | (simp [intOf]; omega)
        · have hok' : cs[k].ok = false := by simpa using hok
          have he : (Pl.err (Pl.courseOk cs[k].b cs[k].n cs[k].l cs[k].y cs[k].x cs[k].s) != 0) = true := by unfold Pl.Crs.ok at hok'; rw [hok']; rfl
          have he2 : Hid (Pl.err (Pl.courseOk cs[k].b cs[k].n cs[k].l cs[k].y cs[k].x cs[k].s) = 1) := by unfold Pl.Crs.ok at hok'; rw [hok']; rfl
          have H1 := Lib.hid hok'; clear hok hok'
          go_wp2_with (go_at_call 43; refine (course_a _ _ _ _ _ _ _).mono ?_; rintro e w2 ⟨rfl, hx2⟩; have hb2 : Below w.heap.size w w2 := Below.trans (by go_grown) (hx2.mono (by go_size)); clear hx2; have hsz2 : w.heap.size ≤ w2.heap.size := hb2.size)
          go_ret
          exact ⟨ret_int (by rw [he2.out]; unfold Pl.commonE; rw [if_neg (by simp [H0.out]), Pl.all_not hlt H1.out]; rfl), by go_grown⟩
      · obtain rfl : k = cs.length := by omega
        rw [List.take_length] at hg
        go_wp2
        go_loopw [32] (fun i wr => ∃ (k : Nat), k ≤ cs.length ∧ i = .int .i64 k ∧ Hid ((cs.take k).all (fun c => (Pl.decl v c.y).2) = true) ∧ Below w.heap.size w wr) (fun i _ => cs.length - (intOf i).toNat)
        case atStart => exact ⟨0, by omega, rfl, rfl, by go_grown⟩
        case round =>
          obtain ⟨k, hk, rfl, hg2, hb2⟩ := hrel
          have hsz2 := hb2.size
          by_cases hlt : k < cs.length
          · obtain ⟨b, off, rfl, hbB, q0, q1, q2, q3, q4, q5⟩ := Crss.at6 (hcs.below hb2) hlt
            by_cases hok : (Pl.decl v cs[k].y).2 = true
            · go_wp2_with (go_at_call 63; refine (decl_a _ _ _ _ _ (hl.up (by go_grown)) hm).mono ?_; rintro e w3 ⟨rfl, hx3⟩; have hb3 : Below w.heap.size w w3 := Below.trans (by go_grown) (hx3.mono (by go_size)); clear hx3; have hsz3 : w.heap.size ≤ w3.heap.size := hb3.size)
              go_roundw
              case rel => exact ⟨k + 1, by omega, by go_num, by unfold Hid; rw [Pl.all_take_succ _ _ _ hlt, hg2.out, hok]; rfl, by go_grown⟩
              case measure => first | (simp [intOf]; done) | (simp [intOf]; omega)
            · have hok' : (Pl.decl v cs[k].y).2 = false := by simpa using hok
              clear hok
              go_wp2_with (go_at_call 63; refine (decl_a _ _ _ _ _ (hl.up (by go_grown)) hm).mono ?_; rintro e w3 ⟨rfl, hx3⟩; have hb3 : Below w.heap.size w w3 := Below.trans (by go_grown) (hx3.mono (by go_size)); clear hx3; have hsz3 : w.heap.size ≤ w3.heap.size := hb3.size)
              go_ret
              exact ⟨ret_int (by unfold Pl.commonE; rw [if_neg (by simp [H0.out]), hg.out, Pl.all_not (p := fun c : Pl.Crs => (Pl.decl v c.y).2) hlt hok']; rfl), by go_grown⟩
          · obtain rfl : k = cs.length := by omega
            rw [List.take_length] at hg2
            go_wp2
            go_ret
            exact ⟨ret_int (by unfold Pl.commonE; rw [if_neg (by simp [H0.out]), hg.out, hg2.out]; rfl), by go_grown⟩
  · have hv' : (Pl.vars v != 0) = true := by simp [hv]
    have H0 := Lib.hid hv; clear hv
    go_enter Tryz.func76, Tryz.ntmps76
    go_wp2_with (go_at_call 70; refine (vars_a _ _ _ _ hl hm).mono ?_; rintro e w1 ⟨rfl, hx1⟩; have hb1 : Below w.heap.size w w1 := Below.trans (by go_grown) (hx1.mono (by go_size)); clear hx1; have hsz1 : w.heap.size ≤ w1.heap.size := hb1.size)
    go_ret
    exact ⟨ret_int (by unfold Pl.commonE; rw [if_pos H0.out]), by go_grown⟩
end Go.Proofs.YthncpapejijloaaGreatDoor
