/- FA, FB, FCa, FGa, GD, GE, GF, GG, GH, GJ, GI in one text. -/
import Derived.Test.YtgbpekeoegfjpaaGreatDoorProg
import Derived.WalkKit
import Derived.WalkLawsBesides
import Derived.WalkSpells
import Derived.Handy
import Derived.Lib.Hide
import Derived.Great.BuildSlice
import Derived.Deep.QuietTactic
import Derived.BigQuiet
import Derived.Deep.RegionHeld3
import Derived.Deep.DeepCutAuto
import Derived.Test.YtgbpekeoegfjpaaGreatDoorM24
import Derived.Test.YtgbpekeoegfjpaaGreatDoorM22
import Derived.Test.YtgbpekeoegfjpaaGreatDoorGDa
import Derived.Test.YtgbpekeoegfjpaaGreatDoorPlY
namespace Go.Proofs.YtgbpekeoegfjpaaGreatDoor
open Go.RowKit
def Pl.vast (f : Pl.Fld) : Bool := (decide (20 < f.st.length) || decide (20 < f.li.length) || decide (60 < f.pa.length) || decide (60 < f.va.length)) || (f.st.any (fun s => decide (100 < s.1.size)) || f.li.any (fun s => decide (100 < s.size)) || f.pa.any (fun p => decide (100 < p.name.size)))
set_option maxRecDepth 100000 in
set_option maxHeartbeats 2000000 in
theorem vast_many (A1 A2 A3 A4 : Option Addr) (c1 c2 c3 c4 : Nat) (f : Pl.Fld) (w : World) (h : 20 < f.st.length ∨ 20 < f.li.length ∨ 60 < f.pa.length ∨ 60 < f.va.length) :
  Calls Tryz.prog 23 #[.agg #[.slice A1 f.st.length c1, .slice A2 f.li.length c2, .slice A3 f.pa.length c3, .slice A4 f.va.length c4]] w fun e w' => e = .returned (.bool (Pl.vast f)) ∧ Below w.heap.size w w' := by
 have hv : Hid (Pl.vast f = true) := Lib.hid (by unfold Pl.vast; simp; omega)
 by_cases h1 : 20 < f.st.length
 ·have e1 : (20 : Int) < (f.st.length : Int) := by omega
  go_enter Tryz.func23, Tryz.ntmps23
  go_wp2
  go_ret
  exact ⟨ret_bool hv.out.symm, by go_grown⟩
 have n1 : ¬ (20 : Int) < (f.st.length : Int) := by omega
 by_cases h2 : 20 < f.li.length
 ·have e1 : (20 : Int) < (f.li.length : Int) := by omega
  go_enter Tryz.func23, Tryz.ntmps23
  go_wp2
  go_ret
  exact ⟨ret_bool hv.out.symm, by go_grown⟩
 have n2 : ¬ (20 : Int) < (f.li.length : Int) := by omega
 by_cases h3 : 60 < f.pa.length
 ·have e1 : (60 : Int) < (f.pa.length : Int) := by omega
  go_enter Tryz.func23, Tryz.ntmps23
  go_wp2
  go_ret
  exact ⟨ret_bool hv.out.symm, by go_grown⟩
 have n3 : ¬ (60 : Int) < (f.pa.length : Int) := by omega
 ·have e1 : (60 : Int) < (f.va.length : Int) := by omega
  go_enter Tryz.func23, Tryz.ntmps23
  go_wp2
  go_ret
  exact ⟨ret_bool hv.out.symm, by go_grown⟩
set_option maxRecDepth 100000 in
set_option maxHeartbeats 4000000 in
theorem vast_few (A1 A2 A3 A4 : Option Addr) (c1 c2 c3 c4 : Nat) (f : Pl.Fld) (w : World) (hf : FldS w w.heap.size A1 A2 A3 A4 f) (h1 : f.st.length ≤ 20) (h2 : f.li.length ≤ 20) (h3 : f.pa.length ≤ 60) (h4 : f.va.length ≤ 60) :
  Calls Tryz.prog 23 #[.agg #[.slice A1 f.st.length c1, .slice A2 f.li.length c2, .slice A3 f.pa.length c3, .slice A4 f.va.length c4]] w fun e w' => e = .returned (.bool (Pl.vast f)) ∧ Below w.heap.size w w' := by
 have n1 : ¬ (20 : Int) < (f.st.length : Int) := by omega
 have n2 : ¬ (20 : Int) < (f.li.length : Int) := by omega
 have n3 : ¬ (60 : Int) < (f.pa.length : Int) := by omega
 have n4 : ¬ (60 : Int) < (f.va.length : Int) := by omega
 have kb := heap_alloc_new w (.cells #[.slice A1 f.st.length c1, .slice A2 f.li.length c2, .slice A3 f.pa.length c3, .slice A4 f.va.length c4] 28)
 have hall : Below w.heap.size w (w.alloc (.cells #[.slice A1 f.st.length c1, .slice A2 f.li.length c2, .slice A3 f.pa.length c3, .slice A4 f.va.length c4] 28)) := by go_grown
 go_enter Tryz.func23, Tryz.ntmps23
 go_wp2
 go_loopw [3] (fun p wr => ∃ k : Nat, k ≤ f.st.length ∧ p = .int .i64 k ∧ (∀ s ∈ f.st.take k, s.1.size ≤ 100) ∧ wr.heap[w.heap.size]? = some (.cells #[.slice A1 f.st.length c1, .slice A2 f.li.length c2, .slice A3 f.pa.length c3, .slice A4 f.va.length c4] 28 (0, 0)) ∧ Below w.heap.size w wr) (fun p _ => f.st.length - (intOf p).toNat)
 case atStart => exact ⟨0, by omega, rfl, by simp, kb, hall⟩
 clear kb hall
 case round =>
  obtain ⟨k, hk, rfl, hs, kb, hb1⟩ := hrel
  obtain ⟨hckb, hfkb⟩ := blk_cells kb
  by_cases hlt : k < f.st.length
  ·obtain ⟨b, off, rfl, hbB, q0, q1⟩ := Stas.at2 (hf.st.below hb1) hlt
   by_cases hz : 100 < f.st[k].1.size
   ·have hv : Hid (Pl.vast f = true) := Lib.hid (by unfold Pl.vast; simp only [Bool.or_eq_true, List.any_eq_true, decide_eq_true_eq]; exact .inr (.inl (.inl ⟨_, List.getElem_mem hlt, hz⟩)))
    go_wp2
    go_ret
    exact ⟨ret_bool hv.out.symm, hb1⟩
   ·go_wp2
    go_roundw
    case rel => exact ⟨k + 1, by omega, by go_num, by intro s hs'; rw [List.take_succ_eq_append_getElem hlt, List.mem_append] at hs'; rcases hs' with h | h; exact hs _ h; simp at h; subst h; omega, kb, hb1⟩
    case measure => simp [intOf]; try omega
  ·obtain rfl : k = f.st.length := by omega
   go_wp2
   go_loopw [4] (fun p wr => ∃ k : Nat, k ≤ f.li.length ∧ p = .int .i64 k ∧ (∀ s ∈ f.li.take k, s.size ≤ 100) ∧ wr.heap[w.heap.size]? = some (.cells #[.slice A1 f.st.length c1, .slice A2 f.li.length c2, .slice A3 f.pa.length c3, .slice A4 f.va.length c4] 28 (0, 0)) ∧ Below w.heap.size w wr) (fun p _ => f.li.length - (intOf p).toNat)
   case atStart => exact ⟨0, by omega, rfl, by simp, kb, hb1⟩
   case round =>
    clear hckb hfkb kb hb1
    obtain ⟨k, hk, rfl, hs2, kb, hb1⟩ := hrel
    obtain ⟨hckb, hfkb⟩ := blk_cells kb
    by_cases hlt : k < f.li.length
    ·obtain ⟨b, off, rfl, hbB, q0⟩ := Nms.at1 (hf.li.below hb1) hlt
     by_cases hz : 100 < f.li[k].size
     ·have hv : Hid (Pl.vast f = true) := Lib.hid (by unfold Pl.vast; simp only [Bool.or_eq_true, List.any_eq_true, decide_eq_true_eq]; exact .inr (.inl (.inr ⟨_, List.getElem_mem hlt, hz⟩)))
      go_wp2
      go_ret
      exact ⟨ret_bool hv.out.symm, hb1⟩
     ·go_wp2
      go_roundw
      case rel => exact ⟨k + 1, by omega, by go_num, by intro s hs'; rw [List.take_succ_eq_append_getElem hlt, List.mem_append] at hs'; rcases hs' with h | h; exact hs2 _ h; simp at h; subst h; omega, kb, hb1⟩
      case measure => simp [intOf]; try omega
    ·obtain rfl : k = f.li.length := by omega
     go_wp2
     go_loopw [5] (fun p wr => ∃ k : Nat, k ≤ f.pa.length ∧ p = .int .i64 k ∧ (∀ s ∈ f.pa.take k, s.name.size ≤ 100) ∧ wr.heap[w.heap.size]? = some (.cells #[.slice A1 f.st.length c1, .slice A2 f.li.length c2, .slice A3 f.pa.length c3, .slice A4 f.va.length c4] 28 (0, 0)) ∧ Below w.heap.size w wr) (fun p _ => f.pa.length - (intOf p).toNat)
     case atStart => exact ⟨0, by omega, rfl, by simp, kb, hb1⟩
     case round =>
      clear hckb hfkb kb hb1
      obtain ⟨k, hk, rfl, hs3, kb, hb1⟩ := hrel
      obtain ⟨hckb, hfkb⟩ := blk_cells kb
      by_cases hlt : k < f.pa.length
      ·obtain ⟨b, off, rfl, hbB, q0, q1, q2, q3⟩ := Pars.at4 (hf.pa.below hb1) hlt
       by_cases hz : 100 < f.pa[k].name.size
       ·have hv : Hid (Pl.vast f = true) := Lib.hid (by unfold Pl.vast; simp only [Bool.or_eq_true, List.any_eq_true, decide_eq_true_eq]; exact .inr (.inr ⟨_, List.getElem_mem hlt, hz⟩))
        go_wp2
        go_ret
        exact ⟨ret_bool hv.out.symm, hb1⟩
       ·go_wp2
        go_roundw
        case rel => exact ⟨k + 1, by omega, by go_num, by intro s hs'; rw [List.take_succ_eq_append_getElem hlt, List.mem_append] at hs'; rcases hs' with h | h; exact hs3 _ h; simp at h; subst h; omega, kb, hb1⟩
        case measure => simp [intOf]; try omega
      ·obtain rfl : k = f.pa.length := by omega
       rw [List.take_length] at hs hs2 hs3
       have hv : Hid (Pl.vast f = false) := Lib.hid (by
        unfold Pl.vast
        simp only [Bool.or_eq_false_iff, List.any_eq_false, decide_eq_true_eq, decide_eq_false_iff_not]
        exact ⟨⟨⟨⟨by omega, by omega⟩, by omega⟩, by omega⟩, ⟨fun s hs' => by have := hs s hs'; omega, fun s hs' => by have := hs2 s hs'; omega⟩, fun s hs' => by have := hs3 s hs'; omega⟩)
       go_wp2
       go_ret
       exact ⟨ret_bool hv.out.symm, hb1⟩
end Go.Proofs.YtgbpekeoegfjpaaGreatDoor
namespace Go.Proofs.YtgbpekeoegfjpaaGreatDoor
open Go.RowKit
attribute [-go_sem] run_equalIn_agg storeVar loadVar
attribute [local go_sem] lv_int lv_bool lv_u8 lv_string lv_strings lv_stas lv_pars lv_vars
def Pl.pointE (f : Pl.Fld) (l s : Int) : Int × Int := if Pl.fieldE f ≠ 0 then (0, Pl.fieldE f) else if Pl.inB l 0 (f.li.length - 1) = false ∨ Pl.inB s 0 (f.st.length - 1) = false then (0, 1) else (1 + l * f.st.length + s, 0)
def Pl.cornerE (f : Pl.Fld) (p : Int) : Int × Int × Int := if Pl.fieldE f ≠ 0 then (0, 0, Pl.fieldE f) else if Pl.inB p 1 (f.li.length * f.st.length) = false then (0, 0, 1) else (((p - 1).toNat / f.st.length : Nat), ((p - 1).toNat % f.st.length : Nat), 0)
def EndP (r : Int × Int) (w : World) (e : Ending) (w' : World) : Prop := e = .returned (.tuple #[.int .i64 r.1, .int .i64 r.2]) ∧ Below w.heap.size w w'
set_option maxRecDepth 100000 in
set_option maxHeartbeats 2000000 in
theorem Point_a (A1 A2 A3 A4 : Option Addr) (c1 c2 c3 c4 : Nat) (f : Pl.Fld) (l s : Int) (w : World) (hf : FldS w w.heap.size A1 A2 A3 A4 f) (hm : Small f) (hc : Caps c1 c2 c3 c4 f) : Calls Tryz.prog 40 #[.agg #[.slice A1 f.st.length c1, .slice A2 f.li.length c2, .slice A3 f.pa.length c3, .slice A4 f.va.length c4], .int .i64 l, .int .i64 s] w (EndP (Pl.pointE f l s) w) := by
 have kf := (heap_alloc_new w (.cells #[.slice A1 f.st.length c1, .slice A2 f.li.length c2, .slice A3 f.pa.length c3, .slice A4 f.va.length c4] 28))
 have l0 := ld_row kf Tryz.underlying28 rfl info_fld
 have hall : Below w.heap.size w (w.alloc (.cells #[.slice A1 f.st.length c1, .slice A2 f.li.length c2, .slice A3 f.pa.length c3, .slice A4 f.va.length c4] 28)) := ((Below.refl _ w).alloc (Nat.le_refl _) _)
 obtain ⟨E, hE⟩ : ∃ E, Pl.fieldE f = E := ⟨_, rfl⟩
 have HE := Lib.hid hE
 by_cases h0 : E = 0
 ·subst h0
  have hok := Pl.fieldE_ok hE
  have g1 := hok.li1
  have g2 := hok.li10
  have g3 := hok.st2
  have g4 := hok.st12
  have e1 : IntKind.i64.wrap ((f.li.length : Int) - 1) = (f.li.length : Int) - 1 := IntWalk.i64_in _ (by omega)
  have e2 : IntKind.i64.wrap ((f.st.length : Int) - 1) = (f.st.length : Int) - 1 := IntWalk.i64_in _ (by omega)
  clear hok
  cases h1 : Pl.inB l 0 (f.li.length - 1) with
  | false =>
   have hr : Hid (Pl.pointE f l s = (0, 1)) := Lib.hid (by unfold Pl.pointE; rw [if_neg (fun h => h hE), if_pos (.inl h1)])
   have hi := fun W => inD_a l 0 ((f.li.length : Int) - 1) W
   rw [h1] at hi
   clear h1 hE
   go_enter Tryz.func40, Tryz.ntmps40
   go_wp2_with (first
    | (go_at_call 22; refine (checkField_h A1 A2 A3 A4 c1 c2 c3 c4 f 0 _ HE (hf.up hall) hm hc).mono ?_; rintro e w1 ⟨rfl, hx⟩; have kf := (hx.block _ (lO kf)).trans kf; have hall : Below w.heap.size w w1 := hall.trans (hx.mono hall.size); clear l0; have l1 := ld_row kf Tryz.underlying28 rfl info_fld; obtain ⟨hcf, hff⟩ := blk_cells kf; clear hx)
    | (go_at_call 84; refine (hi _).mono ?_; rintro e w2 ⟨rfl, rfl⟩))
   go_ret2
   unfold EndP
   rw [hr.out]
   exact ⟨rfl, hall⟩
  | true =>
   have hi := fun W => inD_a l 0 ((f.li.length : Int) - 1) W
   rw [h1] at hi
   cases h2 : Pl.inB s 0 (f.st.length - 1) with
   | false =>
    have hr : Hid (Pl.pointE f l s = (0, 1)) := Lib.hid (by unfold Pl.pointE; rw [if_neg (fun h => h hE), if_pos (.inr h2)])
    have hi2 := fun W => inD_a s 0 ((f.st.length : Int) - 1) W
    rw [h2] at hi2
    clear h1 h2 hE
    go_enter Tryz.func40, Tryz.ntmps40
    go_wp2_with (first
     | (go_at_call 22; refine (checkField_h A1 A2 A3 A4 c1 c2 c3 c4 f 0 _ HE (hf.up hall) hm hc).mono ?_; rintro e w1 ⟨rfl, hx⟩; have kf := (hx.block _ (lO kf)).trans kf; have hall : Below w.heap.size w w1 := hall.trans (hx.mono hall.size); clear l0; have l1 := ld_row kf Tryz.underlying28 rfl info_fld; obtain ⟨hcf, hff⟩ := blk_cells kf; clear hx)
     | (go_at_call 84; refine (hi _).mono ?_; rintro e w2 ⟨rfl, rfl⟩; clear hi)
     | (go_at_call 84; refine (hi2 _).mono ?_; rintro e w2 ⟨rfl, rfl⟩))
    go_ret2
    unfold EndP
    rw [hr.out]
    exact ⟨rfl, hall⟩
   | true =>
    have hr : Hid (Pl.pointE f l s = (1 + l * f.st.length + s, 0)) := Lib.hid (by unfold Pl.pointE; rw [if_neg (fun h => h hE), if_neg (by rw [h1, h2]; simp)])
    have hi2 := fun W => inD_a s 0 ((f.st.length : Int) - 1) W
    rw [h2] at hi2
    have hb1 : 0 ≤ l ∧ l ≤ 1000 := by simp [Pl.inB] at h1; omega
    have hb2 : 0 ≤ s ∧ s ≤ 100000 := by simp [Pl.inB] at h2; omega
    clear h1 h2 hE
    go_enter Tryz.func40, Tryz.ntmps40
    go_wp2_with (first
     | (go_at_call 22; refine (checkField_h A1 A2 A3 A4 c1 c2 c3 c4 f 0 _ HE (hf.up hall) hm hc).mono ?_; rintro e w1 ⟨rfl, hx⟩; have kf := (hx.block _ (lO kf)).trans kf; have hall : Below w.heap.size w w1 := hall.trans (hx.mono hall.size); clear l0; have l1 := ld_row kf Tryz.underlying28 rfl info_fld; obtain ⟨hcf, hff⟩ := blk_cells kf; clear hx)
     | (go_at_call 84; refine (hi _).mono ?_; rintro e w2 ⟨rfl, rfl⟩; clear hi)
     | (go_at_call 84; refine (hi2 _).mono ?_; rintro e w2 ⟨rfl, rfl⟩)
     | (go_at_call 110; refine (point_a A1 A2 A3 A4 c1 c2 c3 c4 f l s _ hb1.1 hb1.2 (by omega) hb2.1 hb2.2).mono ?_; rintro e w2 ⟨rfl, hx⟩; have hall : Below w.heap.size w w2 := hall.trans (hx.mono hall.size); clear hx))
    go_ret2
    unfold EndP
    rw [hr.out]
    exact ⟨rfl, hall⟩
 ·have hr : Hid (Pl.pointE f l s = (0, E)) := Lib.hid (by unfold Pl.pointE; rw [hE, if_pos h0])
  clear hE
  go_enter Tryz.func40, Tryz.ntmps40
  go_wp2_with (go_at_call 22; refine (checkField_h A1 A2 A3 A4 c1 c2 c3 c4 f E _ HE (hf.up hall) hm hc).mono ?_; rintro e w1 ⟨rfl, hx⟩; have hall : Below w.heap.size w w1 := hall.trans (hx.mono hall.size); clear l0 hx)
  go_ret2
  unfold EndP
  rw [hr.out]
  exact ⟨rfl, hall⟩
def EndK (r : Int × Int × Int) (w : World) (e : Ending) (w' : World) : Prop := e = .returned (.tuple #[.int .i64 r.1, .int .i64 r.2.1, .int .i64 r.2.2]) ∧ Below w.heap.size w w'
theorem corner_div {p : Int} {S : Nat} (h : 1 ≤ p) (hb : p ≤ 1000) : ∃ q r : Int, (p - 1).tdiv (S : Int) = q ∧ (p - 1).tmod (S : Int) = r ∧ IntKind.i64.wrap q = q ∧ (((p - 1).toNat / S : Nat) : Int) = q ∧ (((p - 1).toNat % S : Nat) : Int) = r := by
 obtain ⟨k, hk⟩ := Int.eq_ofNat_of_zero_le (show 0 ≤ p - 1 by omega)
 rw [hk]
 have a1 : k / S ≤ k := Nat.div_le_self _ _
 refine ⟨((k / S : Nat) : Int), ((k % S : Nat) : Int), rfl, rfl, ?_, rfl, rfl⟩
 generalize k / S = q at *
 exact IntWalk.i64_in _ (by omega)
set_option maxRecDepth 100000 in
set_option maxHeartbeats 2000000 in
theorem Corner_a (A1 A2 A3 A4 : Option Addr) (c1 c2 c3 c4 : Nat) (f : Pl.Fld) (p : Int) (w : World) (hf : FldS w w.heap.size A1 A2 A3 A4 f) (hm : Small f) (hc : Caps c1 c2 c3 c4 f) : Calls Tryz.prog 41 #[.agg #[.slice A1 f.st.length c1, .slice A2 f.li.length c2, .slice A3 f.pa.length c3, .slice A4 f.va.length c4], .int .i64 p] w (EndK (Pl.cornerE f p) w) := by
 have kf := (heap_alloc_new w (.cells #[.slice A1 f.st.length c1, .slice A2 f.li.length c2, .slice A3 f.pa.length c3, .slice A4 f.va.length c4] 28))
 have l0 := ld_row kf Tryz.underlying28 rfl info_fld
 have hall : Below w.heap.size w (w.alloc (.cells #[.slice A1 f.st.length c1, .slice A2 f.li.length c2, .slice A3 f.pa.length c3, .slice A4 f.va.length c4] 28)) := ((Below.refl _ w).alloc (Nat.le_refl _) _)
 obtain ⟨E, hE⟩ : ∃ E, Pl.fieldE f = E := ⟨_, rfl⟩
 have HE := Lib.hid hE
 by_cases h0 : E = 0
 ·subst h0
  have hok := Pl.fieldE_ok hE
  have g1 := hok.li1
  have g2 := hok.li10
  have g3 := hok.st2
  have g4 := hok.st12
  obtain ⟨N, hN⟩ : ∃ N, f.li.length * f.st.length = N := ⟨_, rfl⟩
  have hNb : N ≤ 120 := by rw [← hN]; have := Nat.mul_le_mul g2 g4; omega
  have HN : Hid (((f.li.length : Nat) : Int) * (f.st.length : Nat) = (N : Int)) := Lib.hid (by rw [← hN]; simp)
  have e1 : IntKind.i64.wrap (1 + (N : Int)) = 1 + (N : Int) := IntWalk.i64_in _ (by omega)
  have e2 : IntKind.i64.wrap (1 + (N : Int) - 1) = (N : Int) := by rw [IntWalk.i64_in _ (by omega)]; omega
  clear hok hN
  cases h1 : Pl.inB p 1 N with
  | false =>
   have hr : Hid (Pl.cornerE f p = (0, 0, 1)) := Lib.hid (by unfold Pl.cornerE; rw [if_neg (fun h => h hE), if_pos (by rw [HN.out]; exact h1)])
   have hi := fun W => inD_a p 1 (N : Int) W
   rw [h1] at hi
   clear h1 hE
   go_enter Tryz.func41, Tryz.ntmps41
   go_wp2_with (first
    | (go_at_call 22; refine (checkField_h A1 A2 A3 A4 c1 c2 c3 c4 f 0 _ HE (hf.up hall) hm hc).mono ?_; rintro e w1 ⟨rfl, hx⟩; have kf := (hx.block _ (lO kf)).trans kf; have hall : Below w.heap.size w w1 := hall.trans (hx.mono hall.size); clear l0; have l1 := ld_row kf Tryz.underlying28 rfl info_fld; obtain ⟨hcf, hff⟩ := blk_cells kf; clear hx)
    | (go_at_call 106; refine (points_n A1 A2 A3 A4 c1 c2 c3 c4 f N _ (by omega) (by omega) HN).mono ?_; rintro e w2 ⟨rfl, hx⟩; have kf := (hx.block _ (lO kf)).trans kf; have hall : Below w.heap.size w w2 := hall.trans (hx.mono hall.size); clear l1; have l2 := ld_row kf Tryz.underlying28 rfl info_fld; obtain ⟨hcf, hff⟩ := blk_cells kf; clear hx)
    | (go_at_call 84; refine (hi _).mono ?_; rintro e w3 ⟨rfl, rfl⟩))
   go_ret3
   unfold EndK
   rw [hr.out]
   exact ⟨rfl, hall⟩
  | true =>
   have hb1 : 1 ≤ p ∧ p ≤ 120 := by simp [Pl.inB] at h1; omega
   obtain ⟨q, r, d1, d2, d7, d8, d9⟩ := corner_div (S := f.st.length) hb1.1 (by omega)
   have hr : Hid (Pl.cornerE f p = (q, r, 0)) := Lib.hid (by unfold Pl.cornerE; rw [if_neg (fun h => h hE), if_neg (by rw [HN.out, h1]; decide), d8, d9])
   have d0 : IntKind.i64.wrap (p - 1) = p - 1 := IntWalk.i64_in _ (by omega)
   clear d8 d9
   have d3 : ¬ ((f.st.length : Int) = 0) := by omega
   have d4 : ¬ f.st.length = 0 := by omega
   have d5 : ((f.st.length : Int) == 0) = false := by rw [beq_eq_false_iff_ne]; omega
   have d6 : ¬ f.st = [] := by intro h; rw [h] at d4; exact d4 rfl
   have hi := fun W => inD_a p 1 (N : Int) W
   rw [h1] at hi
   clear h1 hE
   go_enter Tryz.func41, Tryz.ntmps41
   go_wp2_with (first
    | (go_at_call 22; refine (checkField_h A1 A2 A3 A4 c1 c2 c3 c4 f 0 _ HE (hf.up hall) hm hc).mono ?_; rintro e w1 ⟨rfl, hx⟩; have kf := (hx.block _ (lO kf)).trans kf; have hall : Below w.heap.size w w1 := hall.trans (hx.mono hall.size); clear l0; have l1 := ld_row kf Tryz.underlying28 rfl info_fld; obtain ⟨hcf, hff⟩ := blk_cells kf; clear hx)
    | (go_at_call 106; refine (points_n A1 A2 A3 A4 c1 c2 c3 c4 f N _ (by omega) (by omega) HN).mono ?_; rintro e w2 ⟨rfl, hx⟩; have kf := (hx.block _ (lO kf)).trans kf; have hall : Below w.heap.size w w2 := hall.trans (hx.mono hall.size); clear l1; have l2 := ld_row kf Tryz.underlying28 rfl info_fld; obtain ⟨hcf, hff⟩ := blk_cells kf; clear hx)
    | (go_at_call 84; refine (hi _).mono ?_; rintro e w3 ⟨rfl, rfl⟩))
   go_region_held3 (fun W => ∀ j, W.cell? ⟨w.heap.size, j, none⟩ = (#[.slice A1 f.st.length c1, .slice A2 f.li.length c2, .slice A3 f.pa.length c3, .slice A4 f.va.length c4] : Array Value)[j]?) (exact hcf) (fail)
   all_goals go_wp2
   all_goals go_ret3
   all_goals unfold EndK
   all_goals rw [hr.out]
   all_goals exact ⟨rfl, by first | exact hall | exact below_drewN hall _⟩
 ·have hr : Hid (Pl.cornerE f p = (0, 0, E)) := Lib.hid (by unfold Pl.cornerE; rw [hE, if_pos h0])
  clear hE
  go_enter Tryz.func41, Tryz.ntmps41
  go_wp2_with (go_at_call 22; refine (checkField_h A1 A2 A3 A4 c1 c2 c3 c4 f E _ HE (hf.up hall) hm hc).mono ?_; rintro e w1 ⟨rfl, hx⟩; have hall : Below w.heap.size w w1 := hall.trans (hx.mono hall.size); clear l0 hx)
  go_ret3
  unfold EndK
  rw [hr.out]
  exact ⟨rfl, hall⟩
end Go.Proofs.YtgbpekeoegfjpaaGreatDoor
namespace Go.Proofs.YtgbpekeoegfjpaaGreatDoor
open Go.RowKit
attribute [-go_sem] run_equalIn_agg storeVar loadVar
attribute [local go_sem] lv_int lv_bool lv_u8 lv_string lv_strings lv_stas lv_pars lv_vars
theorem Pl.vast_few {f : Pl.Fld} (h : Pl.vast f = false) : f.st.length ≤ 20 ∧ f.li.length ≤ 20 ∧ f.pa.length ≤ 60 ∧ f.va.length ≤ 60 ∧ (∀ s ∈ f.st, s.1.size ≤ 100) ∧ (∀ s ∈ f.li, s.size ≤ 100) ∧ ∀ p ∈ f.pa, p.name.size ≤ 100 := by
 unfold Pl.vast at h
 simp only [Bool.or_eq_false_iff, List.any_eq_false, decide_eq_true_eq, decide_eq_false_iff_not] at h
 obtain ⟨⟨⟨⟨a, b⟩, c⟩, d⟩, ⟨e, g⟩, k⟩ := h
 exact ⟨by omega, by omega, by omega, by omega, fun s hs => by have := e s hs; omega, fun s hs => by have := g s hs; omega, fun s hs => by have := k s hs; omega⟩
theorem Pl.vast_small {f : Pl.Fld} (h : Pl.vast f = false) : Small f := by
 obtain ⟨a, b, c, d, e, g, k⟩ := Pl.vast_few h
 exact ⟨by omega, by omega, by omega, by omega, fun s hs => by have := e s hs; omega, fun s hs => by have := g s hs; omega, fun s hs => by have := k s hs; omega⟩
theorem vast_a (A1 A2 A3 A4 : Option Addr) (c1 c2 c3 c4 : Nat) (f : Pl.Fld) (w : World) (hf : FldS w w.heap.size A1 A2 A3 A4 f) (b : Bool) (hb : Hid (Pl.vast f = b)) :
  Calls Tryz.prog 23 #[.agg #[.slice A1 f.st.length c1, .slice A2 f.li.length c2, .slice A3 f.pa.length c3, .slice A4 f.va.length c4]] w fun e w' => e = .returned (.bool b) ∧ Below w.heap.size w w' := by
 rw [← hb.out]
 by_cases h : f.st.length ≤ 20 ∧ f.li.length ≤ 20 ∧ f.pa.length ≤ 60 ∧ f.va.length ≤ 60
 ·exact vast_few A1 A2 A3 A4 c1 c2 c3 c4 f w hf h.1 h.2.1 h.2.2.1 h.2.2.2
 ·exact vast_many A1 A2 A3 A4 c1 c2 c3 c4 f w (by omega)
theorem Point_h (A1 A2 A3 A4 : Option Addr) (c1 c2 c3 c4 : Nat) (f : Pl.Fld) (l s P E : Int) (w : World) (h : Hid (Pl.pointE f l s = (P, E))) (hf : FldS w w.heap.size A1 A2 A3 A4 f) (hm : Small f) (hc : Caps c1 c2 c3 c4 f) : Calls Tryz.prog 40 #[.agg #[.slice A1 f.st.length c1, .slice A2 f.li.length c2, .slice A3 f.pa.length c3, .slice A4 f.va.length c4], .int .i64 l, .int .i64 s] w fun e w' => e = .returned (.tuple #[.int .i64 P, .int .i64 E]) ∧ Below w.heap.size w w' := by
 have := Point_a A1 A2 A3 A4 c1 c2 c3 c4 f l s w hf hm hc
 rw [h.out] at this
 exact this
theorem Corner_h (A1 A2 A3 A4 : Option Addr) (c1 c2 c3 c4 : Nat) (f : Pl.Fld) (p a b E : Int) (w : World) (h : Hid (Pl.cornerE f p = (a, b, E))) (hf : FldS w w.heap.size A1 A2 A3 A4 f) (hm : Small f) (hc : Caps c1 c2 c3 c4 f) : Calls Tryz.prog 41 #[.agg #[.slice A1 f.st.length c1, .slice A2 f.li.length c2, .slice A3 f.pa.length c3, .slice A4 f.va.length c4], .int .i64 p] w fun e w' => e = .returned (.tuple #[.int .i64 a, .int .i64 b, .int .i64 E]) ∧ Below w.heap.size w w' := by
 have := Corner_a A1 A2 A3 A4 c1 c2 c3 c4 f p w hf hm hc
 rw [h.out] at this
 exact this
theorem Pl.inB_yes {x a b : Int} : Pl.inB x a b = true ↔ a ≤ x ∧ x ≤ b := by unfold Pl.inB; simp
theorem Pl.inB_no {x a b : Int} : Pl.inB x a b = false ↔ ¬ (a ≤ x ∧ x ≤ b) := by rw [← Pl.inB_yes]; simp
theorem Pl.corner_of {f : Pl.Fld} {l s P : Int} (h : Pl.pointE f l s = (P, 0)) : Pl.cornerE f P = (l, s, 0) ∧ Pl.fieldE f = 0 ∧ 1 ≤ P ∧ P < 1 + (f.li.length : Int) * f.st.length := by
 unfold Pl.pointE at h
 split at h
 ·rename_i h0; exact absurd (congrArg Prod.snd h) h0
 ·rename_i h0
  have h0 : Pl.fieldE f = 0 := Classical.not_not.1 h0
  split at h
  ·exact absurd (congrArg Prod.snd h) (by simp)
  ·rename_i h1
   have hP : 1 + l * f.st.length + s = P := congrArg Prod.fst h
   rw [not_or] at h1
   simp [Pl.inB] at h1
   obtain ⟨⟨a0, a1⟩, b0, b1⟩ := h1
   obtain ⟨ln, rfl⟩ := Int.eq_ofNat_of_zero_le a0
   obtain ⟨sn, rfl⟩ := Int.eq_ofNat_of_zero_le b0
   have hl : ln < f.li.length := by omega
   have hs : sn < f.st.length := by omega
   have hpt := Pl.point_lt hl hs
   have hdiv := Pl.point_div (l := ln) hs
   have hPn : P = ((Pl.pointN f.st.length ln sn : Nat) : Int) := by rw [← hP]; unfold Pl.pointN; simp
   have hn1 : 1 ≤ Pl.pointN f.st.length ln sn := by unfold Pl.pointN; omega
   have hP1 : 1 ≤ P := by omega
   have hP2 : P < 1 + (f.li.length : Int) * f.st.length := by rw [hPn, ← Int.natCast_mul]; omega
   have hsub : (P - 1).toNat = Pl.pointN f.st.length ln sn - 1 := by omega
   refine ⟨?_, h0, hP1, hP2⟩
   unfold Pl.cornerE
   rw [if_neg (fun h => h h0), if_neg (by rw [Pl.inB_no]; omega), hsub, hdiv.1, hdiv.2]
end Go.Proofs.YtgbpekeoegfjpaaGreatDoor
namespace Go.Proofs.YtgbpekeoegfjpaaGreatDoor
open Go.RowKit
attribute [-go_sem] run_equalIn_agg storeVar loadVar
attribute [local go_sem] lv_int lv_bool lv_u8 lv_string lv_strings lv_stas lv_pars lv_vars
def Pl.drawnV (f : Pl.Fld) (y : List Int) : Bool := decide (Pl.fieldE f = 0) && Pl.drawnB f.st.length f.li.length y
set_option maxRecDepth 100000 in
set_option maxHeartbeats 2000000 in
theorem Drawn_a (A1 A2 A3 A4 : Option Addr) (c1 c2 c3 c4 : Nat) (f : Pl.Fld) (A : Option Addr) (cy : Nat) (y : List Int) (D : Bool) (E : Int) (w : World) (hD : Hid (Pl.drawnV f y = D)) (hE : Hid (Pl.fieldE f = E)) (hf : FldS w w.heap.size A1 A2 A3 A4 f) (hm : Small f) (hc : Caps c1 c2 c3 c4 f) (hy : Ints w w.heap.size A y) (hym : y.length ≤ 100000) :
  Calls Tryz.prog 34 #[.agg #[.slice A1 f.st.length c1, .slice A2 f.li.length c2, .slice A3 f.pa.length c3, .slice A4 f.va.length c4], .slice A y.length cy] w fun e w' => e = .returned (.tuple #[.bool D, .int .i64 E]) ∧ Below w.heap.size w w' := by
 have kf := (heap_alloc_new w (.cells #[.slice A1 f.st.length c1, .slice A2 f.li.length c2, .slice A3 f.pa.length c3, .slice A4 f.va.length c4] 28))
 have l0 := ld_row kf Tryz.underlying28 rfl info_fld
 have hall : Below w.heap.size w (w.alloc (.cells #[.slice A1 f.st.length c1, .slice A2 f.li.length c2, .slice A3 f.pa.length c3, .slice A4 f.va.length c4] 28)) := ((Below.refl _ w).alloc (Nat.le_refl _) _)
 by_cases h0 : E = 0
 ·subst h0
  have hok := Pl.fieldE_ok hE.out
  have b0 := hok.li1
  have b1 := hok.li10
  have b2 := hok.st12
  have hd : Pl.drawnB f.st.length f.li.length y = D := by have := hD.out; unfold Pl.drawnV at this; rw [hE.out] at this; simpa using this
  have hdr := fun W (hW : Below w.heap.size w W) => drawn_a A1 A2 A3 A4 c1 c2 c3 c4 f A cy y W b2 b0 b1 (hy.up hW) hym
  rw [hd] at hdr
  clear hok hd
  go_enter Tryz.func34, Tryz.ntmps34
  go_wp2_with fail
  refine (checkField_h A1 A2 A3 A4 c1 c2 c3 c4 f 0 _ hE (hf.up hall) hm hc).mono ?_
  rintro e w1 ⟨rfl, hx⟩
  replace kf := (hx.block _ (lO kf)).trans kf; replace hall : Below w.heap.size w _ := hall.trans (hx.mono hall.size); (try clear l0); have l0 := ld_row kf Tryz.underlying28 rfl info_fld; (try clear hcf hff); obtain ⟨hcf, hff⟩ := blk_cells kf; clear hx
  go_wp2_with fail
  refine (hdr _ hall).mono ?_
  rintro e w2 ⟨rfl, hx⟩
  replace kf := (hx.block _ (lO kf)).trans kf; replace hall : Below w.heap.size w _ := hall.trans (hx.mono hall.size); (try clear l0); have l0 := ld_row kf Tryz.underlying28 rfl info_fld; (try clear hcf hff); obtain ⟨hcf, hff⟩ := blk_cells kf; clear hx
  go_wp2_with fail
  go_ret2
  exact ⟨rfl, hall⟩
 ·have hd : D = false := by have := hD.out; unfold Pl.drawnV at this; rw [hE.out] at this; simp [h0] at this; exact this
  subst hd
  go_enter Tryz.func34, Tryz.ntmps34
  go_wp2_with fail
  refine (checkField_h A1 A2 A3 A4 c1 c2 c3 c4 f E _ hE (hf.up hall) hm hc).mono ?_
  rintro e w1 ⟨rfl, hx⟩
  replace kf := (hx.block _ (lO kf)).trans kf; replace hall : Below w.heap.size w _ := hall.trans (hx.mono hall.size); (try clear l0); have l0 := ld_row kf Tryz.underlying28 rfl info_fld; (try clear hcf hff); obtain ⟨hcf, hff⟩ := blk_cells kf; clear hx
  go_wp2_with fail
  go_ret2
  exact ⟨rfl, hall⟩
end Go.Proofs.YtgbpekeoegfjpaaGreatDoor
namespace Go.Proofs.YtgbpekeoegfjpaaGreatDoor
open Go.RowKit
set_option maxRecDepth 100000 in
set_option maxHeartbeats 2000000 in
theorem PointB_h (A1 A2 A3 A4 : Option Addr) (c1 c2 c3 c4 : Nat) (f : Pl.Fld) (l s P E : Int) (w : World) (h : Hid (Pl.pointE f l s = (P, E))) (hf : FldS w w.heap.size A1 A2 A3 A4 f) (hm : Small f) (hc : Caps c1 c2 c3 c4 f) : Calls Tryz.prog 49 #[.agg #[.slice A1 f.st.length c1, .slice A2 f.li.length c2, .slice A3 f.pa.length c3, .slice A4 f.va.length c4], .int .i64 l, .int .i64 s] w fun e w' => e = .returned (.tuple #[.int .i64 P, .int .i64 E]) ∧ Below w.heap.size w w' := by
 have kb := heap_alloc_new w (.cells #[.slice A1 f.st.length c1, .slice A2 f.li.length c2, .slice A3 f.pa.length c3, .slice A4 f.va.length c4] 28)
 obtain ⟨F, hF⟩ : ∃ E, Pl.fieldE f = E := ⟨_, rfl⟩
 have HF := Lib.hid hF
 by_cases h0 : F = 0
 ·subst h0
  have hok := Pl.fieldE_ok hF
  have b1 := hok.li10
  have b2 := hok.st12
  obtain ⟨I, hI⟩ : ∃ I, (Pl.inB l 0 ((f.li.length : Int) - 1) && Pl.inB s 0 ((f.st.length : Int) - 1)) = I := ⟨_, rfl⟩
  have ic := fun W => isCorner_b A1 A2 A3 A4 c1 c2 c3 c4 f l s W (by omega) (by omega)
  rw [hI] at ic
  cases I with
  | false =>
   have hR : Hid (P = 0 ∧ E = 1) := Lib.hid (by
    have := h.out
    unfold Pl.pointE at this
    rw [if_neg (fun h => h hF), if_pos (by rw [Bool.and_eq_false_iff] at hI; exact hI)] at this
    exact ⟨(congrArg Prod.fst this).symm, (congrArg Prod.snd this).symm⟩)
   clear hF hok h hI
   go_enter Tryz.func49, Tryz.ntmps49
   go_wp2_with (first
    | (go_at_call 43; refine (checkFieldB_h A1 A2 A3 A4 c1 c2 c3 c4 f 0 _ HF (hf.up (by go_grown)) hm hc).mono ?_; rintro e w1 ⟨rfl, hx⟩; have kb := (hx.block (w.heap.size) (by first | exact (lO kb) | omega | (simp; done) | (simp; omega))).trans (by first | exact kb | exact (Below.heap_alloc _ _ _ (lO kb)).trans kb); obtain ⟨hckb, hfkb⟩ := blk_cells kb; have hltkb := (lO kb); have hall : Below w.heap.size w w1 := Below.trans (by go_grown) (hx.mono (by go_size)); have hsz : w.heap.size ≤ w1.heap.size := hall.size; clear hx)
    | (go_at_call 126; refine (ic _).mono ?_; rintro e w2 ⟨rfl, hx⟩; have kb := (hx.block (w.heap.size) (by first | exact (lO kb) | omega | (simp; done) | (simp; omega))).trans (by first | exact kb | exact (Below.heap_alloc _ _ _ (lO kb)).trans kb); obtain ⟨hckb, hfkb⟩ := blk_cells kb; have hltkb := (lO kb); have hall : Below w.heap.size w w2 := Below.trans (by go_grown) (hx.mono (by go_size)); have hsz : w.heap.size ≤ w2.heap.size := hall.size; clear hx))
   go_ret2
   exact ⟨by rw [hR.out.1, hR.out.2]; try rfl, hall⟩
  | true =>
   rw [Bool.and_eq_true] at hI
   have hi1 := Pl.inB_yes.1 hI.1
   have hi2 := Pl.inB_yes.1 hI.2
   have hR : Hid (1 + l * f.st.length + s = P ∧ E = 0) := Lib.hid (by
    have := h.out
    unfold Pl.pointE at this
    rw [if_neg (fun h => h hF), if_neg (by rw [hI.1, hI.2]; simp)] at this
    exact ⟨congrArg Prod.fst this, (congrArg Prod.snd this).symm⟩)
   clear hF hok h hI
   go_enter Tryz.func49, Tryz.ntmps49
   go_wp2_with (first
    | (go_at_call 43; refine (checkFieldB_h A1 A2 A3 A4 c1 c2 c3 c4 f 0 _ HF (hf.up (by go_grown)) hm hc).mono ?_; rintro e w1 ⟨rfl, hx⟩; have kb := (hx.block (w.heap.size) (by first | exact (lO kb) | omega | (simp; done) | (simp; omega))).trans (by first | exact kb | exact (Below.heap_alloc _ _ _ (lO kb)).trans kb); obtain ⟨hckb, hfkb⟩ := blk_cells kb; have hltkb := (lO kb); have hall : Below w.heap.size w w1 := Below.trans (by go_grown) (hx.mono (by go_size)); have hsz : w.heap.size ≤ w1.heap.size := hall.size; clear hx)
    | (go_at_call 126; refine (ic _).mono ?_; rintro e w2 ⟨rfl, hx⟩; have kb := (hx.block (w.heap.size) (by first | exact (lO kb) | omega | (simp; done) | (simp; omega))).trans (by first | exact kb | exact (Below.heap_alloc _ _ _ (lO kb)).trans kb); obtain ⟨hckb, hfkb⟩ := blk_cells kb; have hltkb := (lO kb); have hall : Below w.heap.size w w2 := Below.trans (by go_grown) (hx.mono (by go_size)); have hsz : w.heap.size ≤ w2.heap.size := hall.size; clear hx)
    | (go_at_call 111; refine (point_b A1 A2 A3 A4 c1 c2 c3 c4 f l s _ (by omega) (by omega) (by omega) (by omega) (by omega)).mono ?_; rintro e w3 ⟨rfl, hx⟩; have kb := (hx.block (w.heap.size) (by first | exact (lO kb) | omega | (simp; done) | (simp; omega))).trans (by first | exact kb | exact (Below.heap_alloc _ _ _ (lO kb)).trans kb); obtain ⟨hckb, hfkb⟩ := blk_cells kb; have hltkb := (lO kb); have hall : Below w.heap.size w w3 := Below.trans (by go_grown) (hx.mono (by go_size)); have hsz : w.heap.size ≤ w3.heap.size := hall.size; clear hx))
   go_ret2
   exact ⟨by rw [hR.out.1, hR.out.2]; try rfl, hall⟩
 ·have q0 : (F != 0) = true := by simpa using h0
  have hR : Hid (P = 0 ∧ E = F) := Lib.hid (by
   have := h.out
   unfold Pl.pointE at this
   rw [hF, if_pos h0] at this
   exact ⟨(congrArg Prod.fst this).symm, (congrArg Prod.snd this).symm⟩)
  clear hF h
  go_enter Tryz.func49, Tryz.ntmps49
  go_wp2_with (go_at_call 43; refine (checkFieldB_h A1 A2 A3 A4 c1 c2 c3 c4 f F _ HF (hf.up (by go_grown)) hm hc).mono ?_; rintro e w1 ⟨rfl, hx⟩; have kb := (hx.block (w.heap.size) (by first | exact (lO kb) | omega | (simp; done) | (simp; omega))).trans (by first | exact kb | exact (Below.heap_alloc _ _ _ (lO kb)).trans kb); obtain ⟨hckb, hfkb⟩ := blk_cells kb; have hltkb := (lO kb); have hall : Below w.heap.size w w1 := Below.trans (by go_grown) (hx.mono (by go_size)); have hsz : w.heap.size ≤ w1.heap.size := hall.size; clear hx)
  go_ret2
  exact ⟨by rw [hR.out.1, hR.out.2]; try rfl, hall⟩
theorem corner_no {f : Pl.Fld} (h : Pl.fieldE f = 0) {p : Int} (hn : ∀ l s : Nat, l < f.li.length → s < f.st.length → ((Pl.pointN f.st.length l s : Nat) : Int) ≠ p) : Pl.cornerE f p = (0, 0, 1) := by
 unfold Pl.cornerE
 rw [if_neg (fun h' => h' h)]
 by_cases hb : Pl.inB p 1 (f.li.length * f.st.length) = false
 ·rw [if_pos hb]
 ·exfalso
  simp only [Bool.not_eq_false] at hb
  have hb := Pl.inB_yes.1 hb
  obtain ⟨k, rfl⟩ := Int.eq_ofNat_of_zero_le (show 0 ≤ p by omega)
  have h2 : k < 1 + f.li.length * f.st.length := by have := hb.2; rw [← Int.natCast_mul] at this; omega
  obtain ⟨q1, q2, q3⟩ := Pl.corner_point (show 1 ≤ k by omega) h2
  exact hn _ _ q1 q2 (by rw [q3])
theorem corner_yes {f : Pl.Fld} (h : Pl.fieldE f = 0) {p : Int} {l s : Nat} (hl : l < f.li.length) (hs : s < f.st.length) (he : ((Pl.pointN f.st.length l s : Nat) : Int) = p) : Pl.cornerE f p = ((l : Int), (s : Int), 0) := by
 have hp : Pl.pointE f l s = (p, 0) := by
  unfold Pl.pointE
  rw [if_neg (fun h' => h' h), if_neg (by rw [not_or, Pl.inB_no, Pl.inB_no]; omega), ← he]
  unfold Pl.pointN
  simp
 exact (Pl.corner_of hp).1
set_option maxRecDepth 100000 in
set_option maxHeartbeats 4000000 in
theorem CornerB_h (A1 A2 A3 A4 : Option Addr) (c1 c2 c3 c4 : Nat) (f : Pl.Fld) (p a b E : Int) (w : World) (h : Hid (Pl.cornerE f p = (a, b, E))) (hf : FldS w w.heap.size A1 A2 A3 A4 f) (hm : Small f) (hc : Caps c1 c2 c3 c4 f) : Calls Tryz.prog 50 #[.agg #[.slice A1 f.st.length c1, .slice A2 f.li.length c2, .slice A3 f.pa.length c3, .slice A4 f.va.length c4], .int .i64 p] w fun e w' => e = .returned (.tuple #[.int .i64 a, .int .i64 b, .int .i64 E]) ∧ Below w.heap.size w w' := by
 have kb := heap_alloc_new w (.cells #[.slice A1 f.st.length c1, .slice A2 f.li.length c2, .slice A3 f.pa.length c3, .slice A4 f.va.length c4] 28)
 obtain ⟨F, hF⟩ : ∃ E, Pl.fieldE f = E := ⟨_, rfl⟩
 have HF := Lib.hid hF
 by_cases h0 : F = 0
 ·subst h0
  have hok := Pl.fieldE_ok hF
  have b1 := hok.li10
  have b2 := hok.st12
  have HY : Hid (∀ l s : Nat, l < f.li.length → s < f.st.length → ((Pl.pointN f.st.length l s : Nat) : Int) = p → (a = l ∧ b = s ∧ E = 0)) := Lib.hid fun l s hl hs he => by
   have := h.out
   rw [corner_yes hF hl hs he] at this
   exact ⟨(congrArg Prod.fst this).symm, (congrArg (fun x => x.2.1) this).symm, (congrArg (fun x => x.2.2) this).symm⟩
  have HN : Hid ((∀ l s : Nat, l < f.li.length → s < f.st.length → ((Pl.pointN f.st.length l s : Nat) : Int) ≠ p) → (a = 0 ∧ b = 0 ∧ E = 1)) := Lib.hid fun hn => by
   have := h.out
   rw [corner_no hF hn] at this
   exact ⟨(congrArg Prod.fst this).symm, (congrArg (fun x => x.2.1) this).symm, (congrArg (fun x => x.2.2) this).symm⟩
  clear hF hok h
  go_enter Tryz.func50, Tryz.ntmps50
  go_wp2_with (go_at_call 43; refine (checkFieldB_h A1 A2 A3 A4 c1 c2 c3 c4 f 0 _ HF (hf.up (by go_grown)) hm hc).mono ?_; rintro e w1 ⟨rfl, hx⟩; have kb := (hx.block (w.heap.size) (by first | exact (lO kb) | omega | (simp; done) | (simp; omega))).trans (by first | exact kb | exact (Below.heap_alloc _ _ _ (lO kb)).trans kb); obtain ⟨hckb, hfkb⟩ := blk_cells kb; have hltkb := (lO kb); have hall : Below w.heap.size w w1 := Below.trans (by go_grown) (hx.mono (by go_size)); have hsz : w.heap.size ≤ w1.heap.size := hall.size; clear hx)
  go_loopw [8] (fun z wr => ∃ (l : Nat), l ≤ f.li.length ∧ z = .int .i64 l ∧ Hid (∀ i s : Nat, i < l → s < f.st.length → ((Pl.pointN f.st.length i s : Nat) : Int) ≠ p) ∧ wr.heap[w.heap.size]? = some (.cells #[.slice A1 f.st.length c1, .slice A2 f.li.length c2, .slice A3 f.pa.length c3, .slice A4 f.va.length c4] 28 (0, 0)) ∧ Below w.heap.size w wr) (fun z _ => f.li.length - (intOf z).toNat)
  case atStart => exact ⟨0, by omega, rfl, Lib.hid fun i s h => by omega, kb, hall⟩
  case round =>
   clear kb hckb hfkb hltkb hall hsz
   obtain ⟨l, hl, rfl, hg, kb, hall⟩ := hrel
   obtain ⟨hckb, hfkb⟩ := blk_cells kb
   have hltkb := (lO kb)
   have hsz := hall.size
   by_cases hlt : l < f.li.length
   ·have g1 : (l : Int) < (f.li.length : Int) := by omega
    go_wp2
    go_loopw [9] (fun z W => ∃ (s : Nat), s ≤ f.st.length ∧ z = .int .i64 s ∧ Hid (∀ j : Nat, j < s → ((Pl.pointN f.st.length l j : Nat) : Int) ≠ p) ∧ W.heap[w.heap.size]? = some (.cells #[.slice A1 f.st.length c1, .slice A2 f.li.length c2, .slice A3 f.pa.length c3, .slice A4 f.va.length c4] 28 (0, 0)) ∧ Below w.heap.size w W) (fun z _ => f.st.length - (intOf z).toNat)
    case atStart => exact ⟨0, by omega, rfl, Lib.hid fun j h => by omega, kb, hall⟩
    case round =>
     clear kb hckb hfkb hltkb hall hsz
     obtain ⟨s, hs, rfl, hq, kb, hall⟩ := hrel
     obtain ⟨hckb, hfkb⟩ := blk_cells kb
     have hltkb := (lO kb)
     have hsz := hall.size
     by_cases hlts : s < f.st.length
     ·have g2 : (s : Int) < (f.st.length : Int) := by omega
      have pb := fun W => point_b A1 A2 A3 A4 c1 c2 c3 c4 f l s W (by omega) (by omega) (by omega) (by omega) (by omega)
      obtain ⟨P, hP⟩ : ∃ P : Int, 1 + (l : Int) * f.st.length + s = P := ⟨_, rfl⟩
      rw [hP] at pb
      have hPn : ((Pl.pointN f.st.length l s : Nat) : Int) = P := by rw [← hP]; unfold Pl.pointN; simp
      clear hP
      by_cases he : P = p
      ·have hv := Lib.hid (HY.out l s hlt hlts (by rw [hPn, he]))
       subst he
       go_wp2_with (go_at_call 111; refine (pb _).mono ?_; rintro e w3 ⟨rfl, hx⟩; have kb := (hx.block (w.heap.size) (by first | exact (lO kb) | omega | (simp; done) | (simp; omega))).trans (by first | exact kb | exact (Below.heap_alloc _ _ _ (lO kb)).trans kb); obtain ⟨hckb, hfkb⟩ := blk_cells kb; have hltkb := (lO kb); have hall : Below w.heap.size w w3 := Below.trans (by go_grown) (hx.mono (by go_size)); have hsz : w.heap.size ≤ w3.heap.size := hall.size; clear hx)
       go_ret3
       exact ⟨by rw [hv.out.1, hv.out.2.1, hv.out.2.2]; try rfl, hall⟩
      ·have he2 : (P == p) = false := by rw [beq_eq_false_iff_ne]; exact he
       have hq2 : Hid (∀ j : Nat, j < s + 1 → ((Pl.pointN f.st.length l j : Nat) : Int) ≠ p) := Lib.hid fun j hj => by
        by_cases e : j = s
        ·subst e; rw [hPn]; exact he
        ·exact hq.out j (by omega)
       clear hPn
       go_wp2_with (go_at_call 111; refine (pb _).mono ?_; rintro e w3 ⟨rfl, hx⟩; have kb := (hx.block (w.heap.size) (by first | exact (lO kb) | omega | (simp; done) | (simp; omega))).trans (by first | exact kb | exact (Below.heap_alloc _ _ _ (lO kb)).trans kb); obtain ⟨hckb, hfkb⟩ := blk_cells kb; have hltkb := (lO kb); have hall : Below w.heap.size w w3 := Below.trans (by go_grown) (hx.mono (by go_size)); have hsz : w.heap.size ≤ w3.heap.size := hall.size; clear hx)
       go_roundw
       case rel => exact ⟨s + 1, by omega, by go_num, hq2, kb, hall⟩
       case measure => simp [intOf]; try omega
     ·have hg2 : Hid (∀ i s : Nat, i < l + 1 → s < f.st.length → ((Pl.pointN f.st.length i s : Nat) : Int) ≠ p) := Lib.hid fun i s' hi hs' => by
       by_cases e : i = l
       ·subst e; exact hq.out s' (by omega)
       ·exact hg.out i s' (by omega) hs'
      go_wp2
      exact ⟨⟨l + 1, by omega, by go_num, hg2, kb, hall⟩, by simp [intOf]; omega⟩
   ·have hv := Lib.hid (HN.out fun i s hi hs => hg.out i s (by omega) hs)
    go_wp2
    go_ret3
    exact ⟨by rw [hv.out.1, hv.out.2.1, hv.out.2.2]; try rfl, hall⟩
 ·have q0 : (F != 0) = true := by simpa using h0
  have hR : Hid (a = 0 ∧ b = 0 ∧ E = F) := Lib.hid (by
   have := h.out
   unfold Pl.cornerE at this
   rw [hF, if_pos h0] at this
   exact ⟨(congrArg Prod.fst this).symm, (congrArg (fun x => x.2.1) this).symm, (congrArg (fun x => x.2.2) this).symm⟩)
  clear hF h
  go_enter Tryz.func50, Tryz.ntmps50
  go_wp2_with (go_at_call 43; refine (checkFieldB_h A1 A2 A3 A4 c1 c2 c3 c4 f F _ HF (hf.up (by go_grown)) hm hc).mono ?_; rintro e w1 ⟨rfl, hx⟩; have kb := (hx.block (w.heap.size) (by first | exact (lO kb) | omega | (simp; done) | (simp; omega))).trans (by first | exact kb | exact (Below.heap_alloc _ _ _ (lO kb)).trans kb); obtain ⟨hckb, hfkb⟩ := blk_cells kb; have hltkb := (lO kb); have hall : Below w.heap.size w w1 := Below.trans (by go_grown) (hx.mono (by go_size)); have hsz : w.heap.size ≤ w1.heap.size := hall.size; clear hx)
  go_ret3
  exact ⟨by rw [hR.out.1, hR.out.2.1, hR.out.2.2]; try rfl, hall⟩
end Go.Proofs.YtgbpekeoegfjpaaGreatDoor
namespace Go.Proofs.YtgbpekeoegfjpaaGreatDoor
open Go.RowKit
def Pl.okAt (S : Nat) (y : List Int) (l s : Nat) : Bool := Pl.inB (Pl.at0 y (Pl.pointN S l s)) 0 100000 && (decide (l = 0) || decide (Pl.at0 y (Pl.pointN S (l - 1) s) ≤ Pl.at0 y (Pl.pointN S l s)))
theorem Pl.drawnB_ok {S L : Nat} {y : List Int} (h1 : y.length = 1 + L * S) (h2 : Pl.at0 y 0 = 0) (h : ∀ l s, l < L → s < S → Pl.okAt S y l s = true) : Pl.drawnB S L y = true := by
 rw [Pl.drawnB_iff]
 refine ⟨h1, h2, fun l s hl hs => ?_⟩
 have := h l s hl hs
 unfold Pl.okAt at this
 rw [Bool.and_eq_true, Pl.inB_yes, Bool.or_eq_true, decide_eq_true_eq, decide_eq_true_eq] at this
 refine ⟨this.1, fun h0 => ?_⟩
 rcases this.2 with h | h
 ·omega
 ·exact h
theorem Pl.drawnB_bad {S L : Nat} {y : List Int} {l s : Nat} (hl : l < L) (hs : s < S) (h : Pl.okAt S y l s = false) : Pl.drawnB S L y = false := by
 rw [← Bool.not_eq_true, Pl.drawnB_iff]
 intro hd
 obtain ⟨a, b⟩ := hd.2.2 l s hl hs
 rw [← Bool.not_eq_true] at h
 apply h
 unfold Pl.okAt
 rw [Bool.and_eq_true, Pl.inB_yes, Bool.or_eq_true, decide_eq_true_eq, decide_eq_true_eq]
 refine ⟨a, ?_⟩
 by_cases e : l = 0
 ·exact .inl e
 ·exact .inr (b (by omega))
theorem Pl.okAt_0 {S : Nat} {y : List Int} {s P : Nat} {v : Int} (hP : Pl.pointN S 0 s = P) (hv : Pl.at0 y P = v) : Pl.okAt S y 0 s = Pl.inB v 0 100000 := by
 unfold Pl.okAt; rw [hP, hv]; simp
theorem Pl.okAt_s {S : Nat} {y : List Int} {l s P Q : Nat} {v u : Int} (h0 : l ≠ 0) (hP : Pl.pointN S l s = P) (hv : Pl.at0 y P = v) (hQ : Pl.pointN S (l - 1) s = Q) (hu : Pl.at0 y Q = u) : Pl.okAt S y l s = (Pl.inB v 0 100000 && decide (u ≤ v)) := by
 unfold Pl.okAt; rw [hP, hv, hQ, hu]; simp [h0]
set_option maxRecDepth 100000 in
set_option maxHeartbeats 4000000 in
theorem drawn_b (A1 A2 A3 A4 : Option Addr) (c1 c2 c3 c4 : Nat) (f : Pl.Fld) (A : Option Addr) (c : Nat) (y : List Int) (D : Bool) (w : World) (hF : Hid (Pl.fieldE f = 0)) (hD : Hid (Pl.drawnB f.st.length f.li.length y = D)) (hf : FldS w w.heap.size A1 A2 A3 A4 f) (hm : Small f) (hc : Caps c1 c2 c3 c4 f) (hy : Ints w w.heap.size A y) (hym : y.length ≤ 100000) :
  Calls Tryz.prog 128 #[.agg #[.slice A1 f.st.length c1, .slice A2 f.li.length c2, .slice A3 f.pa.length c3, .slice A4 f.va.length c4], .slice A y.length c] w fun e w' => e = .returned (.bool D) ∧ Below w.heap.size w w' := by
 have hok := Pl.fieldE_ok hF.out
 have hS := hok.st12
 have hL := hok.li10
 clear hok
 obtain ⟨N, hN⟩ : ∃ N, f.li.length * f.st.length = N := ⟨_, rfl⟩
 have hNb : N ≤ 120 := by rw [← hN]; have := Nat.mul_le_mul hL hS; omega
 have HP : Hid ((if Pl.fieldE f = 0 then 1 + ((f.li.length : Nat) : Int) * (f.st.length : Nat) else 0) = 1 + (N : Int)) := Lib.hid (by rw [if_pos hF.out, ← hN]; simp)
 have HM := Lib.hid hN
 clear hN
 have kb := heap_alloc_new w (.cells #[.slice A1 f.st.length c1, .slice A2 f.li.length c2, .slice A3 f.pa.length c3, .slice A4 f.va.length c4] 28)
 by_cases hl : y.length = 1 + N
 ·have hl' : ((y.length : Int) != 1 + (N : Int)) = false := by simp; omega
  have h0 : 0 < y.length := by omega
  have HL := Lib.hid hl
  clear hl
  obtain ⟨g, off, hA, hg, q0⟩ := Ints.at1 hy h0
  have hyy : Ints w w.heap.size (some ⟨g, off, none⟩) y := hA ▸ hy
  subst hA
  simp only [Nat.add_zero] at q0
  have e0 : (0 : Int) < (y.length : Int) := by omega
  by_cases hz : y[0] = 0
  ·rw [hz] at q0
   have HZ : Hid (Pl.at0 y 0 = 0) := Lib.hid (by rw [Pl.at0_get h0, hz])
   clear hz
   go_enter Tryz.func128, Tryz.ntmps128
   go_wp2_with (go_at_call 46; refine (PointsB_h A1 A2 A3 A4 c1 c2 c3 c4 f (1 + (N : Int)) _ HP (hf.up (by go_grown)) hm hc).mono ?_; rintro e w1 ⟨rfl, hx⟩; have kb := kA hx (by first | exact kb | exact (Below.heap_alloc _ _ _ (lO kb)).trans kb); obtain ⟨hckb, hfkb⟩ := blk_cells kb; have hltkb := (lO kb); have hall : Below w.heap.size w w1 := Below.trans (by go_grown) (hx.mono (by go_size)); have hsz : w.heap.size ≤ w1.heap.size := hall.size; have q1 := (hall.cell (p := ⟨g, off, none⟩) hg).trans q0; clear hx)
   go_loopw [5] (fun z wr => ∃ (l : Nat), l ≤ f.li.length ∧ z = .int .i64 l ∧ Hid (∀ i s : Nat, i < l → s < f.st.length → Pl.okAt f.st.length y i s = true) ∧ wr.heap[w.heap.size]? = some (.cells #[.slice A1 f.st.length c1, .slice A2 f.li.length c2, .slice A3 f.pa.length c3, .slice A4 f.va.length c4] 28 (0, 0)) ∧ Below w.heap.size w wr) (fun z _ => f.li.length - (intOf z).toNat)
   case atStart => exact ⟨0, by omega, rfl, Lib.hid fun i s h => by omega, kb, hall⟩
   case round =>
    clear kb hckb hfkb hltkb hall hsz q1
    obtain ⟨l, hl, rfl, hq, kb, hall⟩ := hrel
    obtain ⟨hckb, hfkb⟩ := blk_cells kb
    have hltkb := (lO kb)
    have hsz := hall.size
    by_cases hlt : l < f.li.length
    ·have g1 : (l : Int) < (f.li.length : Int) := by omega
     go_wp2
     go_loopw [6] (fun z W => ∃ (s : Nat), s ≤ f.st.length ∧ z = .int .i64 s ∧ Hid (∀ j : Nat, j < s → Pl.okAt f.st.length y l j = true) ∧ W.heap[w.heap.size]? = some (.cells #[.slice A1 f.st.length c1, .slice A2 f.li.length c2, .slice A3 f.pa.length c3, .slice A4 f.va.length c4] 28 (0, 0)) ∧ Below w.heap.size w W) (fun z _ => f.st.length - (intOf z).toNat)
     case atStart => exact ⟨0, by omega, rfl, Lib.hid fun j h => by omega, kb, hall⟩
     case round =>
      clear kb hckb hfkb hltkb hall hsz
      obtain ⟨s, hs, rfl, hr, kb, hall⟩ := hrel
      obtain ⟨hckb, hfkb⟩ := blk_cells kb
      have hltkb := (lO kb)
      have hsz := hall.size
      by_cases hlts : s < f.st.length
      ·have g2 : (s : Int) < (f.st.length : Int) := by omega
       have hm0 := Pl.point_lt (l := l) (L := f.li.length) (S := f.st.length) hlt hlts
       have hbad := Lib.hid (fun h : Pl.okAt f.st.length y l s = false => hD.out.symm.trans (Pl.drawnB_bad hlt hlts h))
       have hnext : Hid (Pl.okAt f.st.length y l s = true → ∀ j : Nat, j < s + 1 → Pl.okAt f.st.length y l j = true) := Lib.hid fun h j hj => by
        by_cases e : j = s
        ·subst e; exact h
        ·exact hr.out j (by omega)
       rw [HM.out, ← HL.out] at hm0
       obtain ⟨P, hP⟩ : ∃ P, Pl.pointN f.st.length l s = P := ⟨_, rfl⟩
       have pb := fun W => point_b A1 A2 A3 A4 c1 c2 c3 c4 f l s W (by omega) (by omega) (by omega) (by omega) (by omega)
       have p0 : 1 + (l : Int) * f.st.length + s = (P : Int) := by rw [← hP]; unfold Pl.pointN; simp
       rw [p0] at pb
       rw [hP] at hm0
       obtain ⟨g', off', hA', hg', r0⟩ := Ints.at1 (hyy.below hall) hm0
       obtain ⟨rfl, rfl⟩ : g = g' ∧ off = off' := by simpa using hA'
       obtain ⟨v, hv⟩ : ∃ v, y[P] = v := ⟨_, rfl⟩
       rw [hv] at r0
       have hv0 : Pl.at0 y P = v := by rw [Pl.at0_get hm0, hv]
       have a1 : (0 : Int) ≤ (P : Int) := by omega
       have a2 : (P : Int) < (y.length : Int) := by omega
       have hgr : g < wr.heap.size := by omega
       clear hA' hv p0
       by_cases h0 : l = 0
       ·have n0 : ¬ (0 : Int) < (l : Int) := by omega
        have ho : Pl.okAt f.st.length y l s = Pl.inB v 0 100000 := by rw [h0]; exact Pl.okAt_0 (by rw [← h0]; exact hP) hv0
        rw [ho] at hbad hnext
        cases b1 : Pl.inB v 0 100000 with
        | false =>
         have HV := Lib.hid (hbad.out b1)
         clear hbad hnext ho hP hv0 h0
         go_wp2_with fail
         (go_at_call 111; refine (pb _).mono ?_; rintro e w3 ⟨rfl, hx⟩; have kb := kA hx (by first | exact kb | exact (Below.heap_alloc _ _ _ (lO kb)).trans kb); obtain ⟨hckb, hfkb⟩ := blk_cells kb; have hltkb := (lO kb); have hall : Below w.heap.size w w3 := Below.trans (by go_grown) (hx.mono (by go_size)); have hsz : w.heap.size ≤ w3.heap.size := hall.size; have r1 := (hx.cell (p := ⟨g, off + P, none⟩) (show g < _ by omega)).trans r0; clear hx)
         go_wp2_with (go_at_call 102; refine (within_b _ _ _ _).mono ?_; rintro e w' ⟨rfl, rfl⟩)
         go_ret
         exact ⟨by rw [HV.out]; try rfl, hall⟩
        | true =>
         have HN := Lib.hid (hnext.out b1)
         clear hbad hnext ho hP hv0 h0
         go_wp2_with fail
         (go_at_call 111; refine (pb _).mono ?_; rintro e w3 ⟨rfl, hx⟩; have kb := kA hx (by first | exact kb | exact (Below.heap_alloc _ _ _ (lO kb)).trans kb); obtain ⟨hckb, hfkb⟩ := blk_cells kb; have hltkb := (lO kb); have hall : Below w.heap.size w w3 := Below.trans (by go_grown) (hx.mono (by go_size)); have hsz : w.heap.size ≤ w3.heap.size := hall.size; have r1 := (hx.cell (p := ⟨g, off + P, none⟩) (show g < _ by omega)).trans r0; clear hx)
         go_wp2_with (go_at_call 102; refine (within_b _ _ _ _).mono ?_; rintro e w' ⟨rfl, rfl⟩)
         go_roundw
         case rel => exact ⟨s + 1, by omega, by go_num, HN, kb, hall⟩
         case measure => simp [intOf]; try omega
       ·have n0 : (0 : Int) < (l : Int) := by omega
        obtain ⟨Q, hQ⟩ : ∃ Q, Pl.pointN f.st.length (l - 1) s = Q := ⟨_, rfl⟩
        have hm1 := Pl.point_lt (l := l - 1) (L := f.li.length) (S := f.st.length) (by omega) hlts
        rw [HM.out, ← HL.out, hQ] at hm1
        have pc := fun W => point_b A1 A2 A3 A4 c1 c2 c3 c4 f ((l : Int) - 1) s W (by omega) (by omega) (by omega) (by omega) (by omega)
        have p1 : 1 + ((l : Int) - 1) * f.st.length + s = (Q : Int) := by rw [← hQ]; unfold Pl.pointN; obtain ⟨k, rfl⟩ : ∃ k, l = k + 1 := ⟨l - 1, by omega⟩; simp
        rw [p1] at pc
        obtain ⟨g', off', hA', _, t0⟩ := Ints.at1 (hyy.below hall) hm1
        obtain ⟨rfl, rfl⟩ : g = g' ∧ off = off' := by simpa using hA'
        obtain ⟨u, hu⟩ : ∃ u, y[Q] = u := ⟨_, rfl⟩
        rw [hu] at t0
        have hu0 : Pl.at0 y Q = u := by rw [Pl.at0_get hm1, hu]
        have a3 : (0 : Int) ≤ (Q : Int) := by omega
        have a4 : (Q : Int) < (y.length : Int) := by omega
        have ho := Pl.okAt_s h0 hP hv0 hQ hu0
        rw [ho] at hbad hnext
        have a5 : IntKind.i64.wrap ((l : Int) - 1) = (l : Int) - 1 := IntWalk.i64_in _ (by omega)
        cases b1 : Pl.inB v 0 100000 with
        | false =>
         have HV := Lib.hid (hbad.out (by rw [b1]; rfl))
         clear hbad hnext ho hP hv0 hQ hu0 hA' hu p1
         go_wp2_with fail
         (go_at_call 111; refine (pb _).mono ?_; rintro e w3 ⟨rfl, hx⟩; have kb := kA hx (by first | exact kb | exact (Below.heap_alloc _ _ _ (lO kb)).trans kb); obtain ⟨hckb, hfkb⟩ := blk_cells kb; have hltkb := (lO kb); have hall : Below w.heap.size w w3 := Below.trans (by go_grown) (hx.mono (by go_size)); have hsz : w.heap.size ≤ w3.heap.size := hall.size; have r1 := (hx.cell (p := ⟨g, off + P, none⟩) (show g < _ by omega)).trans r0; clear hx)
         go_wp2_with (go_at_call 102; refine (within_b _ _ _ _).mono ?_; rintro e w' ⟨rfl, rfl⟩)
         go_ret
         exact ⟨by rw [HV.out]; try rfl, hall⟩
        | true =>
         by_cases g5 : v < u
         ·have HV := Lib.hid (hbad.out (by rw [b1]; simp; omega))
          clear hbad hnext ho hP hv0 hQ hu0 hA' hu p1
          go_wp2_with fail
          (go_at_call 111; refine (pb _).mono ?_; rintro e w3 ⟨rfl, hx⟩; have kb := kA hx (by first | exact kb | exact (Below.heap_alloc _ _ _ (lO kb)).trans kb); obtain ⟨hckb, hfkb⟩ := blk_cells kb; have hltkb := (lO kb); have hall : Below w.heap.size w w3 := Below.trans (by go_grown) (hx.mono (by go_size)); have hsz : w.heap.size ≤ w3.heap.size := hall.size; have r1 := (hx.cell (p := ⟨g, off + P, none⟩) (show g < _ by omega)).trans r0; have t1 := (hx.cell (p := ⟨g, off + Q, none⟩) (show g < _ by omega)).trans t0; clear hx)
          go_wp2_with (go_at_call 102; refine (within_b _ _ _ _).mono ?_; rintro e w' ⟨rfl, rfl⟩)
          (go_at_call 111; refine (pc _).mono ?_; rintro e w4 ⟨rfl, hx⟩; have kb := kA hx (by first | exact kb | exact (Below.heap_alloc _ _ _ (lO kb)).trans kb); obtain ⟨hckb, hfkb⟩ := blk_cells kb; have hltkb := (lO kb); have hall : Below w.heap.size w w4 := Below.trans (by go_grown) (hx.mono (by go_size)); have hsz : w.heap.size ≤ w4.heap.size := hall.size; have t2 := (hx.cell (p := ⟨g, off + Q, none⟩) (show g < _ by omega)).trans t1; clear hx)
          go_wp2
          go_ret
          exact ⟨by rw [HV.out]; try rfl, hall⟩
         ·have HN := Lib.hid (hnext.out (by rw [b1]; simp; omega))
          clear hbad hnext ho hP hv0 hQ hu0 hA' hu p1
          go_wp2_with fail
          (go_at_call 111; refine (pb _).mono ?_; rintro e w3 ⟨rfl, hx⟩; have kb := kA hx (by first | exact kb | exact (Below.heap_alloc _ _ _ (lO kb)).trans kb); obtain ⟨hckb, hfkb⟩ := blk_cells kb; have hltkb := (lO kb); have hall : Below w.heap.size w w3 := Below.trans (by go_grown) (hx.mono (by go_size)); have hsz : w.heap.size ≤ w3.heap.size := hall.size; have r1 := (hx.cell (p := ⟨g, off + P, none⟩) (show g < _ by omega)).trans r0; have t1 := (hx.cell (p := ⟨g, off + Q, none⟩) (show g < _ by omega)).trans t0; clear hx)
          go_wp2_with (go_at_call 102; refine (within_b _ _ _ _).mono ?_; rintro e w' ⟨rfl, rfl⟩)
          (go_at_call 111; refine (pc _).mono ?_; rintro e w4 ⟨rfl, hx⟩; have kb := kA hx (by first | exact kb | exact (Below.heap_alloc _ _ _ (lO kb)).trans kb); obtain ⟨hckb, hfkb⟩ := blk_cells kb; have hltkb := (lO kb); have hall : Below w.heap.size w w4 := Below.trans (by go_grown) (hx.mono (by go_size)); have hsz : w.heap.size ≤ w4.heap.size := hall.size; have t2 := (hx.cell (p := ⟨g, off + Q, none⟩) (show g < _ by omega)).trans t1; clear hx)
          go_wp2
          go_roundw
          case rel => exact ⟨s + 1, by omega, by go_num, HN, kb, hall⟩
          case measure => simp [intOf]; try omega
      ·have hq2 : Hid (∀ i s : Nat, i < l + 1 → s < f.st.length → Pl.okAt f.st.length y i s = true) := Lib.hid fun i s' hi hs' => by
        by_cases e : i = l
        ·subst e; exact hr.out s' (by omega)
        ·exact hq.out i s' (by omega) hs'
       go_wp2
       exact ⟨⟨l + 1, by omega, by go_num, hq2, kb, hall⟩, by simp [intOf]; omega⟩
    ·have HV : Hid (D = true) := Lib.hid (hD.out.symm.trans (Pl.drawnB_ok (by rw [HM.out]; exact HL.out) HZ.out fun i s hi hs => hq.out i s (by omega) hs))
     go_wp2
     go_ret
     exact ⟨by rw [HV.out]; try rfl, hall⟩
  ·have HV : Hid (D = false) := Lib.hid (hD.out.symm.trans (by unfold Pl.drawnB; rw [Pl.at0_get h0]; simp [hz]))
   have hz' : (y[0] != 0) = true := by simpa using hz
   clear hz
   go_enter Tryz.func128, Tryz.ntmps128
   go_wp2_with (go_at_call 46; refine (PointsB_h A1 A2 A3 A4 c1 c2 c3 c4 f (1 + (N : Int)) _ HP (hf.up (by go_grown)) hm hc).mono ?_; rintro e w1 ⟨rfl, hx⟩; have kb := kA hx (by first | exact kb | exact (Below.heap_alloc _ _ _ (lO kb)).trans kb); obtain ⟨hckb, hfkb⟩ := blk_cells kb; have hltkb := (lO kb); have hall : Below w.heap.size w w1 := Below.trans (by go_grown) (hx.mono (by go_size)); have hsz : w.heap.size ≤ w1.heap.size := hall.size; have q1 := (hall.cell (p := ⟨g, off, none⟩) hg).trans q0; clear hx)
   go_ret
   exact ⟨by rw [HV.out]; try rfl, hall⟩
 ·have HV : Hid (D = false) := Lib.hid (hD.out.symm.trans (by unfold Pl.drawnB; rw [HM.out]; simp [hl]))
  have hl' : ((y.length : Int) != 1 + (N : Int)) = true := by simp; omega
  clear hl
  go_enter Tryz.func128, Tryz.ntmps128
  go_wp2_with (go_at_call 46; refine (PointsB_h A1 A2 A3 A4 c1 c2 c3 c4 f (1 + (N : Int)) _ HP (hf.up (by go_grown)) hm hc).mono ?_; rintro e w1 ⟨rfl, hx⟩; have kb := kA hx (by first | exact kb | exact (Below.heap_alloc _ _ _ (lO kb)).trans kb); obtain ⟨hckb, hfkb⟩ := blk_cells kb; have hltkb := (lO kb); have hall : Below w.heap.size w w1 := Below.trans (by go_grown) (hx.mono (by go_size)); have hsz : w.heap.size ≤ w1.heap.size := hall.size; clear hx)
  go_ret
  exact ⟨by rw [HV.out]; try rfl, hall⟩
set_option maxRecDepth 100000 in
set_option maxHeartbeats 2000000 in
theorem DrawnB_h (A1 A2 A3 A4 : Option Addr) (c1 c2 c3 c4 : Nat) (f : Pl.Fld) (A : Option Addr) (cy : Nat) (y : List Int) (D : Bool) (E : Int) (w : World) (hD : Hid (Pl.drawnV f y = D)) (hE : Hid (Pl.fieldE f = E)) (hf : FldS w w.heap.size A1 A2 A3 A4 f) (hm : Small f) (hc : Caps c1 c2 c3 c4 f) (hy : Ints w w.heap.size A y) (hym : y.length ≤ 100000) :
  Calls Tryz.prog 53 #[.agg #[.slice A1 f.st.length c1, .slice A2 f.li.length c2, .slice A3 f.pa.length c3, .slice A4 f.va.length c4], .slice A y.length cy] w fun e w' => e = .returned (.tuple #[.bool D, .int .i64 E]) ∧ Below w.heap.size w w' := by
 have kb := heap_alloc_new w (.cells #[.slice A1 f.st.length c1, .slice A2 f.li.length c2, .slice A3 f.pa.length c3, .slice A4 f.va.length c4] 28)
 by_cases h0 : E = 0
 ·subst h0
  have hd : Hid (Pl.drawnB f.st.length f.li.length y = D) := Lib.hid (by have := hD.out; unfold Pl.drawnV at this; rw [hE.out] at this; simpa using this)
  go_enter Tryz.func53, Tryz.ntmps53
  go_wp2_with (first
   | (go_at_call 43; refine (checkFieldB_h A1 A2 A3 A4 c1 c2 c3 c4 f 0 _ hE (hf.up (by go_grown)) hm hc).mono ?_; rintro e w1 ⟨rfl, hx⟩; have kb := kA hx (by first | exact kb | exact (Below.heap_alloc _ _ _ (lO kb)).trans kb); obtain ⟨hckb, hfkb⟩ := blk_cells kb; have hltkb := (lO kb); have hall : Below w.heap.size w w1 := Below.trans (by go_grown) (hx.mono (by go_size)); have hsz : w.heap.size ≤ w1.heap.size := hall.size; clear hx)
   | (go_at_call 128; refine (drawn_b A1 A2 A3 A4 c1 c2 c3 c4 f A cy y D _ hE hd (hf.up (by go_grown)) hm hc (hy.up (by go_grown)) hym).mono ?_; rintro e w2 ⟨rfl, hx⟩; have kb := kA hx (by first | exact kb | exact (Below.heap_alloc _ _ _ (lO kb)).trans kb); obtain ⟨hckb, hfkb⟩ := blk_cells kb; have hltkb := (lO kb); have hall : Below w.heap.size w w2 := Below.trans (by go_grown) (hx.mono (by go_size)); have hsz : w.heap.size ≤ w2.heap.size := hall.size; clear hx))
  go_ret2
  exact ⟨rfl, hall⟩
 ·have q0 : (E != 0) = true := by simpa using h0
  have hd : D = false := by have := hD.out; unfold Pl.drawnV at this; rw [hE.out] at this; simp [h0] at this; exact this
  subst hd
  go_enter Tryz.func53, Tryz.ntmps53
  go_wp2_with (go_at_call 43; refine (checkFieldB_h A1 A2 A3 A4 c1 c2 c3 c4 f E _ hE (hf.up (by go_grown)) hm hc).mono ?_; rintro e w1 ⟨rfl, hx⟩; have kb := kA hx (by first | exact kb | exact (Below.heap_alloc _ _ _ (lO kb)).trans kb); obtain ⟨hckb, hfkb⟩ := blk_cells kb; have hltkb := (lO kb); have hall : Below w.heap.size w w1 := Below.trans (by go_grown) (hx.mono (by go_size)); have hsz : w.heap.size ≤ w1.heap.size := hall.size; clear hx)
  go_ret2
  exact ⟨rfl, hall⟩
end Go.Proofs.YtgbpekeoegfjpaaGreatDoor
namespace Go.Proofs.YtgbpekeoegfjpaaGreatDoor
open Go.RowKit
set_option maxRecDepth 100000 in
set_option maxHeartbeats 2000000 in
theorem AtB_field (A1 A2 A3 A4 : Option Addr) (c1 c2 c3 c4 : Nat) (f : Pl.Fld) (s o : Int) (A : Option Addr) (c : Nat) (y : List Int) (w : World) (hf : FldS w w.heap.size A1 A2 A3 A4 f) (hm : Small f) (hc : Caps c1 c2 c3 c4 f) (hE : Pl.fieldE f ≠ 0) :
  Calls Tryz.prog 55 #[.agg #[.slice A1 f.st.length c1, .slice A2 f.li.length c2, .slice A3 f.pa.length c3, .slice A4 f.va.length c4], .int .i64 s, .int .i64 o, .slice A y.length c] w fun e w' => e = .returned (.tuple #[.int .i64 (Pl.atR f s o y).1, .int .i64 (Pl.atR f s o y).2]) ∧ Below w.heap.size w w' := by
 have hR : Pl.atR f s o y = (0, Pl.fieldE f) := by unfold Pl.atR; rw [if_pos hE]
 rw [hR]
 obtain ⟨E, he⟩ : ∃ E, Pl.fieldE f = E := ⟨_, rfl⟩
 rw [he] at hE ⊢
 have HE := Lib.hid he
 have hne : (E != 0) = true := by simpa using hE
 clear he hE hR
 have kb := heap_alloc_new w (.cells #[.slice A1 f.st.length c1, .slice A2 f.li.length c2, .slice A3 f.pa.length c3, .slice A4 f.va.length c4] 28)
 go_enter Tryz.func55, Tryz.ntmps55
 go_wp2_with (go_at_call 43; refine (checkFieldB_h A1 A2 A3 A4 c1 c2 c3 c4 f E _ HE (hf.up (by go_grown)) hm hc).mono ?_; rintro e w1 ⟨rfl, hx⟩; have kb := kA hx (by first | exact kb | exact (Below.heap_alloc _ _ _ (lO kb)).trans kb); obtain ⟨hckb, hfkb⟩ := blk_cells kb; have hltkb := (lO kb); have hall : Below w.heap.size w w1 := Below.trans (by go_grown) (hx.mono (by go_size)); have hsz : w.heap.size ≤ w1.heap.size := hall.size; clear hx)
 go_ret2
 exact ⟨rfl, by go_grown⟩
set_option maxRecDepth 100000 in
set_option maxHeartbeats 4000000 in
theorem AtB_ok (A1 A2 A3 A4 : Option Addr) (c1 c2 c3 c4 : Nat) (f : Pl.Fld) (s o : Int) (A : Option Addr) (c : Nat) (y : List Int) (w : World) (hf : FldS w w.heap.size A1 A2 A3 A4 f) (hm : Small f) (hc : Caps c1 c2 c3 c4 f) (hE : Pl.fieldE f = 0) (hy : Ints w w.heap.size A y) (hym : y.length ≤ 100000) :
  Calls Tryz.prog 55 #[.agg #[.slice A1 f.st.length c1, .slice A2 f.li.length c2, .slice A3 f.pa.length c3, .slice A4 f.va.length c4], .int .i64 s, .int .i64 o, .slice A y.length c] w fun e w' => e = .returned (.tuple #[.int .i64 (Pl.atR f s o y).1, .int .i64 (Pl.atR f s o y).2]) ∧ Below w.heap.size w w' := by
 have hok := Pl.fieldE_ok hE
 have hS := hok.st12
 have hL1 := hok.li1
 have hL := hok.li10
 have hpk := Lib.hid hok.par
 have HE := Lib.hid hE
 clear hE hok
 have kb := heap_alloc_new w (.cells #[.slice A1 f.st.length c1, .slice A2 f.li.length c2, .slice A3 f.pa.length c3, .slice A4 f.va.length c4] 28)
 cases b1 : Pl.inB s 0 ((f.st.length : Int) - 1) with
 | false =>
  have HQ : Hid (Pl.atR f s o y = (0, 1)) := Lib.hid (Pl.atR_bad HE.out (by rw [b1]; rfl))
  go_enter Tryz.func55, Tryz.ntmps55
  go_wp2_with (first
   | (go_at_call 43; refine (checkFieldB_h A1 A2 A3 A4 c1 c2 c3 c4 f 0 _ HE (hf.up (by go_grown)) hm hc).mono ?_; rintro e w1 ⟨rfl, hx⟩; have kb := kA hx (by first | exact kb | exact (Below.heap_alloc _ _ _ (lO kb)).trans kb); obtain ⟨hckb, hfkb⟩ := blk_cells kb; have hltkb := (lO kb); have hall : Below w.heap.size w w1 := Below.trans (by go_grown) (hx.mono (by go_size)); have hsz : w.heap.size ≤ w1.heap.size := hall.size; clear hx)
   | (go_at_call 102; refine (within_b _ _ _ _).mono ?_; rintro e w' ⟨rfl, rfl⟩))
  go_ret2
  exact ⟨by rw [HQ.out]; try rfl, by go_grown⟩
 | true =>
 cases b2 : Pl.inB o 0 100000 with
 | false =>
  have HQ : Hid (Pl.atR f s o y = (0, 1)) := Lib.hid (Pl.atR_bad HE.out (by rw [b1, b2]; rfl))
  go_enter Tryz.func55, Tryz.ntmps55
  go_wp2_with (first
   | (go_at_call 43; refine (checkFieldB_h A1 A2 A3 A4 c1 c2 c3 c4 f 0 _ HE (hf.up (by go_grown)) hm hc).mono ?_; rintro e w1 ⟨rfl, hx⟩; have kb := kA hx (by first | exact kb | exact (Below.heap_alloc _ _ _ (lO kb)).trans kb); obtain ⟨hckb, hfkb⟩ := blk_cells kb; have hltkb := (lO kb); have hall : Below w.heap.size w w1 := Below.trans (by go_grown) (hx.mono (by go_size)); have hsz : w.heap.size ≤ w1.heap.size := hall.size; clear hx)
   | (go_at_call 102; refine (within_b _ _ _ _).mono ?_; rintro e w' ⟨rfl, rfl⟩))
  go_ret2
  exact ⟨by rw [HQ.out]; try rfl, by go_grown⟩
 | true =>
 have hdr0 := fun (D : Bool) (hD : Hid (Pl.drawnB f.st.length f.li.length y = D)) W (hW : Below w.heap.size w W) => drawn_b A1 A2 A3 A4 c1 c2 c3 c4 f A c y D W HE hD (hf.up hW) hm hc (hy.up hW) hym
 cases b3 : Pl.drawnB f.st.length f.li.length y with
 | false =>
  have HQ : Hid (Pl.atR f s o y = (0, 1)) := Lib.hid (Pl.atR_bad HE.out (by rw [b1, b2, b3]; rfl))
  have hdr := hdr0 false (Lib.hid b3)
  clear hdr0
  go_enter Tryz.func55, Tryz.ntmps55
  go_wp2_with (first
   | (go_at_call 43; refine (checkFieldB_h A1 A2 A3 A4 c1 c2 c3 c4 f 0 _ HE (hf.up (by go_grown)) hm hc).mono ?_; rintro e w1 ⟨rfl, hx⟩; have kb := kA hx (by first | exact kb | exact (Below.heap_alloc _ _ _ (lO kb)).trans kb); obtain ⟨hckb, hfkb⟩ := blk_cells kb; have hltkb := (lO kb); have hall : Below w.heap.size w w1 := Below.trans (by go_grown) (hx.mono (by go_size)); have hsz : w.heap.size ≤ w1.heap.size := hall.size; clear hx)
   | (go_at_call 102; refine (within_b _ _ _ _).mono ?_; rintro e w' ⟨rfl, rfl⟩)
   | (go_at_call 128; refine (hdr _ (by go_grown)).mono ?_; rintro e w2 ⟨rfl, hx2⟩; have hb2 : Below w.heap.size w w2 := Below.trans (by go_grown) (hx2.mono (by go_size)); clear hx2; have hsz2 : w.heap.size ≤ w2.heap.size := hb2.size))
  go_ret2
  exact ⟨by rw [HQ.out]; try rfl, by go_grown⟩
 | true =>
 have hdr := hdr0 true (Lib.hid b3)
 clear hdr0
 have hlen := Lib.hid (Pl.drawnB_len b3)
 have HQ := Lib.hid (show (Pl.inB s 0 ((f.st.length : Int) - 1) && (Pl.inB o 0 100000 && Pl.drawnB f.st.length f.li.length y)) = true by rw [b1, b2, b3]; rfl)
 have hs : 0 ≤ s ∧ s ≤ (f.st.length : Int) - 1 := by simpa [Pl.inB] using b1
 obtain ⟨hs0, hs1⟩ := hs
 obtain ⟨s, rfl⟩ := Int.eq_ofNat_of_zero_le hs0
 clear b3
 go_enter Tryz.func55, Tryz.ntmps55
 go_wp2_with (first
  | (go_at_call 43; refine (checkFieldB_h A1 A2 A3 A4 c1 c2 c3 c4 f 0 _ HE (hf.up (by go_grown)) hm hc).mono ?_; rintro e w1 ⟨rfl, hx⟩; have kb := kA hx (by first | exact kb | exact (Below.heap_alloc _ _ _ (lO kb)).trans kb); obtain ⟨hckb, hfkb⟩ := blk_cells kb; have hltkb := (lO kb); have hall : Below w.heap.size w w1 := Below.trans (by go_grown) (hx.mono (by go_size)); have hsz : w.heap.size ≤ w1.heap.size := hall.size; clear hx)
  | (go_at_call 102; refine (within_b _ _ _ _).mono ?_; rintro e w' ⟨rfl, rfl⟩)
  | (go_at_call 128; refine (hdr _ (by go_grown)).mono ?_; rintro e w2 ⟨rfl, hx⟩; have kb := kA hx (by first | exact kb | exact (Below.heap_alloc _ _ _ (lO kb)).trans kb); obtain ⟨hckb, hfkb⟩ := blk_cells kb; have hltkb := (lO kb); have hall : Below w.heap.size w w2 := Below.trans (by go_grown) (hx.mono (by go_size)); have hsz : w.heap.size ≤ w2.heap.size := hall.size; clear hx))
 clear b1 b2 hdr
 go_loopw [11] (fun i wr => ∃ (k : Nat), k ≤ f.pa.length ∧ i = .int .i64 k ∧ Hid (∀ j (h : j < f.pa.length), j < k → Pl.hasB f.st.length y s o f.pa[j] = false) ∧ wr.heap[w.heap.size]? = some (.cells #[.slice A1 f.st.length c1, .slice A2 f.li.length c2, .slice A3 f.pa.length c3, .slice A4 f.va.length c4] 28 (0, 0)) ∧ Below w.heap.size w wr) (fun i _ => f.pa.length - (intOf i).toNat)
 case atStart => exact ⟨0, by omega, rfl, Lib.hid fun j _ h => by omega, kb, hall⟩
 case round =>
  obtain ⟨k, hk, rfl, hg, kb, hall⟩ := hrel
  obtain ⟨hckb, hfkb⟩ := blk_cells kb
  have hltkb := (lO kb)
  have hsz := hall.size
  by_cases hlt : k < f.pa.length
  ·have po := Pl.parIn_ok (hpk.out _ (List.getElem_mem hlt))
   obtain ⟨sn, hsn⟩ := Int.eq_ofNat_of_zero_le po.s0
   have po1 := po.s1
   have hpm := hm.pa
   rw [hsn] at po1
   have hsnL : sn + 1 < f.li.length := by omega
   have hsS : s < f.st.length := by omega
   have hm0 := Pl.point_lt (l := sn) (L := f.li.length) (S := f.st.length) (by omega) hsS
   have hm1 := Pl.point_lt (l := sn + 1) (L := f.li.length) (S := f.st.length) hsnL hsS
   rw [← hlen.out] at hm0 hm1
   obtain ⟨P0, hP0⟩ : ∃ P, Pl.pointN f.st.length sn s = P := ⟨_, rfl⟩
   obtain ⟨P1, hP1⟩ : ∃ P, Pl.pointN f.st.length (sn + 1) s = P := ⟨_, rfl⟩
   have e0 : 1 + (sn : Int) * (f.st.length : Int) + (s : Int) = (P0 : Int) := by rw [← hP0]; unfold Pl.pointN; simp
   have e1 : 1 + ((sn : Int) + 1) * (f.st.length : Int) + (s : Int) = (P1 : Int) := by rw [← hP1]; unfold Pl.pointN; simp
   rw [hP0] at hm0
   rw [hP1] at hm1
   have hv := Pl.hasB_nat (y := y) (o := o) hsn hP0 hP1 (Pl.at0_get hm0) (Pl.at0_get hm1)
   obtain ⟨b, off, hA, hbB, q0, q1, q2, q3⟩ := Pars.at4 (hf.pa.below hall) hlt
   obtain ⟨g, off2, hA2, hg2, r0⟩ := Ints.at1 (hy.below hall) hm0
   obtain ⟨g', off2', hA2', _, r1⟩ := Ints.at1 (hy.below hall) hm1
   rw [hA2] at hA2'
   obtain ⟨rfl, rfl⟩ : g = g' ∧ off2 = off2' := by simpa using hA2'
   clear hA2' hP0 hP1
   rw [hsn] at q1
   have HS := Lib.hid hsn
   clear hsn
   have HV := Lib.hid hv
   clear hv
   obtain ⟨x0, hx0⟩ : ∃ x, y[P0] = x := ⟨_, rfl⟩
   obtain ⟨x1, hx1⟩ : ∃ x, y[P1] = x := ⟨_, rfl⟩
   rw [hx0] at r0 HV
   rw [hx1] at r1 HV
   clear hx0 hx1
   subst hA hA2
   have hgr : g < wr.heap.size := by omega
   have u0 := r0
   have u1 := r1
   have kp := heap_alloc_new wr (.cells #[.string f.pa[k].name, .int .i64 (sn : Int), .int .i64 f.pa[k].fr, .int .i64 f.pa[k].till] 112)
   have e2 : IntKind.i64.wrap ((sn : Int) + 1) = (sn : Int) + 1 := IntWalk.i64_in _ (by omega)
   have e3 : (0 : Int) ≤ (P0 : Int) := by omega
   have e4 : (P0 : Int) < (y.length : Int) := by omega
   have e5 : (0 : Int) ≤ (P1 : Int) := by omega
   have e6 : (P1 : Int) < (y.length : Int) := by omega
   have hno : Hid (Pl.hasB f.st.length y s o f.pa[k] = false → ∀ j (h : j < f.pa.length), j < k + 1 → Pl.hasB f.st.length y s o f.pa[j] = false) := Lib.hid fun h0 j h hj => by
    by_cases e : j = k
    ·subst e; exact h0
    ·exact hg.out j h (by omega)
   by_cases g1 : f.pa[k].fr ≤ (s : Int)
   ·by_cases g2 : (s : Int) < f.pa[k].till
    ·by_cases g3 : x0 ≤ o
     ·by_cases g4 : o < x1
      ·have hidx := Lib.hid (Pl.idx_hit (p := Pl.hasB f.st.length y s o) hlt (fun j hj => hg.out j (by omega) hj) (by rw [HV.out]; simp [g1, g2, g3, g4]))
       go_wp2_with (go_at_call 111; refine (point_b A1 A2 (some ⟨b, off, none⟩) A4 c1 c2 c3 c4 f _ _ _ (by omega) (by omega) (by omega) (by omega) (by omega)).mono ?_; rintro e w3 ⟨rfl, hx⟩; have kb := kA hx (by first | exact kb | exact (Below.heap_alloc _ _ _ (lO kb)).trans kb); obtain ⟨hckb, hfkb⟩ := blk_cells kb; have hltkb := (lO kb); have kp := kA hx (by first | exact kp | exact (Below.heap_alloc _ _ _ (lO kp)).trans kp); obtain ⟨hckp, hfkp⟩ := blk_cells kp; have hltkp := (lO kp); have hall : Below w.heap.size w w3 := Below.trans (by go_grown) (hx.mono (by go_size)); have hsz : w.heap.size ≤ w3.heap.size := hall.size; have h03 : Below wr.heap.size wr w3 := Below.trans (by go_grown) (hx.mono (by go_size)); have hs03 := h03.size; have r0 := (h03.cell (p := ⟨g, off2 + P0, none⟩) hgr).trans u0; have r1 := (h03.cell (p := ⟨g, off2 + P1, none⟩) hgr).trans u1; clear hx)
       go_ret2
       exact ⟨by rw [Pl.atR_some HE.out HQ.out hidx.out]; try rfl, by go_grown⟩
      ·have hno := Lib.hid (hno.out (by rw [HV.out]; simp [g4]))
       go_wp2_with (go_at_call 111; refine (point_b A1 A2 (some ⟨b, off, none⟩) A4 c1 c2 c3 c4 f _ _ _ (by omega) (by omega) (by omega) (by omega) (by omega)).mono ?_; rintro e w3 ⟨rfl, hx⟩; have kb := kA hx (by first | exact kb | exact (Below.heap_alloc _ _ _ (lO kb)).trans kb); obtain ⟨hckb, hfkb⟩ := blk_cells kb; have hltkb := (lO kb); have kp := kA hx (by first | exact kp | exact (Below.heap_alloc _ _ _ (lO kp)).trans kp); obtain ⟨hckp, hfkp⟩ := blk_cells kp; have hltkp := (lO kp); have hall : Below w.heap.size w w3 := Below.trans (by go_grown) (hx.mono (by go_size)); have hsz : w.heap.size ≤ w3.heap.size := hall.size; have h03 : Below wr.heap.size wr w3 := Below.trans (by go_grown) (hx.mono (by go_size)); have hs03 := h03.size; have r0 := (h03.cell (p := ⟨g, off2 + P0, none⟩) hgr).trans u0; have r1 := (h03.cell (p := ⟨g, off2 + P1, none⟩) hgr).trans u1; clear hx)
       go_roundw
       case rel => exact ⟨k + 1, by omega, by go_num, hno, by first | exact kb | exact (Below.heap_alloc _ _ _ hltkb).trans kb, by go_grown⟩
       case measure => simp [intOf]; try omega
     ·have hno := Lib.hid (hno.out (by rw [HV.out]; simp [g3]))
      go_wp2_with (go_at_call 111; refine (point_b A1 A2 (some ⟨b, off, none⟩) A4 c1 c2 c3 c4 f _ _ _ (by omega) (by omega) (by omega) (by omega) (by omega)).mono ?_; rintro e w3 ⟨rfl, hx⟩; have kb := kA hx (by first | exact kb | exact (Below.heap_alloc _ _ _ (lO kb)).trans kb); obtain ⟨hckb, hfkb⟩ := blk_cells kb; have hltkb := (lO kb); have kp := kA hx (by first | exact kp | exact (Below.heap_alloc _ _ _ (lO kp)).trans kp); obtain ⟨hckp, hfkp⟩ := blk_cells kp; have hltkp := (lO kp); have hall : Below w.heap.size w w3 := Below.trans (by go_grown) (hx.mono (by go_size)); have hsz : w.heap.size ≤ w3.heap.size := hall.size; have h03 : Below wr.heap.size wr w3 := Below.trans (by go_grown) (hx.mono (by go_size)); have hs03 := h03.size; have r0 := (h03.cell (p := ⟨g, off2 + P0, none⟩) hgr).trans u0; have r1 := (h03.cell (p := ⟨g, off2 + P1, none⟩) hgr).trans u1; clear hx)
      go_roundw
      case rel => exact ⟨k + 1, by omega, by go_num, hno, by first | exact kb | exact (Below.heap_alloc _ _ _ hltkb).trans kb, by go_grown⟩
      case measure => simp [intOf]; try omega
    ·have hno := Lib.hid (hno.out (by rw [HV.out]; simp [g2]))
     go_wp2
     go_roundw
     case rel => exact ⟨k + 1, by omega, by go_num, hno, by first | exact kb | exact (Below.heap_alloc _ _ _ hltkb).trans kb, by go_grown⟩
     case measure => simp [intOf]; try omega
   ·have hno := Lib.hid (hno.out (by rw [HV.out]; simp [g1]))
    go_wp2
    go_roundw
    case rel => exact ⟨k + 1, by omega, by go_num, hno, by first | exact kb | exact (Below.heap_alloc _ _ _ hltkb).trans kb, by go_grown⟩
    case measure => simp [intOf]; try omega
  ·have hidx : Hid (Pl.idx (Pl.hasB f.st.length y s o) f.pa = none) := Lib.hid (Pl.idx_none fun j hj => hg.out j hj (by omega))
   go_wp2
   go_ret2
   exact ⟨by rw [Pl.atR_none HE.out HQ.out hidx.out]; try rfl, by go_grown⟩
end Go.Proofs.YtgbpekeoegfjpaaGreatDoor
namespace Go.Proofs.YtgbpekeoegfjpaaGreatDoor
open Go.RowKit
attribute [-go_sem] Builtin.append_
theorem At_h (A1 A2 A3 A4 : Option Addr) (c1 c2 c3 c4 : Nat) (f : Pl.Fld) (s o : Int) (A : Option Addr) (c : Nat) (y : List Int) (M J : Int) (w : World) (h : Hid (Pl.atR f s o y = (M, J))) (hf : FldS w w.heap.size A1 A2 A3 A4 f) (hm : Small f) (hc : Caps c1 c2 c3 c4 f) (hy : Ints w w.heap.size A y) (hym : y.length ≤ 100000) :
  Calls Tryz.prog 54 #[.agg #[.slice A1 f.st.length c1, .slice A2 f.li.length c2, .slice A3 f.pa.length c3, .slice A4 f.va.length c4], .int .i64 s, .int .i64 o, .slice A y.length c] w fun e w' => e = .returned (.tuple #[.int .i64 M, .int .i64 J]) ∧ Below w.heap.size w w' := by
 have := (show Calls Tryz.prog 54 #[.agg #[.slice A1 f.st.length c1, .slice A2 f.li.length c2, .slice A3 f.pa.length c3, .slice A4 f.va.length c4], .int .i64 s, .int .i64 o, .slice A y.length c] w fun e w' => e = .returned (.tuple #[.int .i64 (Pl.atR f s o y).1, .int .i64 (Pl.atR f s o y).2]) ∧ Below w.heap.size w w' by
  by_cases hE : Pl.fieldE f = 0
  ·exact At_ok A1 A2 A3 A4 c1 c2 c3 c4 f s o A c y w hf hm hc hE hy hym
  ·exact At_field A1 A2 A3 A4 c1 c2 c3 c4 f s o A c y w hf hm hc hE)
 rw [h.out] at this
 exact this
theorem AtB_h (A1 A2 A3 A4 : Option Addr) (c1 c2 c3 c4 : Nat) (f : Pl.Fld) (s o : Int) (A : Option Addr) (c : Nat) (y : List Int) (M J : Int) (w : World) (h : Hid (Pl.atR f s o y = (M, J))) (hf : FldS w w.heap.size A1 A2 A3 A4 f) (hm : Small f) (hc : Caps c1 c2 c3 c4 f) (hy : Ints w w.heap.size A y) (hym : y.length ≤ 100000) :
  Calls Tryz.prog 55 #[.agg #[.slice A1 f.st.length c1, .slice A2 f.li.length c2, .slice A3 f.pa.length c3, .slice A4 f.va.length c4], .int .i64 s, .int .i64 o, .slice A y.length c] w fun e w' => e = .returned (.tuple #[.int .i64 M, .int .i64 J]) ∧ Below w.heap.size w w' := by
 have := (show Calls Tryz.prog 55 #[.agg #[.slice A1 f.st.length c1, .slice A2 f.li.length c2, .slice A3 f.pa.length c3, .slice A4 f.va.length c4], .int .i64 s, .int .i64 o, .slice A y.length c] w fun e w' => e = .returned (.tuple #[.int .i64 (Pl.atR f s o y).1, .int .i64 (Pl.atR f s o y).2]) ∧ Below w.heap.size w w' by
  by_cases hE : Pl.fieldE f = 0
  ·exact AtB_ok A1 A2 A3 A4 c1 c2 c3 c4 f s o A c y w hf hm hc hE hy hym
  ·exact AtB_field A1 A2 A3 A4 c1 c2 c3 c4 f s o A c y w hf hm hc hE)
 rw [h.out] at this
 exact this
set_option maxRecDepth 100000 in
set_option maxHeartbeats 4000000 in
theorem sameInts_a (A A' : Option Addr) (c c' n : Nat) (l : List Int) (w : World) (hn : l.length = n) (hl : Ints w w.heap.size A l) (hm : l.length ≤ 100000) (hl' : Ints w w.heap.size A' l) :
  Calls Tryz.prog 56 #[.slice A n c, .slice A' n c'] w fun e w' => e = .returned (.bool true) ∧ Below w.heap.size w w' := by
 subst hn
 go_enter Tryz.func56, Tryz.ntmps56
 go_wp2
 go_loopw [5] (fun i wr => ∃ (k : Nat), k ≤ l.length ∧ i = .int .i64 k ∧ Below w.heap.size w wr) (fun i _ => l.length - (intOf i).toNat)
 case atStart => exact ⟨0, by omega, rfl, by go_grown⟩
 case round =>
  obtain ⟨k, hk, rfl, hall⟩ := hrel
  by_cases hlt : k < l.length
  ·obtain ⟨b, off, hA, hbB, q0⟩ := Ints.at1 (hl.below hall) hlt
   obtain ⟨b', off', hA', hbB', r0⟩ := Ints.at1 (hl'.below hall) hlt
   obtain ⟨f, hbd⟩ : ∃ x, l[k] = x := ⟨_, rfl⟩
   rw [hbd] at q0 r0
   clear hbd
   subst hA hA'
   have e1 : (0 : Int) ≤ (k : Int) := by omega
   have e2 : (k : Int) < (l.length : Int) := by omega
   go_wp2
   go_region_held3 (fun W => W.cell? ⟨b, off + k, none⟩ = some (.int .i64 f) ∧ W.cell? ⟨b', off' + k, none⟩ = some (.int .i64 f)) (exact ⟨q0, r0⟩) (fail)
   all_goals go_wp2
   all_goals (
    go_roundw
    case rel => exact ⟨k + 1, by omega, by go_num, by first | (go_grown; done) | exact below_drewN hall _⟩
    case measure => simp [intOf]; try omega)
  ·go_wp2
   go_ret
   exact ⟨rfl, hall⟩
def EndIs (l : List Int) (E : Int) (w : World) (e : Ending) (w' : World) : Prop := ∃ A c, e = .returned (.tuple #[.slice A l.length c, .int .i64 E]) ∧ Ints w' w'.heap.size A l ∧ l.length ≤ c ∧ Below w.heap.size w w'
end Go.Proofs.YtgbpekeoegfjpaaGreatDoor
namespace Go.Proofs.YtgbpekeoegfjpaaGreatDoor
open Go.RowKit
attribute [-go_sem] Builtin.append_
theorem app_int {n₀ k : Nat} {w1 : World} {v : Value} {l : List Int} (x : Int) (hr : w1.ownsRow n₀ 3 1 v k (l.flatMap encInt)) (hk : k ≤ 100000) (hn : n₀ ≤ w1.heap.size) :
  ∃ g' cap' w2, (Builtin.append_ #[62, 62] 62 #[v, .slice (some ⟨w1.heap.size, 0, none⟩) 1 1]).run Tryz.prog (w1.alloc (.cells #[.int .i64 x] 3)) = .ok (.slice (some ⟨g', 0, none⟩) (k + 1) cap') w2 ∧
   w2.ownsRow n₀ 3 1 (.slice (some ⟨g', 0, none⟩) (k + 1) cap') (k + 1) ((l ++ [x]).flatMap encInt) ∧ Below n₀ w1 w2 :=
 own_app lay_int hr [x] 0 rfl _ (by simp [encInt]) (by unfold maxLen; omega) (by omega) hn
set_option maxRecDepth 100000 in
set_option maxHeartbeats 8000000 in
theorem Adjoining_ok (A1 A2 A3 A4 : Option Addr) (c1 c2 c3 c4 : Nat) (f : Pl.Fld) (m : Nat) (w : World) (hf : FldS w w.heap.size A1 A2 A3 A4 f) (hm : Small f) (hc : Caps c1 c2 c3 c4 f) (hE : Pl.fieldE f = 0) (hk : m < f.pa.length) :
  Calls Tryz.prog 51 #[.agg #[.slice A1 f.st.length c1, .slice A2 f.li.length c2, .slice A3 f.pa.length c3, .slice A4 f.va.length c4], .int .i64 m] w (EndIs (Pl.adjN f f.pa[m] f.pa.length) 0 w) := by
 have hok := Pl.fieldE_ok hE
 have hS := hok.st12
 have hL := hok.li10
 have hp40 := hok.pa40
 have hpk := Lib.hid hok.par
 have HE := Lib.hid hE
 have pp := Pl.parIn_ok (hok.par _ (List.getElem_mem hk))
 have hin : Pl.inB (m : Int) 0 ((f.pa.length : Int) - 1) = true := Pl.inB_yes.2 (by omega)
 clear hE hok
 have kb := heap_alloc_new w (.cells #[.slice A1 f.st.length c1, .slice A2 f.li.length c2, .slice A3 f.pa.length c3, .slice A4 f.va.length c4] 28)
 obtain ⟨⟨pn, ps, pf, pt⟩, hp⟩ : ∃ p, f.pa[m] = p := ⟨_, rfl⟩
 obtain ⟨b, off, hA, hbB, q0, q1, q2, q3⟩ := Pars.at4 hf.pa hk
 rw [hp] at pp q0 q1 q2 q3 ⊢
 obtain ⟨p1, p2, p3, p4, p5, p6⟩ := pp
 simp only at p1 p2 p3 p4 p5 p6 q0 q1 q2 q3
 subst hA
 clear hp
 have m0 : (0 : Int) ≤ (m : Int) := by omega
 have m1 : (m : Int) < (f.pa.length : Int) := by omega
 go_enter Tryz.func51, Tryz.ntmps51
 go_wp2_with (first
  | (go_at_call 22; refine (checkField_h A1 A2 (some ⟨b, off, none⟩) A4 c1 c2 c3 c4 f 0 _ HE (hf.up (by go_grown)) hm hc).mono ?_; rintro e w1 ⟨rfl, hx⟩; have kb := kA hx (by first | exact kb | exact (Below.heap_alloc _ _ _ (lO kb)).trans kb); obtain ⟨hckb, hfkb⟩ := blk_cells kb; have hltkb := (lO kb); have hall : Below w.heap.size w w1 := Below.trans (by go_grown) (hx.mono (by go_size)); have hsz : w.heap.size ≤ w1.heap.size := hall.size; have q0 := (hall.cell (p := ⟨b, off + m * 4, none⟩) hbB).trans q0; have q1 := (hall.cell (p := ⟨b, off + m * 4 + 1, none⟩) hbB).trans q1; have q2 := (hall.cell (p := ⟨b, off + m * 4 + 2, none⟩) hbB).trans q2; have q3 := (hall.cell (p := ⟨b, off + m * 4 + 3, none⟩) hbB).trans q3; clear hx)
  | (go_at_call 84; refine (inD_a _ _ _ _).mono ?_; rintro e w' ⟨rfl, rfl⟩))
 have kp := heap_alloc_new w1 (.cells #[.string pn, .int .i64 ps, .int .i64 pf, .int .i64 pt] 112)
 have kb := (Below.heap_alloc _ (.cells #[.string pn, .int .i64 ps, .int .i64 pf, .int .i64 pt] 112) _ hltkb).trans kb
 have hn0 : w.heap.size < w1.heap.size := hltkb
 go_loopw [8, 32] (fun o i wr => ∃ (k n : Nat), k ≤ f.pa.length ∧ n ≤ k ∧ i = .int .i64 k ∧ wr.ownsRow (w1.heap.size + 1) 3 1 o n ((Pl.adjN f ⟨pn, ps, pf, pt⟩ k).flatMap encInt) ∧ wr.heap[w.heap.size]? = some (.cells #[.slice A1 f.st.length c1, .slice A2 f.li.length c2, .slice (some ⟨b, off, none⟩) f.pa.length c3, .slice A4 f.va.length c4] 28 (0, 0)) ∧ wr.heap[w1.heap.size]? = some (.cells #[.string pn, .int .i64 ps, .int .i64 pf, .int .i64 pt] 112 (0, 0)) ∧ Below w.heap.size w wr) (fun _ i _ => f.pa.length - (intOf i).toNat)
 case atStart => exact ⟨0, 0, by omega, by omega, rfl, by simpa [Pl.adjN] using World.ownsRow_nil _ _ _ _, kb, kp, by go_grown⟩
 case round =>
  clear kb hckb hfkb hltkb hall hsz kp q0 q1 q2 q3
  obtain ⟨k, n, hkl, hnk, rfl, hown, kb, kp, hall⟩ := hrel
  obtain ⟨hckb, hfkb⟩ := blk_cells kb
  obtain ⟨hckp, hfkp⟩ := blk_cells kp
  have hltkb := (lO kb)
  have hltkp := (lO kp)
  have hsz := hall.size
  by_cases hlt : k < f.pa.length
  ·have qq := Pl.parIn_ok (hpk.out _ (List.getElem_mem hlt))
   obtain ⟨b', off', hA', hbB', q0, q1, q2, q3⟩ := Pars.at4 (hf.pa.below hall) hlt
   obtain ⟨rfl, rfl⟩ : b = b' ∧ off = off' := by simpa using hA'
   have hyes := Lib.hid (fun h => Pl.adjN_yes (p := ⟨pn, ps, pf, pt⟩) hlt h)
   have hno := Lib.hid (fun h => Pl.adjN_no (p := ⟨pn, ps, pf, pt⟩) hlt h)
   obtain ⟨⟨qn, qs, qf, qt⟩, hq⟩ : ∃ p, f.pa[k] = p := ⟨_, rfl⟩
   rw [hq] at qq q0 q1 q2 q3 hyes hno
   obtain ⟨r1, r2, r3, r4, r5, r6⟩ := qq
   simp only at r1 r2 r3 r4 r5 r6 q0 q1 q2 q3
   clear hq hA'
   have k0 : (0 : Int) ≤ (k : Int) := by omega
   have k1 : (k : Int) < (f.pa.length : Int) := by omega
   have kq := heap_alloc_new wr (.cells #[.string qn, .int .i64 qs, .int .i64 qf, .int .i64 qt] 112)
   have hb1 : Below wr.heap.size wr (wr.alloc (.cells #[.string qn, .int .i64 qs, .int .i64 qf, .int .i64 qt] 112)) := (Below.refl _ wr).alloc (Nat.le_refl _) _
   have CM := fun W => comD_a ⟨pn, ps, pf, pt⟩ ⟨qn, qs, qf, qt⟩ W (by simp only; omega) (by simp only; omega) (by simp only; omega) (by simp only; omega) (by simp only; omega) (by simp only; omega) (by simp only; omega) (by simp only; omega)
   obtain ⟨M, hM⟩ : ∃ M, Pl.com2 ⟨pn, ps, pf, pt⟩ ⟨qn, qs, qf, qt⟩ = M := ⟨_, rfl⟩
   rw [hM] at CM
   obtain ⟨g', cap', w4, hrun, hown4, hb4⟩ := app_int (k : Int) (own_below hown hb1) (by omega) (by have := hb1.size; omega)
   rw [World.size_alloc] at hrun
   have h14 : Below w.heap.size w w4 := hall.trans ((hb1.mono (by omega)).trans (hb4.mono (by omega)))
   have kb4 := (hb4.block w.heap.size (by omega)).trans ((hb1.block _ hltkb).trans kb)
   have kp4 := (hb4.block w1.heap.size (by omega)).trans ((hb1.block _ hltkp).trans kp)
   by_cases e1 : ps = qs
   ·subst e1
    clear CM
    by_cases e2 : pf = qt
    ·subst e2
     have HN := Lib.hid (hyes.out (by simp [Pl.adjB]))
     clear hyes hno hM
     go_wp2
     go_roundw
     case rel => exact ⟨k + 1, n + 1, by omega, by omega, by go_num, by rw [HN.out]; exact hown4, kb4, kp4, h14⟩
     case measure => simp [intOf]; try omega
    ·have e2' : (pf == qt) = false := by simpa using e2
     by_cases e3 : pt = qf
     ·subst e3
      have HN := Lib.hid (hyes.out (by simp [Pl.adjB]))
      clear hyes hno hM
      go_wp2
      go_roundw
      case rel => exact ⟨k + 1, n + 1, by omega, by omega, by go_num, by rw [HN.out]; exact hown4, kb4, kp4, h14⟩
      case measure => simp [intOf]; try omega
     ·have e3' : (pt == qf) = false := by simpa using e3
      have HN := Lib.hid (hno.out (by simp [Pl.adjB, e2, e3]))
      clear hyes hno hM
      have i1 : Pl.inB (ps - ps) (-1) 1 = true := Pl.inB_yes.2 (by omega)
      have i2 : IntKind.i64.wrap (ps - ps) = ps - ps := IntWalk.i64_in _ (by omega)
      rw [Int.sub_self] at i1 i2
      go_wp2_with (go_at_call 84; refine (inD_a _ _ _ _).mono ?_; rintro e w' ⟨rfl, rfl⟩)
      go_roundw
      case rel => exact ⟨k + 1, n, by omega, by omega, by go_num, by rw [HN.out]; exact own_below hown hb1, (hb1.block _ hltkb).trans kb, (hb1.block _ hltkp).trans kp, hall.trans (hb1.mono (by omega))⟩
      case measure => simp [intOf]; try omega
   ·have e1' : (ps == qs) = false := by simpa using e1
    have e1'' : (ps != qs) = true := by simpa using e1
    have i2 : IntKind.i64.wrap (ps - qs) = ps - qs := IntWalk.i64_in _ (by omega)
    cases i1 : Pl.inB (ps - qs) (-1) 1 with
    | false =>
     have HN := Lib.hid (hno.out (by simp [Pl.adjB, e1, i1]))
     clear hyes hno hM CM
     go_wp2_with (go_at_call 84; refine (inD_a _ _ _ _).mono ?_; rintro e w' ⟨rfl, rfl⟩)
     go_roundw
     case rel => exact ⟨k + 1, n, by omega, by omega, by go_num, by rw [HN.out]; exact own_below hown hb1, (hb1.block _ hltkb).trans kb, (hb1.block _ hltkp).trans kp, hall.trans (hb1.mono (by omega))⟩
     case measure => simp [intOf]; try omega
    | true =>
     clear hrun hown4 hb4 h14 kb4 kp4
     by_cases e4 : 0 < M
     ·have HN := Lib.hid (hyes.out (by simp [Pl.adjB, e1, i1, hM, e4]))
      clear hyes hno hM
      go_wp2_with (first
       | (go_at_call 84; refine (inD_a _ _ _ _).mono ?_; rintro e w' ⟨rfl, rfl⟩)
       | (go_at_call 86; refine (CM _).mono ?_; rintro e w3 ⟨rfl, hx⟩; have kb := kA hx (by first | exact kb | exact (Below.heap_alloc _ _ _ (lO kb)).trans kb); obtain ⟨hckb, hfkb⟩ := blk_cells kb; have hltkb := (lO kb); have kp := kA hx (by first | exact kp | exact (Below.heap_alloc _ _ _ (lO kp)).trans kp); obtain ⟨hckp, hfkp⟩ := blk_cells kp; have hltkp := (lO kp); have kq := kA hx (by first | exact kq | exact (Below.heap_alloc _ _ _ (lO kq)).trans kq); obtain ⟨hckq, hfkq⟩ := blk_cells kq; have hltkq := (lO kq); have hall : Below w.heap.size w w3 := Below.trans (by go_grown) (hx.mono (by go_size)); have hsz : w.heap.size ≤ w3.heap.size := hall.size; have h03 : Below wr.heap.size wr w3 := Below.trans (by go_grown) (hx.mono (by go_size)); obtain ⟨g', cap', w4, hrun, hown4, hb4⟩ := app_int (k : Int) (own_below hown h03) (by omega) (by have := h03.size; omega); have hn3 := h03.size; clear hx))
      go_roundw
      case rel => exact ⟨k + 1, n + 1, by omega, by omega, by go_num, by rw [HN.out]; exact hown4, (hb4.block w.heap.size (by omega)).trans kb, (hb4.block w1.heap.size (by omega)).trans kp, hall.trans (hb4.mono (by omega))⟩
      case measure => simp [intOf]; try omega
     ·have HN := Lib.hid (hno.out (by simp [Pl.adjB, e1, i1, hM]; omega))
      clear hyes hno hM
      go_wp2_with (first
       | (go_at_call 84; refine (inD_a _ _ _ _).mono ?_; rintro e w' ⟨rfl, rfl⟩)
       | (go_at_call 86; refine (CM _).mono ?_; rintro e w3 ⟨rfl, hx⟩; have kb := kA hx (by first | exact kb | exact (Below.heap_alloc _ _ _ (lO kb)).trans kb); obtain ⟨hckb, hfkb⟩ := blk_cells kb; have hltkb := (lO kb); have kp := kA hx (by first | exact kp | exact (Below.heap_alloc _ _ _ (lO kp)).trans kp); obtain ⟨hckp, hfkp⟩ := blk_cells kp; have hltkp := (lO kp); have kq := kA hx (by first | exact kq | exact (Below.heap_alloc _ _ _ (lO kq)).trans kq); obtain ⟨hckq, hfkq⟩ := blk_cells kq; have hltkq := (lO kq); have hall : Below w.heap.size w w3 := Below.trans (by go_grown) (hx.mono (by go_size)); have hsz : w.heap.size ≤ w3.heap.size := hall.size; have h03 : Below wr.heap.size wr w3 := Below.trans (by go_grown) (hx.mono (by go_size)); have hown3 := own_below hown h03; clear hx))
      go_roundw
      case rel => exact ⟨k + 1, n, by omega, by omega, by go_num, by rw [HN.out]; exact hown3, kb, kp, hall⟩
      case measure => simp [intOf]; try omega
  ·obtain rfl : k = f.pa.length := by omega
   obtain rfl := own_count lay_int hown
   obtain ⟨A', c', hv, hN, hc', hF⟩ := own_seg lay_int hown
   subst hv
   go_wp2
   go_ret2
   exact ⟨A', c', rfl, hN, hc', hall⟩
set_option maxRecDepth 100000 in
set_option maxHeartbeats 2000000 in
theorem Adjoining_no (A1 A2 A3 A4 : Option Addr) (c1 c2 c3 c4 : Nat) (f : Pl.Fld) (k E : Int) (w : World) (hf : FldS w w.heap.size A1 A2 A3 A4 f) (hm : Small f) (hc : Caps c1 c2 c3 c4 f) (h : Hid (Pl.fieldE f = E)) (hk : E ≠ 0 ∨ Pl.inB k 0 ((f.pa.length : Int) - 1) = false) :
  Calls Tryz.prog 51 #[.agg #[.slice A1 f.st.length c1, .slice A2 f.li.length c2, .slice A3 f.pa.length c3, .slice A4 f.va.length c4], .int .i64 k] w (EndIs [] (if E = 0 then 1 else E) w) := by
 have kb := heap_alloc_new w (.cells #[.slice A1 f.st.length c1, .slice A2 f.li.length c2, .slice A3 f.pa.length c3, .slice A4 f.va.length c4] 28)
 have hpm := hm.pa
 by_cases h0 : E = 0
 ·subst h0
  have hin : Pl.inB k 0 ((f.pa.length : Int) - 1) = false := by rcases hk with hk | hk; exact absurd rfl hk; exact hk
  clear hk
  go_enter Tryz.func51, Tryz.ntmps51
  go_wp2_with (first
   | (go_at_call 22; refine (checkField_h A1 A2 A3 A4 c1 c2 c3 c4 f 0 _ h (hf.up (by go_grown)) hm hc).mono ?_; rintro e w1 ⟨rfl, hx⟩; have kb := kA hx (by first | exact kb | exact (Below.heap_alloc _ _ _ (lO kb)).trans kb); obtain ⟨hckb, hfkb⟩ := blk_cells kb; have hltkb := (lO kb); have hall : Below w.heap.size w w1 := Below.trans (by go_grown) (hx.mono (by go_size)); have hsz : w.heap.size ≤ w1.heap.size := hall.size; clear hx)
   | (go_at_call 84; refine (inD_a _ _ _ _).mono ?_; rintro e w' ⟨rfl, rfl⟩))
  go_ret2
  exact ⟨none, 0, rfl, .inl rfl, Nat.le_refl _, hall⟩
 ·have q0 : (E != 0) = true := by simpa using h0
  rw [if_neg h0]
  clear hk
  go_enter Tryz.func51, Tryz.ntmps51
  go_wp2_with (go_at_call 22; refine (checkField_h A1 A2 A3 A4 c1 c2 c3 c4 f E _ h (hf.up (by go_grown)) hm hc).mono ?_; rintro e w1 ⟨rfl, hx⟩; have kb := kA hx (by first | exact kb | exact (Below.heap_alloc _ _ _ (lO kb)).trans kb); obtain ⟨hckb, hfkb⟩ := blk_cells kb; have hltkb := (lO kb); have hall : Below w.heap.size w w1 := Below.trans (by go_grown) (hx.mono (by go_size)); have hsz : w.heap.size ≤ w1.heap.size := hall.size; clear hx)
  go_ret2
  exact ⟨none, 0, rfl, .inl rfl, Nat.le_refl _, hall⟩
theorem adjoin_cases (f : Pl.Fld) (k : Int) {P : List Int → Int → Prop} (h1 : Pl.fieldE f = 0 → ∀ m (h : m < f.pa.length), k = (m : Int) → P (Pl.adjN f f.pa[m] f.pa.length) 0)
  (h2 : (Pl.fieldE f ≠ 0 ∨ Pl.inB k 0 ((f.pa.length : Int) - 1) = false) → P [] (if Pl.fieldE f = 0 then 1 else Pl.fieldE f)) : P (Pl.adjoinV f k) (Pl.adjoinE f k) := by
 unfold Pl.adjoinV Pl.adjoinE
 by_cases h0 : Pl.fieldE f = 0
 ·rw [if_pos h0, if_pos h0]
  cases hb : Pl.inB k 0 ((f.pa.length : Int) - 1) with
  | true =>
   rw [if_pos rfl, if_pos rfl]
   have := Pl.inB_yes.1 hb
   obtain ⟨m, rfl⟩ := Int.eq_ofNat_of_zero_le this.1
   have hlt : m < f.pa.length := by omega
   rw [Int.toNat_natCast, List.getElem?_eq_getElem hlt]
   exact h1 h0 m hlt rfl
  | false =>
   rw [if_neg (by decide), if_neg (by decide)]
   have := h2 (.inr hb)
   rwa [if_pos h0] at this
 ·rw [if_neg h0, if_neg h0]
  have := h2 (.inl h0)
  rwa [if_neg h0] at this
theorem Adjoining_h (A1 A2 A3 A4 : Option Addr) (c1 c2 c3 c4 : Nat) (f : Pl.Fld) (k : Int) (X : List Int) (E : Int) (w : World) (hX : Hid (Pl.adjoinV f k = X)) (hE : Hid (Pl.adjoinE f k = E)) (hf : FldS w w.heap.size A1 A2 A3 A4 f) (hm : Small f) (hc : Caps c1 c2 c3 c4 f) :
  Calls Tryz.prog 51 #[.agg #[.slice A1 f.st.length c1, .slice A2 f.li.length c2, .slice A3 f.pa.length c3, .slice A4 f.va.length c4], .int .i64 k] w (EndIs X E w) := by
 rw [← hX.out, ← hE.out]
 refine adjoin_cases f k (P := fun X E => Calls Tryz.prog 51 #[.agg #[.slice A1 f.st.length c1, .slice A2 f.li.length c2, .slice A3 f.pa.length c3, .slice A4 f.va.length c4], .int .i64 k] w (EndIs X E w)) (fun h0 m h e => ?_) (fun h => ?_)
 ·subst e
  exact Adjoining_ok A1 A2 A3 A4 c1 c2 c3 c4 f m w hf hm hc h0 h
 ·exact Adjoining_no A1 A2 A3 A4 c1 c2 c3 c4 f k _ w hf hm hc (Lib.hid rfl) h
end Go.Proofs.YtgbpekeoegfjpaaGreatDoor
namespace Go.Proofs.YtgbpekeoegfjpaaGreatDoor
open Go.RowKit
attribute [-go_sem] Builtin.append_
set_option maxRecDepth 100000 in
set_option maxHeartbeats 8000000 in
theorem AdjoiningB_ok (A1 A2 A3 A4 : Option Addr) (c1 c2 c3 c4 : Nat) (f : Pl.Fld) (m : Nat) (w : World) (hf : FldS w w.heap.size A1 A2 A3 A4 f) (hm : Small f) (hc : Caps c1 c2 c3 c4 f) (hE : Pl.fieldE f = 0) (hk : m < f.pa.length) :
  Calls Tryz.prog 52 #[.agg #[.slice A1 f.st.length c1, .slice A2 f.li.length c2, .slice A3 f.pa.length c3, .slice A4 f.va.length c4], .int .i64 m] w (EndIs (Pl.adjN f f.pa[m] f.pa.length) 0 w) := by
 have hok := Pl.fieldE_ok hE
 have hS := hok.st12
 have hL := hok.li10
 have hp40 := hok.pa40
 have hpk := Lib.hid hok.par
 have HE := Lib.hid hE
 have pp := Pl.parIn_ok (hok.par _ (List.getElem_mem hk))
 have hin : Pl.inB (m : Int) 0 ((f.pa.length : Int) - 1) = true := Pl.inB_yes.2 (by omega)
 have hap := Pl.apart_fr _ _ hok.ap
 clear hE hok
 have kb := heap_alloc_new w (.cells #[.slice A1 f.st.length c1, .slice A2 f.li.length c2, .slice A3 f.pa.length c3, .slice A4 f.va.length c4] 28)
 obtain ⟨⟨pn, ps, pf, pt⟩, hp⟩ : ∃ p, f.pa[m] = p := ⟨_, rfl⟩
 obtain ⟨b, off, hA, hbB, q0, q1, q2, q3⟩ := Pars.at4 hf.pa hk
 rw [hp] at pp q0 q1 q2 q3 ⊢
 obtain ⟨p1, p2, p3, p4, p5, p6⟩ := pp
 simp only at p1 p2 p3 p4 p5 p6 q0 q1 q2 q3
 subst hA
 have hself : Hid (∀ k (h : k < f.pa.length), k = m → f.pa[k] = ⟨pn, ps, pf, pt⟩) := Lib.hid fun k h e => by subst e; exact hp
 have hfr : Hid (pf < pt) := Lib.hid (by have := hap _ (List.getElem_mem hk); rw [hp] at this; exact this)
 clear hp hap
 have m0 : (0 : Int) ≤ (m : Int) := by omega
 have m1 : (m : Int) < (f.pa.length : Int) := by omega
 go_enter Tryz.func52, Tryz.ntmps52
 go_wp2_with (first
  | (go_at_call 43; refine (checkFieldB_h A1 A2 (some ⟨b, off, none⟩) A4 c1 c2 c3 c4 f 0 _ HE (hf.up (by go_grown)) hm hc).mono ?_; rintro e w1 ⟨rfl, hx⟩; have kb := kA hx (by first | exact kb | exact (Below.heap_alloc _ _ _ (lO kb)).trans kb); obtain ⟨hckb, hfkb⟩ := blk_cells kb; have hltkb := (lO kb); have hall : Below w.heap.size w w1 := Below.trans (by go_grown) (hx.mono (by go_size)); have hsz : w.heap.size ≤ w1.heap.size := hall.size; have q0 := (hall.cell (p := ⟨b, off + m * 4, none⟩) hbB).trans q0; have q1 := (hall.cell (p := ⟨b, off + m * 4 + 1, none⟩) hbB).trans q1; have q2 := (hall.cell (p := ⟨b, off + m * 4 + 2, none⟩) hbB).trans q2; have q3 := (hall.cell (p := ⟨b, off + m * 4 + 3, none⟩) hbB).trans q3; clear hx)
  | (go_at_call 102; refine (within_b _ _ _ _).mono ?_; rintro e w' ⟨rfl, rfl⟩))
 have kp := heap_alloc_new w1 (.cells #[.string pn, .int .i64 ps, .int .i64 pf, .int .i64 pt] 112)
 have kb := (Below.heap_alloc _ (.cells #[.string pn, .int .i64 ps, .int .i64 pf, .int .i64 pt] 112) _ hltkb).trans kb
 have hn0 : w.heap.size < w1.heap.size := hltkb
 go_loopw [7, 9] (fun o i wr => ∃ (k n : Nat), k ≤ f.pa.length ∧ n ≤ k ∧ i = .int .i64 k ∧ wr.ownsRow (w1.heap.size + 1) 3 1 o n ((Pl.adjN f ⟨pn, ps, pf, pt⟩ k).flatMap encInt) ∧ wr.heap[w.heap.size]? = some (.cells #[.slice A1 f.st.length c1, .slice A2 f.li.length c2, .slice (some ⟨b, off, none⟩) f.pa.length c3, .slice A4 f.va.length c4] 28 (0, 0)) ∧ wr.heap[w1.heap.size]? = some (.cells #[.string pn, .int .i64 ps, .int .i64 pf, .int .i64 pt] 112 (0, 0)) ∧ Below w.heap.size w wr) (fun _ i _ => f.pa.length - (intOf i).toNat)
 case atStart => exact ⟨0, 0, by omega, by omega, rfl, by simpa [Pl.adjN] using World.ownsRow_nil _ _ _ _, kb, kp, by go_grown⟩
 case round =>
  clear kb hckb hfkb hltkb hall hsz kp q0 q1 q2 q3
  obtain ⟨k, n, hkl, hnk, rfl, hown, kb, kp, hall⟩ := hrel
  obtain ⟨hckb, hfkb⟩ := blk_cells kb
  obtain ⟨hckp, hfkp⟩ := blk_cells kp
  have hltkb := (lO kb)
  have hltkp := (lO kp)
  have hsz := hall.size
  by_cases hlt : k < f.pa.length
  ·have qq := Pl.parIn_ok (hpk.out _ (List.getElem_mem hlt))
   obtain ⟨b', off', hA', hbB', q0, q1, q2, q3⟩ := Pars.at4 (hf.pa.below hall) hlt
   obtain ⟨rfl, rfl⟩ : b = b' ∧ off = off' := by simpa using hA'
   have hyes := Lib.hid (fun h => Pl.adjN_yes (p := ⟨pn, ps, pf, pt⟩) hlt h)
   have hno := Lib.hid (fun h => Pl.adjN_no (p := ⟨pn, ps, pf, pt⟩) hlt h)
   obtain ⟨⟨qn, qs, qf, qt⟩, hq⟩ : ∃ p, f.pa[k] = p := ⟨_, rfl⟩
   rw [hq] at qq q0 q1 q2 q3 hyes hno
   obtain ⟨r1, r2, r3, r4, r5, r6⟩ := qq
   simp only at r1 r2 r3 r4 r5 r6 q0 q1 q2 q3
   have HQ := Lib.hid hq
   clear hq hA'
   have k0 : (0 : Int) ≤ (k : Int) := by omega
   have k1 : (k : Int) < (f.pa.length : Int) := by omega
   have kq := heap_alloc_new wr (.cells #[.string qn, .int .i64 qs, .int .i64 qf, .int .i64 qt] 112)
   have hb1 : Below wr.heap.size wr (wr.alloc (.cells #[.string qn, .int .i64 qs, .int .i64 qf, .int .i64 qt] 112)) := (Below.refl _ wr).alloc (Nat.le_refl _) _
   obtain ⟨g', cap', w4, hrun, hown4, hb4⟩ := app_int (k : Int) (own_below hown hb1) (by omega) (by have := hb1.size; omega)
   rw [World.size_alloc] at hrun
   have h14 : Below w.heap.size w w4 := hall.trans ((hb1.mono (by omega)).trans (hb4.mono (by omega)))
   have kb4 := (hb4.block w.heap.size (by omega)).trans ((hb1.block _ hltkb).trans kb)
   have kp4 := (hb4.block w1.heap.size (by omega)).trans ((hb1.block _ hltkp).trans kp)
   have CM := fun W => comD_b ⟨pn, ps, pf, pt⟩ ⟨qn, qs, qf, qt⟩ W (by simp only; omega) (by simp only; omega) (by simp only; omega) (by simp only; omega) (by simp only; omega) (by simp only; omega) (by simp only; omega) (by simp only; omega)
   obtain ⟨M, hM⟩ : ∃ M, max 0 (Pl.com2 ⟨pn, ps, pf, pt⟩ ⟨qn, qs, qf, qt⟩ + 1) = M := ⟨_, rfl⟩
   rw [hM] at CM
   have i1 : IntKind.i64.wrap (qs + 1) = qs + 1 := IntWalk.i64_in _ (by omega)
   have i2 : IntKind.i64.wrap (ps + 1) = ps + 1 := IntWalk.i64_in _ (by omega)
   by_cases hkm : k = m
   ·have hs := hself.out k hlt hkm
    rw [HQ.out] at hs
    obtain ⟨rfl, rfl, rfl, rfl⟩ : pn = qn ∧ ps = qs ∧ pf = qf ∧ pt = qt := by simp at hs; exact ⟨hs.1.symm, hs.2.1.symm, hs.2.2.1.symm, hs.2.2.2.symm⟩
    subst hkm
    have n1 : (ps == ps + 1) = false := by rw [beq_eq_false_iff_ne]; omega
    have n2 : (pt == pf) = false := by rw [beq_eq_false_iff_ne]; have := hfr.out; omega
    have HN := Lib.hid (hno.out (Pl.adjB_self hfr.out))
    clear hyes hno hM CM hrun hown4 hb4 h14 kb4 kp4 hs
    go_wp2
    go_roundw
    case rel => exact ⟨k + 1, n, by omega, by omega, by go_num, by rw [HN.out]; exact own_below hown hb1, (hb1.block _ hltkb).trans kb, (hb1.block _ hltkp).trans kp, hall.trans (hb1.mono (by omega))⟩
    case measure => simp [intOf]; try omega
   have j1 : ((k : Int) != (m : Int)) = true := by rw [bne_iff_ne]; omega
   by_cases e1 : ps = qs
   ·subst e1
    have n1 : (ps == ps + 1) = false := by rw [beq_eq_false_iff_ne]; omega
    by_cases e2 : pt = qf
    ·subst e2
     have HN := Lib.hid (hyes.out (by rw [Pl.adjB_ref]; simp))
     clear hyes hno hM CM
     go_wp2
     go_roundw
     case rel => exact ⟨k + 1, n + 1, by omega, by omega, by go_num, by rw [HN.out]; exact hown4, kb4, kp4, h14⟩
     case measure => simp [intOf]; try omega
    ·have e2' : (pt == qf) = false := by simpa using e2
     by_cases e3 : qt = pf
     ·subst e3
      have HN := Lib.hid (hyes.out (by rw [Pl.adjB_ref]; simp))
      clear hyes hno hM CM
      go_wp2
      go_roundw
      case rel => exact ⟨k + 1, n + 1, by omega, by omega, by go_num, by rw [HN.out]; exact hown4, kb4, kp4, h14⟩
      case measure => simp [intOf]; try omega
     ·have e3' : (qt == pf) = false := by simpa using e3
      have HN := Lib.hid (hno.out (by rw [Pl.adjB_ref]; simp [e2, e3]; omega))
      clear hyes hno hM CM hrun hown4 hb4 h14 kb4 kp4
      go_wp2
      go_roundw
      case rel => exact ⟨k + 1, n, by omega, by omega, by go_num, by rw [HN.out]; exact own_below hown hb1, (hb1.block _ hltkb).trans kb, (hb1.block _ hltkp).trans kp, hall.trans (hb1.mono (by omega))⟩
      case measure => simp [intOf]; try omega
   ·have e1' : (ps == qs) = false := by simpa using e1
    by_cases u1 : ps = qs + 1
    ·have u1' : (ps == qs + 1) = true := by simpa using u1
     clear hrun hown4 hb4 h14 kb4 kp4
     by_cases e4 : 1 < M
     ·have HN := Lib.hid (hyes.out (by rw [Pl.adjB_ref, hM]; simp [u1]; omega))
      clear hyes hno hM u1
      go_wp2_with (go_at_call 127; refine (CM _).mono ?_; rintro e w3 ⟨rfl, hx⟩; have kb := kA hx (by first | exact kb | exact (Below.heap_alloc _ _ _ (lO kb)).trans kb); obtain ⟨hckb, hfkb⟩ := blk_cells kb; have hltkb := (lO kb); have kp := kA hx (by first | exact kp | exact (Below.heap_alloc _ _ _ (lO kp)).trans kp); obtain ⟨hckp, hfkp⟩ := blk_cells kp; have hltkp := (lO kp); have kq := kA hx (by first | exact kq | exact (Below.heap_alloc _ _ _ (lO kq)).trans kq); obtain ⟨hckq, hfkq⟩ := blk_cells kq; have hltkq := (lO kq); have hall : Below w.heap.size w w3 := Below.trans (by go_grown) (hx.mono (by go_size)); have hsz : w.heap.size ≤ w3.heap.size := hall.size; have h03 : Below wr.heap.size wr w3 := Below.trans (by go_grown) (hx.mono (by go_size)); obtain ⟨g', cap', w4, hrun, hown4, hb4⟩ := app_int (k : Int) (own_below hown h03) (by omega) (by have := h03.size; omega); have hn3 := h03.size; clear hx)
      go_roundw
      case rel => exact ⟨k + 1, n + 1, by omega, by omega, by go_num, by rw [HN.out]; exact hown4, (hb4.block w.heap.size (by omega)).trans kb, (hb4.block w1.heap.size (by omega)).trans kp, hall.trans (hb4.mono (by omega))⟩
      case measure => simp [intOf]; try omega
     ·have HN := Lib.hid (hno.out (by rw [Pl.adjB_ref, hM]; simp [u1]; omega))
      clear hyes hno hM u1
      go_wp2_with (go_at_call 127; refine (CM _).mono ?_; rintro e w3 ⟨rfl, hx⟩; have kb := kA hx (by first | exact kb | exact (Below.heap_alloc _ _ _ (lO kb)).trans kb); obtain ⟨hckb, hfkb⟩ := blk_cells kb; have hltkb := (lO kb); have kp := kA hx (by first | exact kp | exact (Below.heap_alloc _ _ _ (lO kp)).trans kp); obtain ⟨hckp, hfkp⟩ := blk_cells kp; have hltkp := (lO kp); have kq := kA hx (by first | exact kq | exact (Below.heap_alloc _ _ _ (lO kq)).trans kq); obtain ⟨hckq, hfkq⟩ := blk_cells kq; have hltkq := (lO kq); have hall : Below w.heap.size w w3 := Below.trans (by go_grown) (hx.mono (by go_size)); have hsz : w.heap.size ≤ w3.heap.size := hall.size; have h03 : Below wr.heap.size wr w3 := Below.trans (by go_grown) (hx.mono (by go_size)); have hown3 := own_below hown h03; clear hx)
      go_roundw
      case rel => exact ⟨k + 1, n, by omega, by omega, by go_num, by rw [HN.out]; exact hown3, kb, kp, hall⟩
      case measure => simp [intOf]; try omega
    ·have u1' : (ps == qs + 1) = false := by simpa using u1
     by_cases u2 : qs = ps + 1
     ·have u2' : (qs == ps + 1) = true := by simpa using u2
      clear hrun hown4 hb4 h14 kb4 kp4
      by_cases e4 : 1 < M
      ·have HN := Lib.hid (hyes.out (by rw [Pl.adjB_ref, hM]; simp [u2]; omega))
       clear hyes hno hM u2
       go_wp2_with (go_at_call 127; refine (CM _).mono ?_; rintro e w3 ⟨rfl, hx⟩; have kb := kA hx (by first | exact kb | exact (Below.heap_alloc _ _ _ (lO kb)).trans kb); obtain ⟨hckb, hfkb⟩ := blk_cells kb; have hltkb := (lO kb); have kp := kA hx (by first | exact kp | exact (Below.heap_alloc _ _ _ (lO kp)).trans kp); obtain ⟨hckp, hfkp⟩ := blk_cells kp; have hltkp := (lO kp); have kq := kA hx (by first | exact kq | exact (Below.heap_alloc _ _ _ (lO kq)).trans kq); obtain ⟨hckq, hfkq⟩ := blk_cells kq; have hltkq := (lO kq); have hall : Below w.heap.size w w3 := Below.trans (by go_grown) (hx.mono (by go_size)); have hsz : w.heap.size ≤ w3.heap.size := hall.size; have h03 : Below wr.heap.size wr w3 := Below.trans (by go_grown) (hx.mono (by go_size)); obtain ⟨g', cap', w4, hrun, hown4, hb4⟩ := app_int (k : Int) (own_below hown h03) (by omega) (by have := h03.size; omega); have hn3 := h03.size; clear hx)
       go_roundw
       case rel => exact ⟨k + 1, n + 1, by omega, by omega, by go_num, by rw [HN.out]; exact hown4, (hb4.block w.heap.size (by omega)).trans kb, (hb4.block w1.heap.size (by omega)).trans kp, hall.trans (hb4.mono (by omega))⟩
       case measure => simp [intOf]; try omega
      ·have HN := Lib.hid (hno.out (by rw [Pl.adjB_ref, hM]; simp [u2]; omega))
       clear hyes hno hM u2
       go_wp2_with (go_at_call 127; refine (CM _).mono ?_; rintro e w3 ⟨rfl, hx⟩; have kb := kA hx (by first | exact kb | exact (Below.heap_alloc _ _ _ (lO kb)).trans kb); obtain ⟨hckb, hfkb⟩ := blk_cells kb; have hltkb := (lO kb); have kp := kA hx (by first | exact kp | exact (Below.heap_alloc _ _ _ (lO kp)).trans kp); obtain ⟨hckp, hfkp⟩ := blk_cells kp; have hltkp := (lO kp); have kq := kA hx (by first | exact kq | exact (Below.heap_alloc _ _ _ (lO kq)).trans kq); obtain ⟨hckq, hfkq⟩ := blk_cells kq; have hltkq := (lO kq); have hall : Below w.heap.size w w3 := Below.trans (by go_grown) (hx.mono (by go_size)); have hsz : w.heap.size ≤ w3.heap.size := hall.size; have h03 : Below wr.heap.size wr w3 := Below.trans (by go_grown) (hx.mono (by go_size)); have hown3 := own_below hown h03; clear hx)
       go_roundw
       case rel => exact ⟨k + 1, n, by omega, by omega, by go_num, by rw [HN.out]; exact hown3, kb, kp, hall⟩
       case measure => simp [intOf]; try omega
     ·have u2' : (qs == ps + 1) = false := by simpa using u2
      have HN := Lib.hid (hno.out (by rw [Pl.adjB_ref]; simp [e1, u1, u2]))
      clear hyes hno hM CM hrun hown4 hb4 h14 kb4 kp4
      go_wp2
      go_roundw
      case rel => exact ⟨k + 1, n, by omega, by omega, by go_num, by rw [HN.out]; exact own_below hown hb1, (hb1.block _ hltkb).trans kb, (hb1.block _ hltkp).trans kp, hall.trans (hb1.mono (by omega))⟩
      case measure => simp [intOf]; try omega
  ·obtain rfl : k = f.pa.length := by omega
   obtain rfl := own_count lay_int hown
   obtain ⟨A', c', hv, hN, hc', hF⟩ := own_seg lay_int hown
   subst hv
   go_wp2
   go_ret2
   exact ⟨A', c', rfl, hN, hc', hall⟩
set_option maxRecDepth 100000 in
set_option maxHeartbeats 2000000 in
theorem AdjoiningB_no (A1 A2 A3 A4 : Option Addr) (c1 c2 c3 c4 : Nat) (f : Pl.Fld) (k E : Int) (w : World) (hf : FldS w w.heap.size A1 A2 A3 A4 f) (hm : Small f) (hc : Caps c1 c2 c3 c4 f) (h : Hid (Pl.fieldE f = E)) (hk : E ≠ 0 ∨ Pl.inB k 0 ((f.pa.length : Int) - 1) = false) :
  Calls Tryz.prog 52 #[.agg #[.slice A1 f.st.length c1, .slice A2 f.li.length c2, .slice A3 f.pa.length c3, .slice A4 f.va.length c4], .int .i64 k] w (EndIs [] (if E = 0 then 1 else E) w) := by
 have kb := heap_alloc_new w (.cells #[.slice A1 f.st.length c1, .slice A2 f.li.length c2, .slice A3 f.pa.length c3, .slice A4 f.va.length c4] 28)
 have hpm := hm.pa
 by_cases h0 : E = 0
 ·subst h0
  have hin : Pl.inB k 0 ((f.pa.length : Int) - 1) = false := by rcases hk with hk | hk; exact absurd rfl hk; exact hk
  clear hk
  go_enter Tryz.func52, Tryz.ntmps52
  go_wp2_with (first
   | (go_at_call 43; refine (checkFieldB_h A1 A2 A3 A4 c1 c2 c3 c4 f 0 _ h (hf.up (by go_grown)) hm hc).mono ?_; rintro e w1 ⟨rfl, hx⟩; have kb := kA hx (by first | exact kb | exact (Below.heap_alloc _ _ _ (lO kb)).trans kb); obtain ⟨hckb, hfkb⟩ := blk_cells kb; have hltkb := (lO kb); have hall : Below w.heap.size w w1 := Below.trans (by go_grown) (hx.mono (by go_size)); have hsz : w.heap.size ≤ w1.heap.size := hall.size; clear hx)
   | (go_at_call 102; refine (within_b _ _ _ _).mono ?_; rintro e w' ⟨rfl, rfl⟩))
  go_ret2
  exact ⟨none, 0, rfl, .inl rfl, Nat.le_refl _, hall⟩
 ·have q0 : (E != 0) = true := by simpa using h0
  rw [if_neg h0]
  clear hk
  go_enter Tryz.func52, Tryz.ntmps52
  go_wp2_with (go_at_call 43; refine (checkFieldB_h A1 A2 A3 A4 c1 c2 c3 c4 f E _ h (hf.up (by go_grown)) hm hc).mono ?_; rintro e w1 ⟨rfl, hx⟩; have kb := kA hx (by first | exact kb | exact (Below.heap_alloc _ _ _ (lO kb)).trans kb); obtain ⟨hckb, hfkb⟩ := blk_cells kb; have hltkb := (lO kb); have hall : Below w.heap.size w w1 := Below.trans (by go_grown) (hx.mono (by go_size)); have hsz : w.heap.size ≤ w1.heap.size := hall.size; clear hx)
  go_ret2
  exact ⟨none, 0, rfl, .inl rfl, Nat.le_refl _, hall⟩
theorem AdjoiningB_h (A1 A2 A3 A4 : Option Addr) (c1 c2 c3 c4 : Nat) (f : Pl.Fld) (k : Int) (X : List Int) (E : Int) (w : World) (hX : Hid (Pl.adjoinV f k = X)) (hE : Hid (Pl.adjoinE f k = E)) (hf : FldS w w.heap.size A1 A2 A3 A4 f) (hm : Small f) (hc : Caps c1 c2 c3 c4 f) :
  Calls Tryz.prog 52 #[.agg #[.slice A1 f.st.length c1, .slice A2 f.li.length c2, .slice A3 f.pa.length c3, .slice A4 f.va.length c4], .int .i64 k] w (EndIs X E w) := by
 rw [← hX.out, ← hE.out]
 refine adjoin_cases f k (P := fun X E => Calls Tryz.prog 52 #[.agg #[.slice A1 f.st.length c1, .slice A2 f.li.length c2, .slice A3 f.pa.length c3, .slice A4 f.va.length c4], .int .i64 k] w (EndIs X E w)) (fun h0 m h e => ?_) (fun h => ?_)
 ·subst e
  exact AdjoiningB_ok A1 A2 A3 A4 c1 c2 c3 c4 f m w hf hm hc h0 h
 ·exact AdjoiningB_no A1 A2 A3 A4 c1 c2 c3 c4 f k _ w hf hm hc (Lib.hid rfl) h
end Go.Proofs.YtgbpekeoegfjpaaGreatDoor
namespace Go.Proofs.YtgbpekeoegfjpaaGreatDoor
open Go.RowKit
attribute [-go_sem] run_equalIn_agg storeVar loadVar
attribute [local go_sem] lv_int lv_bool lv_u8 lv_string lv_strings lv_stas lv_pars lv_vars
/- The law, where it asks nothing. -/
set_option maxRecDepth 100000 in
set_option maxHeartbeats 4000000 in
theorem deedPoints_idle (A1 A2 A3 A4 : Option Addr) (c1 c2 c3 c4 : Nat) (f : Pl.Fld) (l s p o k : Int) (A : Option Addr) (cy : Nat) (y : List Int) (w : World) (hEn : Env w) (hf : FldS w w.heap.size A1 A2 A3 A4 f) (hym : y.length ≤ 9223372036854775807)
  (h : Pl.vast f = true ∨ 130 < y.length) :
  Calls Tryz.prog 12 #[.agg #[.slice A1 f.st.length c1, .slice A2 f.li.length c2, .slice A3 f.pa.length c3, .slice A4 f.va.length c4], .int .i64 l, .int .i64 s, .int .i64 p, .int .i64 o, .int .i64 k, .slice A y.length cy] w fun e w' => e = .returned (.bool true) ∧ Below w.heap.size w w' := by
 have kf := (heap_alloc_new w (.cells #[.slice A1 f.st.length c1, .slice A2 f.li.length c2, .slice A3 f.pa.length c3, .slice A4 f.va.length c4] 28))
 have l0 := ld_row kf Tryz.underlying28 rfl info_fld
 have hall : Below w.heap.size w (w.alloc (.cells #[.slice A1 f.st.length c1, .slice A2 f.li.length c2, .slice A3 f.pa.length c3, .slice A4 f.va.length c4] 28)) := ((Below.refl _ w).alloc (Nat.le_refl _) _)
 by_cases h1 : Pl.vast f = true
 ·have hv := Lib.hid h1
  clear h h1
  go_enter Tryz.func12, Tryz.ntmps12
  go_wp2_with fail
  refine (vast_a A1 A2 A3 A4 c1 c2 c3 c4 f _ (hf.up hall) true hv).mono ?_
  rintro e w1 ⟨rfl, hx⟩
  replace kf := (hx.block _ (lO kf)).trans kf; replace hall : Below w.heap.size w _ := hall.trans (hx.mono hall.size); (try clear l0); have l0 := ld_row kf Tryz.underlying28 rfl info_fld; (try clear hcf hff); obtain ⟨hcf, hff⟩ := blk_cells kf; clear hx
  go_wp2_with fail
  refine (spoken_a _ (hEn.up hall)).mono ?_
  rintro e w7 ⟨rfl, hx⟩
  replace kf := (hx.block _ (lO kf)).trans kf; replace hall : Below w.heap.size w _ := hall.trans (hx.mono hall.size); (try clear l0); have l0 := ld_row kf Tryz.underlying28 rfl info_fld; (try clear hcf hff); obtain ⟨hcf, hff⟩ := blk_cells kf; clear hx
  go_wp2_with fail
  go_ret
  exact ⟨rfl, hall⟩
 ·have h1' : Pl.vast f = false := by simpa using h1
  have hv := Lib.hid h1'
  have e2 : (130 : Int) < (y.length : Int) := by rcases h with h | h; exact absurd h h1; omega
  clear h h1 h1'
  go_enter Tryz.func12, Tryz.ntmps12
  go_wp2_with fail
  refine (vast_a A1 A2 A3 A4 c1 c2 c3 c4 f _ (hf.up hall) false hv).mono ?_
  rintro e w1 ⟨rfl, hx⟩
  replace kf := (hx.block _ (lO kf)).trans kf; replace hall : Below w.heap.size w _ := hall.trans (hx.mono hall.size); (try clear l0); have l0 := ld_row kf Tryz.underlying28 rfl info_fld; (try clear hcf hff); obtain ⟨hcf, hff⟩ := blk_cells kf; clear hx
  go_wp2_with fail
  refine (spoken_a _ (hEn.up hall)).mono ?_
  rintro e w7 ⟨rfl, hx⟩
  replace kf := (hx.block _ (lO kf)).trans kf; replace hall : Below w.heap.size w _ := hall.trans (hx.mono hall.size); (try clear l0); have l0 := ld_row kf Tryz.underlying28 rfl info_fld; (try clear hcf hff); obtain ⟨hcf, hff⟩ := blk_cells kf; clear hx
  go_wp2_with fail
  go_ret
  exact ⟨rfl, hall⟩
set_option maxRecDepth 100000 in
set_option maxHeartbeats 4000000 in
theorem deedPoints_ok (A1 A2 A3 A4 : Option Addr) (c1 c2 c3 c4 : Nat) (f : Pl.Fld) (l s p o k : Int) (A : Option Addr) (cy : Nat) (y : List Int) (P e1 a b e2 : Int) (X : List Int) (e3 : Int) (D : Bool) (e4 M e5 : Int) (w : World) (hEn : Env w) (hf : FldS w w.heap.size A1 A2 A3 A4 f) (hm : Small f) (hc : Caps c1 c2 c3 c4 f) (hv : Hid (Pl.vast f = false)) (hy : Ints w w.heap.size A y) (hym : y.length ≤ 130)
  (HP : Hid (Pl.pointE f l s = (P, e1))) (HC : Hid (Pl.cornerE f p = (a, b, e2))) (HX : Hid (Pl.adjoinV f k = X)) (HE : Hid (Pl.adjoinE f k = e3)) (HD : Hid (Pl.drawnV f y = D)) (HF : Hid (Pl.fieldE f = e4)) (HA : Hid (Pl.atR f s o y = (M, e5))) (hX : X.length ≤ 100000) :
  Calls Tryz.prog 12 #[.agg #[.slice A1 f.st.length c1, .slice A2 f.li.length c2, .slice A3 f.pa.length c3, .slice A4 f.va.length c4], .int .i64 l, .int .i64 s, .int .i64 p, .int .i64 o, .int .i64 k, .slice A y.length cy] w fun e w' => e = .returned (.bool true) ∧ Below w.heap.size w w' := by
 have kf := (heap_alloc_new w (.cells #[.slice A1 f.st.length c1, .slice A2 f.li.length c2, .slice A3 f.pa.length c3, .slice A4 f.va.length c4] 28))
 have l0 := ld_row kf Tryz.underlying28 rfl info_fld
 have hall : Below w.heap.size w (w.alloc (.cells #[.slice A1 f.st.length c1, .slice A2 f.li.length c2, .slice A3 f.pa.length c3, .slice A4 f.va.length c4] 28)) := ((Below.refl _ w).alloc (Nat.le_refl _) _)
 have g2 : ¬ (130 : Int) < (y.length : Int) := by omega
 go_enter Tryz.func12, Tryz.ntmps12
 go_wp2_with fail
 refine (vast_a A1 A2 A3 A4 c1 c2 c3 c4 f _ (hf.up hall) false hv).mono ?_
 rintro e w1 ⟨rfl, hx⟩
 replace kf := (hx.block _ (lO kf)).trans kf; replace hall : Below w.heap.size w _ := hall.trans (hx.mono hall.size); (try clear l0); have l0 := ld_row kf Tryz.underlying28 rfl info_fld; (try clear hcf hff); obtain ⟨hcf, hff⟩ := blk_cells kf; clear hx
 go_wp2_with fail
 refine (Point_h A1 A2 A3 A4 c1 c2 c3 c4 f l s P e1 _ HP (hf.up hall) hm hc).mono ?_
 rintro e w2 ⟨rfl, hx⟩
 replace kf := (hx.block _ (lO kf)).trans kf; replace hall : Below w.heap.size w _ := hall.trans (hx.mono hall.size); (try clear l0); have l0 := ld_row kf Tryz.underlying28 rfl info_fld; (try clear hcf hff); obtain ⟨hcf, hff⟩ := blk_cells kf; clear hx
 go_wp2_with fail
 refine (PointB_h A1 A2 A3 A4 c1 c2 c3 c4 f l s P e1 _ HP (hf.up hall) hm hc).mono ?_
 rintro e w3 ⟨rfl, hx⟩
 replace kf := (hx.block _ (lO kf)).trans kf; replace hall : Below w.heap.size w _ := hall.trans (hx.mono hall.size); (try clear l0); have l0 := ld_row kf Tryz.underlying28 rfl info_fld; (try clear hcf hff); obtain ⟨hcf, hff⟩ := blk_cells kf; clear hx
 go_wp2_with fail
 refine (Corner_h A1 A2 A3 A4 c1 c2 c3 c4 f p a b e2 _ HC (hf.up hall) hm hc).mono ?_
 rintro e w4 ⟨rfl, hx⟩
 replace kf := (hx.block _ (lO kf)).trans kf; replace hall : Below w.heap.size w _ := hall.trans (hx.mono hall.size); (try clear l0); have l0 := ld_row kf Tryz.underlying28 rfl info_fld; (try clear hcf hff); obtain ⟨hcf, hff⟩ := blk_cells kf; clear hx
 go_wp2_with fail
 refine (CornerB_h A1 A2 A3 A4 c1 c2 c3 c4 f p a b e2 _ HC (hf.up hall) hm hc).mono ?_
 rintro e w5 ⟨rfl, hx⟩
 replace kf := (hx.block _ (lO kf)).trans kf; replace hall : Below w.heap.size w _ := hall.trans (hx.mono hall.size); (try clear l0); have l0 := ld_row kf Tryz.underlying28 rfl info_fld; (try clear hcf hff); obtain ⟨hcf, hff⟩ := blk_cells kf; clear hx
 go_wp2_with fail
 refine (Adjoining_h A1 A2 A3 A4 c1 c2 c3 c4 f k X e3 _ HX HE (hf.up hall) hm hc).mono ?_
 rintro e w6 ⟨X1, x1, rfl, hX1, hx1, hx⟩
 replace kf := (hx.block _ (lO kf)).trans kf; replace hall : Below w.heap.size w _ := hall.trans (hx.mono hall.size); (try clear l0); have l0 := ld_row kf Tryz.underlying28 rfl info_fld; (try clear hcf hff); obtain ⟨hcf, hff⟩ := blk_cells kf; clear hx
 go_wp2_with fail
 refine (AdjoiningB_h A1 A2 A3 A4 c1 c2 c3 c4 f k X e3 _ HX HE (hf.up hall) hm hc).mono ?_
 rintro e w7 ⟨X2, x2, rfl, hX2, hx2, hx⟩
 have hX1 := hX1.up hx
 replace kf := (hx.block _ (lO kf)).trans kf; replace hall : Below w.heap.size w _ := hall.trans (hx.mono hall.size); (try clear l0); have l0 := ld_row kf Tryz.underlying28 rfl info_fld; (try clear hcf hff); obtain ⟨hcf, hff⟩ := blk_cells kf; clear hx
 go_wp2_with fail
 refine (Drawn_a A1 A2 A3 A4 c1 c2 c3 c4 f A cy y D e4 _ HD HF (hf.up hall) hm hc (hy.up hall) (by omega)).mono ?_
 rintro e w8 ⟨rfl, hx⟩
 have hX1 := hX1.up hx
 have hX2 := hX2.up hx
 replace kf := (hx.block _ (lO kf)).trans kf; replace hall : Below w.heap.size w _ := hall.trans (hx.mono hall.size); (try clear l0); have l0 := ld_row kf Tryz.underlying28 rfl info_fld; (try clear hcf hff); obtain ⟨hcf, hff⟩ := blk_cells kf; clear hx
 go_wp2_with fail
 refine (DrawnB_h A1 A2 A3 A4 c1 c2 c3 c4 f A cy y D e4 _ HD HF (hf.up hall) hm hc (hy.up hall) (by omega)).mono ?_
 rintro e w9 ⟨rfl, hx⟩
 have hX1 := hX1.up hx
 have hX2 := hX2.up hx
 replace kf := (hx.block _ (lO kf)).trans kf; replace hall : Below w.heap.size w _ := hall.trans (hx.mono hall.size); (try clear l0); have l0 := ld_row kf Tryz.underlying28 rfl info_fld; (try clear hcf hff); obtain ⟨hcf, hff⟩ := blk_cells kf; clear hx
 go_wp2_with fail
 refine (At_h A1 A2 A3 A4 c1 c2 c3 c4 f s o A cy y M e5 _ HA (hf.up hall) hm hc (hy.up hall) (by omega)).mono ?_
 rintro e w10 ⟨rfl, hx⟩
 have hX1 := hX1.up hx
 have hX2 := hX2.up hx
 replace kf := (hx.block _ (lO kf)).trans kf; replace hall : Below w.heap.size w _ := hall.trans (hx.mono hall.size); (try clear l0); have l0 := ld_row kf Tryz.underlying28 rfl info_fld; (try clear hcf hff); obtain ⟨hcf, hff⟩ := blk_cells kf; clear hx
 go_wp2_with fail
 refine (AtB_h A1 A2 A3 A4 c1 c2 c3 c4 f s o A cy y M e5 _ HA (hf.up hall) hm hc (hy.up hall) (by omega)).mono ?_
 rintro e w11 ⟨rfl, hx⟩
 have hX1 := hX1.up hx
 have hX2 := hX2.up hx
 replace kf := (hx.block _ (lO kf)).trans kf; replace hall : Below w.heap.size w _ := hall.trans (hx.mono hall.size); (try clear l0); have l0 := ld_row kf Tryz.underlying28 rfl info_fld; (try clear hcf hff); obtain ⟨hcf, hff⟩ := blk_cells kf; clear hx
 go_wp2_with fail
 refine (spoken_a _ (hEn.up hall)).mono ?_
 rintro e w12 ⟨rfl, hx⟩
 have hX1 := hX1.up hx
 have hX2 := hX2.up hx
 replace kf := (hx.block _ (lO kf)).trans kf; replace hall : Below w.heap.size w _ := hall.trans (hx.mono hall.size); (try clear l0); have l0 := ld_row kf Tryz.underlying28 rfl info_fld; (try clear hcf hff); obtain ⟨hcf, hff⟩ := blk_cells kf; clear hx
 go_wp2_with fail
 refine (sameInts_a X1 X2 x1 x2 _ X _ rfl hX1 hX hX2).mono ?_
 rintro e w13 ⟨rfl, hx⟩
 replace kf := (hx.block _ (lO kf)).trans kf; replace hall : Below w.heap.size w _ := hall.trans (hx.mono hall.size); (try clear l0); have l0 := ld_row kf Tryz.underlying28 rfl info_fld; (try clear hcf hff); obtain ⟨hcf, hff⟩ := blk_cells kf; clear hx
 go_wp2_with fail
 go_ret
 exact ⟨by first | rfl | (simp; done), hall⟩
theorem deedPoints_w (A1 A2 A3 A4 : Option Addr) (c1 c2 c3 c4 : Nat) (f : Pl.Fld) (l s p o k : Int) (A : Option Addr) (cy : Nat) (y : List Int) (w : World) (hEn : Env w) (hf : FldS w w.heap.size A1 A2 A3 A4 f) (hc : Caps c1 c2 c3 c4 f) (hy : Ints w w.heap.size A y) (hyc : y.length ≤ cy) (hcm : cy ≤ maxLen) :
  Calls Tryz.prog 12 #[.agg #[.slice A1 f.st.length c1, .slice A2 f.li.length c2, .slice A3 f.pa.length c3, .slice A4 f.va.length c4], .int .i64 l, .int .i64 s, .int .i64 p, .int .i64 o, .int .i64 k, .slice A y.length cy] w fun e w' => e = .returned (.bool true) ∧ Below w.heap.size w w' := by
 by_cases h : Pl.vast f = true ∨ 130 < y.length
 ·exact deedPoints_idle A1 A2 A3 A4 c1 c2 c3 c4 f l s p o k A cy y w hEn hf (by unfold maxLen at hcm; omega) h
 ·rw [not_or] at h
  have hv : Pl.vast f = false := by simpa using h.1
  have hm := Pl.vast_small hv
  obtain ⟨P, e1, hP⟩ : ∃ P e, Pl.pointE f l s = (P, e) := ⟨_, _, rfl⟩
  obtain ⟨a, b, e2, hC⟩ : ∃ a b e, Pl.cornerE f p = (a, b, e) := ⟨_, _, _, rfl⟩
  obtain ⟨M, e5, hA⟩ : ∃ M e, Pl.atR f s o y = (M, e) := ⟨_, _, rfl⟩
  exact deedPoints_ok A1 A2 A3 A4 c1 c2 c3 c4 f l s p o k A cy y P e1 a b e2 _ _ _ _ M e5 w hEn hf hm hc (Lib.hid hv) hy (by omega) (Lib.hid hP) (Lib.hid hC) (Lib.hid rfl) (Lib.hid rfl) (Lib.hid rfl) (Lib.hid rfl) (Lib.hid hA) (Nat.le_trans (Pl.adjoinV_len f k) hm.pa)
end Go.Proofs.YtgbpekeoegfjpaaGreatDoor
