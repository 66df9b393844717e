/- Walk of the reference: Nature. -/
import Derived.Test.YtgbpekeoegfjpaaGreatDoorProg
import Derived.WalkKit
import Derived.WalkLawsBesides
import Derived.WalkSpells
import Derived.Handy
import Derived.Lib.Hide
import Derived.Great.BuildSlice
import Derived.Deep.QuietTactic
import Derived.BigQuiet
import Derived.Deep.RegionHeld3
import Derived.Deep.DeepCutAuto
import Derived.Test.YtgbpekeoegfjpaaGreatDoorGDa
namespace Go.Proofs.YtgbpekeoegfjpaaGreatDoor
open Go.RowKit
attribute [-go_sem] Builtin.append_

set_option maxRecDepth 100000 in
set_option maxHeartbeats 8000000 in
theorem NatureB_ok (A1 A2 A3 A4 : Option Addr) (c1 c2 c3 c4 : Nat) (f : Pl.Fld) (w : World) (hf : FldS w w.heap.size A1 A2 A3 A4 f) (hm : Small f) (hc : Caps c1 c2 c3 c4 f) (hE : Pl.fieldE f = 0) :
    Calls Tryz.prog 42 #[.agg #[.slice A1 f.st.length c1, .slice A2 f.li.length c2, .slice A3 f.pa.length c3, .slice A4 f.va.length c4]] w (EndBd (Pl.nature f.st.length f.li.length) 0 w) := by
  have hok := Pl.fieldE_ok hE
  have hS := hok.st12
  have hL1 := hok.li1
  have hL := hok.li10
  obtain ⟨N, hN⟩ : ∃ N, f.li.length * f.st.length = N := ⟨_, rfl⟩
  have hNb : N ≤ 120 := by rw [← hN]; have := Nat.mul_le_mul hL hS; omega
  have HM := Lib.hid hN
  have HP : Hid ((if Pl.fieldE f = 0 then 1 + ((f.li.length : Nat) : Int) * (f.st.length : Nat) else 0) = 1 + (N : Int)) := Lib.hid (by rw [if_pos hE, ← hN]; simp)
  have HE := Lib.hid hE
  clear hN hE hok
  have kb := heap_alloc_new w (.cells #[.slice A1 f.st.length c1, .slice A2 f.li.length c2, .slice A3 f.pa.length c3, .slice A4 f.va.length c4] 28)
  go_enter Tryz.func42, Tryz.ntmps42
  go_wp2_with (go_at_call 43; refine (checkFieldB_h A1 A2 A3 A4 c1 c2 c3 c4 f 0 _ HE (hf.up (by go_grown)) hm hc).mono ?_; rintro e w1 ⟨rfl, hx⟩; have kb := (hx.block (w.heap.size) (by first | exact (Array.getElem?_eq_some_iff.1 kb).1 | omega | (simp; done) | (simp; omega))).trans (by first | exact kb | exact (Below.heap_alloc _ _ _ (Array.getElem?_eq_some_iff.1 kb).1).trans kb); obtain ⟨hckb, hfkb⟩ := blk_cells kb; have hltkb := (Array.getElem?_eq_some_iff.1 kb).1; have hall : Below w.heap.size w w1 := Below.trans (by go_grown) (hx.mono (by go_size)); have hsz : w.heap.size ≤ w1.heap.size := hall.size; clear hx)
  go_loopw [5, 6] (fun o i wr => ∃ (p : Nat), p ≤ N ∧ i = .int .i64 ((p : Int) + 1) ∧ wr.ownsRow (w.heap.size + 1) 99 4 o (2 * p) ((Pl.natA p).flatMap encBd) ∧ wr.heap[w.heap.size]? = some (.cells #[.slice A1 f.st.length c1, .slice A2 f.li.length c2, .slice A3 f.pa.length c3, .slice A4 f.va.length c4] 28 (0, 0)) ∧ Below w.heap.size w wr) (fun _ i _ => 200 - (intOf i).toNat)
  case atStart => exact ⟨0, by omega, rfl, World.ownsRow_nil _ _ _ _, kb, hall⟩
  case round =>
    clear kb hckb hfkb hltkb hall hsz
    obtain ⟨p, hp, rfl, hown, kb, hall⟩ := hrel
    obtain ⟨hckb, hfkb⟩ := blk_cells kb
    have hltkb := (Array.getElem?_eq_some_iff.1 kb).1
    have hsz := hall.size
    by_cases hlt : p < N
    · have e1 : (p : Int) + 1 < 1 + (N : Int) := by omega
      go_wp2_with (go_at_call 46; refine (PointsB_h A1 A2 A3 A4 c1 c2 c3 c4 f (1 + (N : Int)) _ HP (hf.up (by go_grown)) hm hc).mono ?_; rintro e w2 ⟨rfl, hx⟩; have kb := (hx.block (w.heap.size) (by first | exact (Array.getElem?_eq_some_iff.1 kb).1 | omega | (simp; done) | (simp; omega))).trans (by first | exact kb | exact (Below.heap_alloc _ _ _ (Array.getElem?_eq_some_iff.1 kb).1).trans kb); obtain ⟨hckb, hfkb⟩ := blk_cells kb; have hltkb := (Array.getElem?_eq_some_iff.1 kb).1; have hall : Below w.heap.size w w2 := Below.trans (by go_grown) (hx.mono (by go_size)); have hsz : w.heap.size ≤ w2.heap.size := hall.size; have h0 : Below wr.heap.size wr w2 := Below.trans (by go_grown) (hx.mono (by go_size)); have hs0 := h0.size; obtain ⟨g3, cap3, w3, hrun3, hown3, hb3⟩ := own_app lay_bd (own_below hown h0) [⟨0, p + 1, 100000, 0⟩] 0 rfl #[.int .i64 0, .int .i64 ((p : Int) + 1), .int .i64 100000, .int .i64 0] (by simp [encBd]) (by unfold maxLen; omega) (by omega) (by omega); have hs3 := hb3.size; obtain ⟨g4, cap4, w4, hrun4, hown4, hb4⟩ := own_app lay_bd hown3 [⟨p + 1, 0, 0, 0⟩] 0 rfl #[.int .i64 ((p : Int) + 1), .int .i64 0, .int .i64 0, .int .i64 0] (by simp [encBd]) (by unfold maxLen; omega) (by omega) (by omega); clear hx)
      go_roundw
      case rel => exact ⟨p + 1, by omega, by simp, by rw [Pl.natA_succ, show ∀ l : List Pl.Bd, l ++ [⟨0, p + 1, 100000, 0⟩, ⟨p + 1, 0, 0, 0⟩] = (l ++ [⟨0, p + 1, 100000, 0⟩]) ++ [⟨p + 1, 0, 0, 0⟩] from fun l => by simp]; exact hown4, (hb4.block w.heap.size (by omega)).trans ((hb3.block w.heap.size (by omega)).trans kb), hall.trans ((hb3.mono (by omega)).trans (hb4.mono (by omega)))⟩
      case measure => first | (simp [intOf]; done) | (simp [intOf]; omega)
    · obtain rfl : p = N := by omega
      go_wp2_with (go_at_call 46; refine (PointsB_h A1 A2 A3 A4 c1 c2 c3 c4 f (1 + (p : Int)) _ HP (hf.up (by go_grown)) hm hc).mono ?_; rintro e w2 ⟨rfl, hx⟩; have kb := (hx.block (w.heap.size) (by first | exact (Array.getElem?_eq_some_iff.1 kb).1 | omega | (simp; done) | (simp; omega))).trans (by first | exact kb | exact (Below.heap_alloc _ _ _ (Array.getElem?_eq_some_iff.1 kb).1).trans kb); obtain ⟨hckb, hfkb⟩ := blk_cells kb; have hltkb := (Array.getElem?_eq_some_iff.1 kb).1; have hall : Below w.heap.size w w2 := Below.trans (by go_grown) (hx.mono (by go_size)); have hsz : w.heap.size ≤ w2.heap.size := hall.size; have h0 : Below wr.heap.size wr w2 := Below.trans (by go_grown) (hx.mono (by go_size)); have hown := own_below hown h0; clear hx)
      clear hckb hfkb hltkb
      obtain ⟨hckb, hfkb⟩ := blk_cells kb
      go_loopw [5, 7] (fun o i wr => ∃ (l k : Nat), l + 1 ≤ f.li.length ∧ i = .int .i64 l ∧ k ≤ 240 + 12 * l ∧ wr.ownsRow (w.heap.size + 1) 99 4 o k ((Pl.natA p ++ Pl.natB f.st.length l).flatMap encBd) ∧ wr.heap[w.heap.size]? = some (.cells #[.slice A1 f.st.length c1, .slice A2 f.li.length c2, .slice A3 f.pa.length c3, .slice A4 f.va.length c4] 28 (0, 0)) ∧ Below w.heap.size w wr) (fun _ i _ => f.li.length - (intOf i).toNat)
      case atStart => exact ⟨0, 2 * p, by omega, rfl, by omega, by simpa [Pl.natB] using hown, kb, hall⟩
      case round =>
        clear kb hckb hfkb hall hsz
        obtain ⟨l, k, hl, rfl, hk, hown, kb, hall⟩ := hrel
        obtain ⟨hckb, hfkb⟩ := blk_cells kb
        have hltkb := (Array.getElem?_eq_some_iff.1 kb).1
        have hsz := hall.size
        have e2 : IntKind.i64.wrap ((l : Int) + 1) = (l : Int) + 1 := IntWalk.i64_in _ (by omega)
        by_cases hlt : l + 1 < f.li.length
        · have e1 : (l : Int) + 1 < (f.li.length : Int) := by omega
          go_wp2
          go_loopw [5, 8] (fun o i wr => ∃ (s k : Nat), s ≤ f.st.length ∧ i = .int .i64 s ∧ k ≤ 240 + 12 * l + s ∧ wr.ownsRow (w.heap.size + 1) 99 4 o k ((Pl.natA p ++ (Pl.natB f.st.length l ++ Pl.natC f.st.length l s)).flatMap encBd) ∧ wr.heap[w.heap.size]? = some (.cells #[.slice A1 f.st.length c1, .slice A2 f.li.length c2, .slice A3 f.pa.length c3, .slice A4 f.va.length c4] 28 (0, 0)) ∧ Below w.heap.size w wr) (fun _ i _ => f.st.length - (intOf i).toNat)
          case atStart => exact ⟨0, k, by omega, rfl, by omega, by simpa [Pl.natC] using hown, kb, hall⟩
          case round =>
            clear kb hckb hfkb hltkb hall hsz
            obtain ⟨s, k, hs, rfl, hk, hown, kb, hall⟩ := hrel
            obtain ⟨hckb, hfkb⟩ := blk_cells kb
            have hltkb := (Array.getElem?_eq_some_iff.1 kb).1
            have hsz := hall.size
            by_cases hlts : s < f.st.length
            · have HX : Hid ((((Pl.pointN f.st.length (l + 1) s : Nat) : Int) = 1 + ((l : Int) + 1) * (f.st.length : Int) + s) ∧ (((Pl.pointN f.st.length l s : Nat) : Int) = 1 + (l : Int) * (f.st.length : Int) + s)) := Lib.hid (by unfold Pl.pointN; simp)
              have hn1 : w.heap.size + 1 ≤ wr.heap.size := hltkb
              have HC := fun W (hW : Below wr.heap.size wr W) => app_one (w1 := W) ⟨Pl.pointN f.st.length (l + 1) s, Pl.pointN f.st.length l s, 0, 0⟩ (own_below hown hW) (by omega) (Nat.le_trans hn1 hW.size) _ _ HX.out.1 HX.out.2 rfl rfl
              go_wp2
              go_region_held3 (fun W => ∀ j, W.cell? ⟨w.heap.size, j, none⟩ = (#[.slice A1 f.st.length c1, .slice A2 f.li.length c2, .slice A3 f.pa.length c3, .slice A4 f.va.length c4] : Array Value)[j]?) (first | exact hckb | exact hckb3 | exact fun j => (World.cell?_of_block (Below.heap_alloc _ _ _ hltkb)).trans (hckb j)) (first
                | (go_at_call 111; refine (point_b A1 A2 A3 A4 c1 c2 c3 c4 f _ _ _ (by omega) (by omega) (by omega) (by omega) (by omega)).mono ?_; rintro e w2 ⟨rfl, hx⟩; have kb := (hx.block (w.heap.size) (by first | exact (Array.getElem?_eq_some_iff.1 kb).1 | omega | (simp; done) | (simp; omega))).trans (by first | exact kb | exact (Below.heap_alloc _ _ _ (Array.getElem?_eq_some_iff.1 kb).1).trans kb); obtain ⟨hckb, hfkb⟩ := blk_cells kb; have hltkb := (Array.getElem?_eq_some_iff.1 kb).1; have hall : Below w.heap.size w w2 := Below.trans (by go_grown) (hx.mono (by go_size)); have hsz : w.heap.size ≤ w2.heap.size := hall.size; have h0 : Below wr.heap.size wr w2 := Below.trans (by go_grown) (hx.mono (by go_size)); obtain ⟨g', cap', w3, hrun, hown3, hb3⟩ := HC w2 h0; have hs0 := h0.size; have kb3 := (hb3.block w.heap.size (by omega)).trans kb; obtain ⟨hckb3, hfkb3⟩ := blk_cells kb3; clear hx))
              all_goals go_wp2
              all_goals exact ⟨⟨s + 1, k + 1, by omega, by simp, by omega, by rw [Pl.natC_succ, ← List.append_assoc, ← List.append_assoc]; rw [← List.append_assoc] at hown3; exact hown3, kb3, hall.trans (hb3.mono (by omega))⟩, by simp [intOf]; omega⟩
            · obtain rfl : s = f.st.length := by omega
              rw [← Pl.natB_succ] at hown
              go_wp2
              exact ⟨⟨l + 1, k, by omega, by simp, by omega, hown, kb, hall⟩, by simp [intOf]; omega⟩
        · have hle : Hid (l = f.li.length - 1) := Lib.hid (by omega)
          have hnat : Hid (Pl.natA p ++ Pl.natB f.st.length l = Pl.nature f.st.length f.li.length) := Lib.hid (by rw [Pl.nature_eq, HM.out, hle.out])
          rw [hnat.out] at hown
          obtain rfl := own_count lay_bd hown
          obtain ⟨A', c', hv, hN, hc', hF⟩ := own_seg lay_bd hown
          subst hv
          have e1 : ¬ (l : Int) + 1 < (f.li.length : Int) := by omega
          go_wp2
          go_ret2
          exact ⟨A', c', rfl, hN, hc', fun a ha => Nat.le_of_succ_le (hF a ha), hall⟩
set_option maxRecDepth 100000 in
theorem NatureB_no (A1 A2 A3 A4 : Option Addr) (c1 c2 c3 c4 : Nat) (f : Pl.Fld) (E : Int) (w : World) (hf : FldS w w.heap.size A1 A2 A3 A4 f) (hm : Small f) (hc : Caps c1 c2 c3 c4 f) (h : Hid (Pl.fieldE f = E)) (h0 : E ≠ 0) :
    Calls Tryz.prog 42 #[.agg #[.slice A1 f.st.length c1, .slice A2 f.li.length c2, .slice A3 f.pa.length c3, .slice A4 f.va.length c4]] w (EndBd [] E w) := by
  have kb := heap_alloc_new w (.cells #[.slice A1 f.st.length c1, .slice A2 f.li.length c2, .slice A3 f.pa.length c3, .slice A4 f.va.length c4] 28)
  have q0 : (E != 0) = true := by simpa using h0
  go_enter Tryz.func42, Tryz.ntmps42
  go_wp2_with (go_at_call 43; refine (checkFieldB_h A1 A2 A3 A4 c1 c2 c3 c4 f E _ h (hf.up (by go_grown)) hm hc).mono ?_; rintro e w1 ⟨rfl, hx⟩; have kb := (hx.block (w.heap.size) (by first | exact (Array.getElem?_eq_some_iff.1 kb).1 | omega | (simp; done) | (simp; omega))).trans (by first | exact kb | exact (Below.heap_alloc _ _ _ (Array.getElem?_eq_some_iff.1 kb).1).trans kb); obtain ⟨hckb, hfkb⟩ := blk_cells kb; have hltkb := (Array.getElem?_eq_some_iff.1 kb).1; have hall : Below w.heap.size w w1 := Below.trans (by go_grown) (hx.mono (by go_size)); have hsz : w.heap.size ≤ w1.heap.size := hall.size; clear hx)
  go_ret2
  exact ⟨none, 0, rfl, .inl rfl, Nat.le_refl _, (fun a ha => by cases ha), hall⟩
end Go.Proofs.YtgbpekeoegfjpaaGreatDoor
