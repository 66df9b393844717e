/- Walk: vast. -/
import Derived.Test.YtgbpekeoegfjpaaGreatDoorProg
import Derived.WalkKit
import Derived.WalkLawsBesides
import Derived.WalkSpells
import Derived.Handy
import Derived.Lib.Hide
import Derived.Great.BuildSlice
import Derived.Deep.QuietTactic
import Derived.BigQuiet
import Derived.Deep.RegionHeld3
import Derived.Deep.DeepCutAuto
import Derived.Test.YtgbpekeoegfjpaaGreatDoorM24
namespace Go.Proofs.YtgbpekeoegfjpaaGreatDoor
open Go.RowKit

/-- A field that the laws do not ask about. -/
def Pl.vast (f : Pl.Fld) : Bool := (decide (20 < f.st.length) || decide (20 < f.li.length) || decide (60 < f.pa.length) || decide (60 < f.va.length)) || (f.st.any (fun s => decide (100 < s.1.size)) || f.li.any (fun s => decide (100 < s.size)) || f.pa.any (fun p => decide (100 < p.name.size)))
set_option maxRecDepth 100000 in
set_option maxHeartbeats 2000000 in
theorem vast_many (A1 A2 A3 A4 : Option Addr) (c1 c2 c3 c4 : Nat) (f : Pl.Fld) (w : World) (h : 20 < f.st.length ∨ 20 < f.li.length ∨ 60 < f.pa.length ∨ 60 < f.va.length) :
    Calls Tryz.prog 23 #[.agg #[.slice A1 f.st.length c1, .slice A2 f.li.length c2, .slice A3 f.pa.length c3, .slice A4 f.va.length c4]] w fun e w' => e = .returned (.bool (Pl.vast f)) ∧ Below w.heap.size w w' := by
  have hv : Hid (Pl.vast f = true) := Lib.hid (by unfold Pl.vast; simp; omega)
  by_cases h1 : 20 < f.st.length
  · have e1 : (20 : Int) < (f.st.length : Int) := by omega
    go_enter Tryz.func23, Tryz.ntmps23
    go_wp2
    go_ret
    exact ⟨ret_bool hv.out.symm, by go_grown⟩
  have n1 : ¬ (20 : Int) < (f.st.length : Int) := by omega
  by_cases h2 : 20 < f.li.length
  · have e1 : (20 : Int) < (f.li.length : Int) := by omega
    go_enter Tryz.func23, Tryz.ntmps23
    go_wp2
    go_ret
    exact ⟨ret_bool hv.out.symm, by go_grown⟩
  have n2 : ¬ (20 : Int) < (f.li.length : Int) := by omega
  by_cases h3 : 60 < f.pa.length
  · have e1 : (60 : Int) < (f.pa.length : Int) := by omega
    go_enter Tryz.func23, Tryz.ntmps23
    go_wp2
    go_ret
    exact ⟨ret_bool hv.out.symm, by go_grown⟩
  have n3 : ¬ (60 : Int) < (f.pa.length : Int) := by omega
  · have e1 : (60 : Int) < (f.va.length : Int) := by omega
    go_enter Tryz.func23, Tryz.ntmps23
    go_wp2
    go_ret
    exact ⟨ret_bool hv.out.symm, by go_grown⟩
set_option maxRecDepth 100000 in
set_option maxHeartbeats 4000000 in
theorem vast_few (A1 A2 A3 A4 : Option Addr) (c1 c2 c3 c4 : Nat) (f : Pl.Fld) (w : World) (hf : FldS w w.heap.size A1 A2 A3 A4 f) (h1 : f.st.length ≤ 20) (h2 : f.li.length ≤ 20) (h3 : f.pa.length ≤ 60) (h4 : f.va.length ≤ 60) :
    Calls Tryz.prog 23 #[.agg #[.slice A1 f.st.length c1, .slice A2 f.li.length c2, .slice A3 f.pa.length c3, .slice A4 f.va.length c4]] w fun e w' => e = .returned (.bool (Pl.vast f)) ∧ Below w.heap.size w w' := by
  have n1 : ¬ (20 : Int) < (f.st.length : Int) := by omega
  have n2 : ¬ (20 : Int) < (f.li.length : Int) := by omega
  have n3 : ¬ (60 : Int) < (f.pa.length : Int) := by omega
  have n4 : ¬ (60 : Int) < (f.va.length : Int) := by omega
  have kb := heap_alloc_new w (.cells #[.slice A1 f.st.length c1, .slice A2 f.li.length c2, .slice A3 f.pa.length c3, .slice A4 f.va.length c4] 28)
  have hall : Below w.heap.size w (w.alloc (.cells #[.slice A1 f.st.length c1, .slice A2 f.li.length c2, .slice A3 f.pa.length c3, .slice A4 f.va.length c4] 28)) := by go_grown
  go_enter Tryz.func23, Tryz.ntmps23
  go_wp2
  go_loopw [3] (fun p wr => ∃ k : Nat, k ≤ f.st.length ∧ p = .int .i64 k ∧ (∀ s ∈ f.st.take k, s.1.size ≤ 100) ∧ wr.heap[w.heap.size]? = some (.cells #[.slice A1 f.st.length c1, .slice A2 f.li.length c2, .slice A3 f.pa.length c3, .slice A4 f.va.length c4] 28 (0, 0)) ∧ Below w.heap.size w wr) (fun p _ => f.st.length - (intOf p).toNat)
  case atStart => exact ⟨0, by omega, rfl, by simp, kb, hall⟩
  clear kb hall
  case round =>
    obtain ⟨k, hk, rfl, hs, kb, hb1⟩ := hrel
    obtain ⟨hckb, hfkb⟩ := blk_cells kb
    by_cases hlt : k < f.st.length
    · obtain ⟨b, off, rfl, hbB, q0, q1⟩ := Stas.at2 (hf.st.below hb1) hlt
      by_cases hz : 100 < f.st[k].1.size
      · have hv : Hid (Pl.vast f = true) := Lib.hid (by unfold Pl.vast; simp only [Bool.or_eq_true, List.any_eq_true, decide_eq_true_eq]; exact .inr (.inl (.inl ⟨_, List.getElem_mem hlt, hz⟩)))
        go_wp2
        go_ret
        exact ⟨ret_bool hv.out.symm, hb1⟩
      · go_wp2
        go_roundw
        case rel => exact ⟨k + 1, by omega, by go_num, by intro s hs'; rw [List.take_succ_eq_append_getElem hlt, List.mem_append] at hs'; rcases hs' with h | h; exact hs _ h; simp at h; subst h; omega, kb, hb1⟩
        case measure => first | (simp [intOf]; done) | (simp [intOf]; omega)
    · obtain rfl : k = f.st.length := by omega
      go_wp2
      go_loopw [4] (fun p wr => ∃ k : Nat, k ≤ f.li.length ∧ p = .int .i64 k ∧ (∀ s ∈ f.li.take k, s.size ≤ 100) ∧ wr.heap[w.heap.size]? = some (.cells #[.slice A1 f.st.length c1, .slice A2 f.li.length c2, .slice A3 f.pa.length c3, .slice A4 f.va.length c4] 28 (0, 0)) ∧ Below w.heap.size w wr) (fun p _ => f.li.length - (intOf p).toNat)
      case atStart => exact ⟨0, by omega, rfl, by simp, kb, hb1⟩
      case round =>
        clear hckb hfkb kb hb1
        obtain ⟨k, hk, rfl, hs2, kb, hb1⟩ := hrel
        obtain ⟨hckb, hfkb⟩ := blk_cells kb
        by_cases hlt : k < f.li.length
        · obtain ⟨b, off, rfl, hbB, q0⟩ := Nms.at1 (hf.li.below hb1) hlt
          by_cases hz : 100 < f.li[k].size
          · have hv : Hid (Pl.vast f = true) := Lib.hid (by unfold Pl.vast; simp only [Bool.or_eq_true, List.any_eq_true, decide_eq_true_eq]; exact .inr (.inl (.inr ⟨_, List.getElem_mem hlt, hz⟩)))
            go_wp2
            go_ret
            exact ⟨ret_bool hv.out.symm, hb1⟩
          · go_wp2
            go_roundw
            case rel => exact ⟨k + 1, by omega, by go_num, by intro s hs'; rw [List.take_succ_eq_append_getElem hlt, List.mem_append] at hs'; rcases hs' with h | h; exact hs2 _ h; simp at h; subst h; omega, kb, hb1⟩
            case measure => first | (simp [intOf]; done) | (simp [intOf]; omega)
        · obtain rfl : k = f.li.length := by omega
          go_wp2
          go_loopw [5] (fun p wr => ∃ k : Nat, k ≤ f.pa.length ∧ p = .int .i64 k ∧ (∀ s ∈ f.pa.take k, s.name.size ≤ 100) ∧ wr.heap[w.heap.size]? = some (.cells #[.slice A1 f.st.length c1, .slice A2 f.li.length c2, .slice A3 f.pa.length c3, .slice A4 f.va.length c4] 28 (0, 0)) ∧ Below w.heap.size w wr) (fun p _ => f.pa.length - (intOf p).toNat)
          case atStart => exact ⟨0, by omega, rfl, by simp, kb, hb1⟩
          case round =>
            clear hckb hfkb kb hb1
            obtain ⟨k, hk, rfl, hs3, kb, hb1⟩ := hrel
            obtain ⟨hckb, hfkb⟩ := blk_cells kb
            by_cases hlt : k < f.pa.length
            · obtain ⟨b, off, rfl, hbB, q0, q1, q2, q3⟩ := Pars.at4 (hf.pa.below hb1) hlt
              by_cases hz : 100 < f.pa[k].name.size
              · have hv : Hid (Pl.vast f = true) := Lib.hid (by unfold Pl.vast; simp only [Bool.or_eq_true, List.any_eq_true, decide_eq_true_eq]; exact .inr (.inr ⟨_, List.getElem_mem hlt, hz⟩))
                go_wp2
                go_ret
                exact ⟨ret_bool hv.out.symm, hb1⟩
              · go_wp2
                go_roundw
                case rel => exact ⟨k + 1, by omega, by go_num, by intro s hs'; rw [List.take_succ_eq_append_getElem hlt, List.mem_append] at hs'; rcases hs' with h | h; exact hs3 _ h; simp at h; subst h; omega, kb, hb1⟩
                case measure => first | (simp [intOf]; done) | (simp [intOf]; omega)
            · obtain rfl : k = f.pa.length := by omega
              rw [List.take_length] at hs hs2 hs3
              have hv : Hid (Pl.vast f = false) := Lib.hid (by
                unfold Pl.vast
                simp only [Bool.or_eq_false_iff, List.any_eq_false, decide_eq_true_eq, decide_eq_false_iff_not]
                exact ⟨⟨⟨⟨by omega, by omega⟩, by omega⟩, by omega⟩, ⟨fun s hs' => by have := hs s hs'; omega, fun s hs' => by have := hs2 s hs'; omega⟩, fun s hs' => by have := hs3 s hs'; omega⟩)
              go_wp2
              go_ret
              exact ⟨ret_bool hv.out.symm, hb1⟩
end Go.Proofs.YtgbpekeoegfjpaaGreatDoor
