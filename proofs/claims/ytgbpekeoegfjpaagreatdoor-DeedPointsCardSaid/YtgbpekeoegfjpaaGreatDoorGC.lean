/- Walk of the reference: CheckField. -/
import Derived.Test.YtgbpekeoegfjpaaGreatDoorProg
import Derived.WalkKit
import Derived.WalkLawsBesides
import Derived.WalkSpells
import Derived.Handy
import Derived.Lib.Hide
import Derived.Great.BuildSlice
import Derived.Deep.QuietTactic
import Derived.BigQuiet
import Derived.Deep.RegionHeld3
import Derived.Deep.DeepCutAuto
import Derived.Test.YtgbpekeoegfjpaaGreatDoorGA
import Derived.Test.YtgbpekeoegfjpaaGreatDoorGB
namespace Go.Proofs.YtgbpekeoegfjpaaGreatDoor
open Go.RowKit

namespace Pl
theorem idx_le {α : Type} {p : α → Bool} : ∀ {l : List α} {j : Nat} (hj : j < l.length), p l[j] = true → ∃ m, m ≤ j ∧ idx p l = some m
  | a :: l, j, hj, hp => by
    unfold idx
    cases h : p a with
    | true => exact ⟨0, by omega, by simp⟩
    | false =>
      cases j with
      | zero => simp only [List.getElem_cons_zero] at hp; rw [hp] at h; cases h
      | succ j =>
        obtain ⟨m, hm, he⟩ := idx_le (l := l) (j := j) (by simpa using hj) (by simpa using hp)
        exact ⟨m + 1, by omega, by simp [he]⟩
theorem place_lt {l : List ByteArray} {i : Nat} (h : i < l.length) (hm : l[i] ∈ l.take i) : pos (idx (fun x => decide (x = l[i])) l) < (i : Int) := by
  obtain ⟨j, hj, hjk⟩ := List.mem_take_iff_getElem.1 hm
  obtain ⟨m, hm, he⟩ := idx_le (p := fun x => decide (x = l[i])) (l := l) (j := j) (by omega) (by simpa using hjk)
  rw [he]
  show ((m : Nat) : Int) < (i : Int)
  omega
theorem place_eq {l : List ByteArray} {i : Nat} (h : i < l.length) (hm : l[i] ∉ l.take i) : pos (idx (fun x => decide (x = l[i])) l) = (i : Int) := by
  rw [idx_hit (p := fun x => decide (x = l[i])) h (fun j hj => decide_eq_false fun e => hm (List.mem_take_iff_getElem.2 ⟨j, by omega, e⟩)) (by simp)]
  rfl
theorem nms_all {f : Fld} {P : List ByteArray → Prop} (h : ∀ k, k < 3 → P (nms f k)) : P f.sn ∧ P f.li ∧ P f.pn := ⟨h 0 (by omega), h 1 (by omega), h 2 (by omega)⟩
theorem nms_one {f : Fld} {P : List ByteArray → Prop} {k : Nat} (hk : k < 3) (h : P (nms f k)) : P f.sn ∨ P f.li ∨ P f.pn := by
  match k, hk with
  | 0, _ => exact .inl h
  | 1, _ => exact .inr (.inl h)
  | 2, _ => exact .inr (.inr h)
theorem nms_N4 {f : Fld} (h : ∀ k, k < 3 → (nms f k).all isName = true) : f.N4 := by
  obtain ⟨a, b, c⟩ := nms_all (P := fun l => l.all isName = true) h
  unfold Fld.N4; rw [a, b, c]; rfl
theorem nms_N4_no {f : Fld} {k j : Nat} (hk : k < 3) (hj : j < (nms f k).length) (h : isName (nms f k)[j] = false) : ¬ f.N4 := by
  have hall : (nms f k).all isName = false := by
    rw [List.all_eq_false]; exact ⟨_, List.getElem_mem hj, by simp [h]⟩
  unfold Fld.N4
  rcases nms_one (P := fun l => l.all isName = false) hk hall with e | e | e <;> rw [e] <;> simp
theorem nms_N5 {f : Fld} (h : ∀ k, k < 3 → twice (nms f k) = false) : f.N5 := by
  obtain ⟨a, b, c⟩ := nms_all (P := fun l => twice l = false) h
  unfold Fld.N5; rw [a, b, c]; rfl
theorem nms_N5_no {f : Fld} {k : Nat} (hk : k < 3) (h : twice (nms f k) = true) : ¬ f.N5 := by
  unfold Fld.N5
  rcases nms_one (P := fun l => twice l = true) hk h with e | e | e <;> rw [e] <;> simp
end Pl
theorem nms_size {f : Pl.Fld} (hm : Small f) {k : Nat} : ∀ s ∈ Pl.nms f k, s.size ≤ 100000 := by
  intro s hs
  unfold Pl.nms at hs
  split at hs
  · obtain ⟨x, hx, rfl⟩ := List.mem_map.1 hs; exact hm.sn x hx
  · split at hs
    · exact hm.ln s hs
    · obtain ⟨x, hx, rfl⟩ := List.mem_map.1 hs; exact hm.pn x hx
theorem nms_len {f : Pl.Fld} (hm : Small f) {k : Nat} : (Pl.nms f k).length ≤ 100000 := by
  unfold Pl.nms
  split
  · unfold Pl.Fld.sn; simp; exact hm.st
  · split
    · exact hm.li
    · unfold Pl.Fld.pn; simp; exact hm.pa
set_option maxRecDepth 100000 in
set_option maxHeartbeats 8000000 in
theorem checkFieldB_rest (A1 A2 A3 A4 : Option Addr) (c1 c2 c3 c4 : Nat) (f : Pl.Fld) (w : World) (hf : FldS w w.heap.size A1 A2 A3 A4 f) (hm : Small f) (hc : Caps c1 c2 c3 c4 f) (h1 : f.N1) (h2 : f.N2) (h3 : Pl.vars f.va = 0) :
    Calls Tryz.prog 43 #[.agg #[.slice A1 f.st.length c1, .slice A2 f.li.length c2, .slice A3 f.pa.length c3, .slice A4 f.va.length c4]] w fun e w' => e = .returned (.int .i64 (Pl.fieldE f)) ∧ Below w.heap.size w w' := by
  have h1' : f.st.length ≤ 12 ∧ f.li.length ≤ 10 ∧ f.pa.length ≤ 40 := by unfold Pl.Fld.N1 at h1; omega
  have h2' : 2 ≤ f.st.length ∧ 1 ≤ f.li.length := by unfold Pl.Fld.N2 at h2; omega
  obtain ⟨k1, k2, k3⟩ := h1'
  obtain ⟨k4, k5⟩ := h2'
  have hml : f.va.length ≤ maxLen := by have := hm.va; unfold maxLen; omega
  have H1 := Lib.hid h1; have H2 := Lib.hid h2; have H3 := Lib.hid h3
  clear h1 h2 h3
  have vb := fun W (a : Vars W W.heap.size A4 f.va) => vars_b A4 c4 f.va W a hml
  rw [H3.out] at vb
  have kb := heap_alloc_new w (.cells #[.slice A1 f.st.length c1, .slice A2 f.li.length c2, .slice A3 f.pa.length c3, .slice A4 f.va.length c4] 28)
  go_enter Tryz.func43, Tryz.ntmps43
  go_wp2_with (go_at_call 112; refine (vb _ (hf.va.up (by go_grown))).mono ?_; rintro e w1 ⟨rfl, hx⟩; have kb := (hx.block (w.heap.size) (by first | exact (Array.getElem?_eq_some_iff.1 kb).1 | omega | (simp; done) | (simp; omega))).trans (by first | exact kb | exact (Below.heap_alloc _ _ _ (Array.getElem?_eq_some_iff.1 kb).1).trans kb); obtain ⟨hckb, hfkb⟩ := blk_cells kb; have hltkb := (Array.getElem?_eq_some_iff.1 kb).1; have hall : Below w.heap.size w w1 := Below.trans (by go_grown) (hx.mono (by go_size)); have hsz : w.heap.size ≤ w1.heap.size := hall.size; clear hx)
  clear vb
  go_loopw [4] (fun z wr => ∃ (k : Nat), k ≤ 3 ∧ z = .int .i64 k ∧ Hid (∀ j, j < k → (Pl.nms f j).all Pl.isName = true) ∧ wr.heap[w.heap.size]? = some (.cells #[.slice A1 f.st.length c1, .slice A2 f.li.length c2, .slice A3 f.pa.length c3, .slice A4 f.va.length c4] 28 (0, 0)) ∧ Below w.heap.size w wr) (fun z _ => 3 - (intOf z).toNat)
  case atStart => exact ⟨0, by omega, rfl, Lib.hid fun j h => by omega, kb, by go_grown⟩
  case round =>
    clear kb hckb hfkb hltkb hall hsz
    obtain ⟨k, hk, rfl, hg, kb, hall⟩ := hrel
    obtain ⟨hckb, hfkb⟩ := blk_cells kb
    have hltkb := (Array.getElem?_eq_some_iff.1 kb).1
    have hsz := hall.size
    by_cases hlt : k < 3
    · have g1 : (k : Int) < 3 := by omega
      go_wp2_with (go_at_call 113; refine (names_b A1 A2 A3 A4 c1 c2 c3 c4 f k hlt _ (hf.up hall) hm).mono ?_; rintro e w2 ⟨B, d, rfl, hN, hd, hF, hx⟩; have kb2 := (hx.block w.heap.size hltkb).trans kb; have hall2 : Below w.heap.size w w2 := hall.trans (hx.mono hsz))
      have hnl := nms_len (k := k) hm
      go_loopw [6] (fun z W => ∃ (i : Nat), i ≤ (Pl.nms f k).length ∧ z = .int .i64 i ∧ Hid (∀ j (h : j < (Pl.nms f k).length), j < i → Pl.isName (Pl.nms f k)[j] = true) ∧ w2 = W) (fun z _ => (Pl.nms f k).length - (intOf z).toNat)
      case atStart => exact ⟨0, by omega, rfl, Lib.hid fun j _ h => by omega, rfl⟩
      case round =>
        obtain ⟨i, hi, rfl, hq, rfl⟩ := hrel
        by_cases hlti : i < (Pl.nms f k).length
        · obtain ⟨b, off, rfl, hbB, q0⟩ := Nms.at1 hN hlti
          have hsz1 := nms_size hm _ (List.getElem_mem hlti)
          cases hb : Pl.isName (Pl.nms f k)[i] with
          | true =>
            have HB := Lib.hid hb
            have ib := fun W => isName_b (Pl.nms f k)[i] W hsz1
            rw [hb] at ib
            clear hb
            go_wp2_with (go_at_call 114; refine (ib _).mono ?_; rintro e w3 ⟨rfl, rfl⟩)
            go_roundw
            case rel => exact ⟨i + 1, by omega, by go_num, Lib.hid fun j h hj => by
              by_cases e : j = i
              · subst e; exact HB.out
              · exact hq.out j h (by omega), by trivial⟩
            case measure => first | (simp [intOf]; done) | (simp [intOf]; omega)
          | false =>
            have hE := Lib.hid (Pl.fieldE_4 H1.out H2.out H3.out (Pl.nms_N4_no hlt hlti hb))
            have ib := fun W => isName_b (Pl.nms f k)[i] W hsz1
            rw [hb] at ib
            clear hb
            go_wp2_with (go_at_call 114; refine (ib _).mono ?_; rintro e w3 ⟨rfl, rfl⟩)
            go_ret
            exact ⟨ret_int (by rw [hE.out]), hall2⟩
        · have hn : Hid ((Pl.nms f k).all Pl.isName = true) := Lib.hid (by
            rw [List.all_eq_true]; intro s hs
            obtain ⟨j, hj, rfl⟩ := List.getElem_of_mem hs
            exact hq.out j hj (by omega))
          have hn2 : Hid (∀ j, j < k + 1 → (Pl.nms f j).all Pl.isName = true) := Lib.hid fun j hj => by
            by_cases e : j = k
            · subst e; exact hn.out
            · exact hg.out j (by omega)
          go_wp2
          exact ⟨⟨k + 1, by omega, by go_num, hn2, kb2, hall2⟩, by simp [intOf]; omega⟩
    · have g3 : ¬ (k : Int) < 3 := by omega
      have N4 := Lib.hid (Pl.nms_N4 (f := f) fun j hj => hg.out j (by omega))
      clear hg
      go_wp2
      go_loopw [7] (fun z wr => ∃ (k : Nat), k ≤ 3 ∧ z = .int .i64 k ∧ Hid (∀ j, j < k → Pl.twice (Pl.nms f j) = false) ∧ wr.heap[w.heap.size]? = some (.cells #[.slice A1 f.st.length c1, .slice A2 f.li.length c2, .slice A3 f.pa.length c3, .slice A4 f.va.length c4] 28 (0, 0)) ∧ Below w.heap.size w wr) (fun z _ => 3 - (intOf z).toNat)
      case atStart => exact ⟨0, by omega, rfl, Lib.hid fun j h => by omega, kb, by go_grown⟩
      case round =>
        clear kb hckb hfkb hltkb hall hsz
        obtain ⟨k, hk, rfl, hg, kb, hall⟩ := hrel
        obtain ⟨hckb, hfkb⟩ := blk_cells kb
        have hltkb := (Array.getElem?_eq_some_iff.1 kb).1
        have hsz := hall.size
        by_cases hlt : k < 3
        · have g1 : (k : Int) < 3 := by omega
          go_wp2_with (go_at_call 113; refine (names_b A1 A2 A3 A4 c1 c2 c3 c4 f k hlt _ (hf.up hall) hm).mono ?_; rintro e w2 ⟨B, d, rfl, hN, hd, hF, hx⟩; have kb2 := (hx.block w.heap.size hltkb).trans kb; have hall2 : Below w.heap.size w w2 := hall.trans (hx.mono hsz))
          have hnl := nms_len (k := k) hm
          go_loopw [9] (fun z W => ∃ (i : Nat), i ≤ (Pl.nms f k).length ∧ z = .int .i64 i ∧ Hid (∀ j (h : j < (Pl.nms f k).length), j < i → (Pl.nms f k)[j] ∉ (Pl.nms f k).take j) ∧ w2 = W) (fun z _ => (Pl.nms f k).length - (intOf z).toNat)
          case atStart => exact ⟨0, by omega, rfl, Lib.hid fun j _ h => by omega, rfl⟩
          case round =>
            obtain ⟨i, hi, rfl, hq, rfl⟩ := hrel
            by_cases hlti : i < (Pl.nms f k).length
            · have pb := fun W (a : Nms W W.heap.size B (Pl.nms f k)) => place_b B d (Pl.nms f k) (Pl.nms f k)[i] W a (by have := nms_len (k := k) hm; omega)
              obtain ⟨P, hP⟩ : ∃ P, Pl.pos (Pl.idx (fun x => decide (x = (Pl.nms f k)[i])) (Pl.nms f k)) = P := ⟨_, rfl⟩
              rw [hP] at pb
              obtain ⟨b, off, hB, hbB, q0⟩ := Nms.at1 hN hlti
              have hN' := hN
              subst hB
              by_cases hmem : (Pl.nms f k)[i] ∈ (Pl.nms f k).take i
              · have hE := Lib.hid (Pl.fieldE_6 H1.out H2.out H3.out N4.out (Pl.nms_N5_no hlt (Pl.twice_hit hlti hmem)))
                have hPi : P < (i : Int) := by rw [← hP]; exact Pl.place_lt hlti hmem
                clear hmem hP
                go_wp2_with (go_at_call 115; refine (pb _ hN').mono ?_; rintro e w3 ⟨rfl, rfl⟩)
                go_ret
                exact ⟨ret_int (by rw [hE.out]), hall2⟩
              · have hPi : ¬ P < (i : Int) := by rw [← hP, Pl.place_eq hlti hmem]; omega
                have HM := Lib.hid hmem
                clear hmem hP
                go_wp2_with (go_at_call 115; refine (pb _ hN').mono ?_; rintro e w3 ⟨rfl, rfl⟩)
                go_roundw
                case rel => exact ⟨i + 1, by omega, by go_num, Lib.hid fun j h hj => by
                  by_cases e : j = i
                  · subst e; exact HM.out
                  · exact hq.out j h (by omega), by trivial⟩
                case measure => first | (simp [intOf]; done) | (simp [intOf]; omega)
            · have hn := Lib.hid (Pl.twice_none (l := Pl.nms f k) fun j hj => hq.out j hj (by omega))
              have hn2 : Hid (∀ j, j < k + 1 → Pl.twice (Pl.nms f j) = false) := Lib.hid fun j hj => by
                by_cases e : j = k
                · subst e; exact hn.out
                · exact hg.out j (by omega)
              go_wp2
              exact ⟨⟨k + 1, by omega, by go_num, hn2, kb2, hall2⟩, by simp [intOf]; omega⟩
        · have g4 : ¬ (k : Int) < 3 := by omega
          have N5 := Lib.hid (Pl.nms_N5 (f := f) fun j hj => hg.out j (by omega))
          clear hg
          go_wp2
          go_loopw [10] (fun z wr => ∃ (k : Nat), k ≤ f.st.length ∧ z = .int .i64 k ∧ Hid (∀ j (h : j < f.st.length), j < k → 0 ≤ f.st[j].2 ∧ f.st[j].2 ≤ 100000) ∧ wr.heap[w.heap.size]? = some (.cells #[.slice A1 f.st.length c1, .slice A2 f.li.length c2, .slice A3 f.pa.length c3, .slice A4 f.va.length c4] 28 (0, 0)) ∧ Below w.heap.size w wr) (fun z _ => f.st.length - (intOf z).toNat)
          case atStart => exact ⟨0, by omega, rfl, Lib.hid fun j _ h => by omega, kb, hall⟩
          case round =>
            clear kb hckb hfkb hltkb hall hsz
            obtain ⟨k, hk, rfl, hg, kb, hall⟩ := hrel
            obtain ⟨hckb, hfkb⟩ := blk_cells kb
            have hltkb := (Array.getElem?_eq_some_iff.1 kb).1
            have hsz := hall.size
            by_cases hlt : k < f.st.length
            · obtain ⟨b, off, rfl, hbB, q0, q1⟩ := Stas.at2 (hf.st.below hall) hlt
              cases hin : Pl.inB f.st[k].2 0 100000 with
              | true =>
                have hok : Hid (0 ≤ f.st[k].2 ∧ f.st[k].2 ≤ 100000) := Lib.hid (by simpa [Pl.inB] using hin)
                go_wp2_with (go_at_call 102; refine (within_b _ _ _ _).mono ?_; rintro e w' ⟨rfl, rfl⟩)
                go_roundw
                case rel => exact ⟨k + 1, by omega, by go_num, Lib.hid fun j h hj => by
                  by_cases e : j = k
                  · subst e; exact hok.out
                  · exact hg.out j h (by omega), kb, hall⟩
                case measure => first | (simp [intOf]; done) | (simp [intOf]; omega)
              | false =>
                have hE := Lib.hid (Pl.fieldE_1 H1.out H2.out H3.out N4.out N5.out (Pl.N6_st hlt (fun h => by simp [Pl.inB, h.1, h.2] at hin)))
                go_wp2_with (go_at_call 102; refine (within_b _ _ _ _).mono ?_; rintro e w' ⟨rfl, rfl⟩)
                go_ret
                exact ⟨ret_int (by rw [hE.out]), hall⟩
            · have hst := Lib.hid (fun j h => hg.out j h (by omega))
              clear hg
              go_wp2
              go_loopw [11] (fun z wr => ∃ (k : Nat), k ≤ f.pa.length ∧ z = .int .i64 k ∧ Hid (∀ j (h : j < f.pa.length), j < k → Pl.parIn f.st.length f.li.length f.pa[j] = true) ∧ wr.heap[w.heap.size]? = some (.cells #[.slice A1 f.st.length c1, .slice A2 f.li.length c2, .slice A3 f.pa.length c3, .slice A4 f.va.length c4] 28 (0, 0)) ∧ Below w.heap.size w wr) (fun z _ => f.pa.length - (intOf z).toNat)
              case atStart => exact ⟨0, by omega, rfl, Lib.hid fun j _ h => by omega, kb, hall⟩
              case round =>
                clear kb hckb hfkb hltkb hall hsz
                obtain ⟨k, hk, rfl, hg, kb, hall⟩ := hrel
                obtain ⟨hckb, hfkb⟩ := blk_cells kb
                have hltkb := (Array.getElem?_eq_some_iff.1 kb).1
                have hsz := hall.size
                by_cases hlt : k < f.pa.length
                · obtain ⟨b, off, rfl, hbB, q0, q1, q2, q3⟩ := Pars.at4 (hf.pa.below hall) hlt
                  have hpi : Pl.parIn f.st.length f.li.length f.pa[k] = (Pl.inB f.pa[k].south 0 ((f.li.length : Int) - 2) && Pl.inB f.pa[k].fr 0 ((f.st.length : Int) - 1) && Pl.inB f.pa[k].till 0 ((f.st.length : Int) - 1)) := by
                    simp [Pl.parIn, Pl.inB]
                  cases i1 : Pl.inB f.pa[k].south 0 ((f.li.length : Int) - 2) with
                  | false =>
                    have hE := Lib.hid (Pl.fieldE_1 H1.out H2.out H3.out N4.out N5.out (Pl.N6_pa hlt (by rw [hpi, i1]; rfl)))
                    clear hpi
                    go_wp2_with (go_at_call 102; refine (within_b _ _ _ _).mono ?_; rintro e w' ⟨rfl, rfl⟩)
                    go_ret
                    exact ⟨ret_int (by rw [hE.out]), by go_grown⟩
                  | true =>
                  cases i2 : Pl.inB f.pa[k].fr 0 ((f.st.length : Int) - 1) with
                  | false =>
                    have hE := Lib.hid (Pl.fieldE_1 H1.out H2.out H3.out N4.out N5.out (Pl.N6_pa hlt (by rw [hpi, i1, i2]; rfl)))
                    clear hpi
                    go_wp2_with (go_at_call 102; refine (within_b _ _ _ _).mono ?_; rintro e w' ⟨rfl, rfl⟩)
                    go_ret
                    exact ⟨ret_int (by rw [hE.out]), by go_grown⟩
                  | true =>
                  cases i3 : Pl.inB f.pa[k].till 0 ((f.st.length : Int) - 1) with
                  | false =>
                    have hE := Lib.hid (Pl.fieldE_1 H1.out H2.out H3.out N4.out N5.out (Pl.N6_pa hlt (by rw [hpi, i1, i2, i3]; rfl)))
                    clear hpi
                    go_wp2_with (go_at_call 102; refine (within_b _ _ _ _).mono ?_; rintro e w' ⟨rfl, rfl⟩)
                    go_ret
                    exact ⟨ret_int (by rw [hE.out]), by go_grown⟩
                  | true =>
                    have hok : Hid (Pl.parIn f.st.length f.li.length f.pa[k] = true) := Lib.hid (by rw [hpi, i1, i2, i3]; rfl)
                    clear hpi
                    go_wp2_with (go_at_call 102; refine (within_b _ _ _ _).mono ?_; rintro e w' ⟨rfl, rfl⟩)
                    go_roundw
                    case rel => exact ⟨k + 1, by omega, by go_num, Lib.hid fun j h hj => by
                      by_cases e : j = k
                      · subst e; exact hok.out
                      · exact hg.out j h (by omega), (Below.heap_alloc _ _ _ hltkb).trans kb, by go_grown⟩
                    case measure => first | (simp [intOf]; done) | (simp [intOf]; omega)
                · have hpa := Lib.hid (fun j h => hg.out j h (by omega))
                  have N6 := Lib.hid (Pl.N6_ok hst.out hpa.out)
                  have hS : ∀ p ∈ f.pa, Pl.parIn 12 10 p = true := fun q hq => by
                    obtain ⟨j, hj, rfl⟩ := List.getElem_of_mem hq
                    have := hpa.out j hj
                    unfold Pl.parIn at this ⊢
                    simp at this ⊢
                    omega
                  clear hg hst
                  by_cases h7 : f.N7
                  · have hE := Lib.hid (Pl.fieldE_0 H1.out H2.out H3.out N4.out N5.out N6.out h7)
                    have hB7 : Hid (true = true ↔ f.N7) := Lib.hid (by simp [h7])
                    clear h7
                    go_wp2_with (go_at_call 116; refine (ordered_b A1 A2 A3 A4 c1 c2 c3 c4 f true _ (hf.up hall) hm hc k1 k3 hS hB7).mono ?_; rintro e w3 ⟨rfl, hx⟩; have hall3 : Below w.heap.size w w3 := hall.trans (hx.mono hsz))
                    go_ret
                    exact ⟨ret_int (by rw [hE.out]), hall3⟩
                  · have hE := Lib.hid (Pl.fieldE_30 H1.out H2.out H3.out N4.out N5.out N6.out h7)
                    have hB7 : Hid (false = true ↔ f.N7) := Lib.hid (by simp [h7])
                    clear h7
                    go_wp2_with (go_at_call 116; refine (ordered_b A1 A2 A3 A4 c1 c2 c3 c4 f false _ (hf.up hall) hm hc k1 k3 hS hB7).mono ?_; rintro e w3 ⟨rfl, hx⟩; have hall3 : Below w.heap.size w w3 := hall.trans (hx.mono hsz))
                    go_ret
                    exact ⟨ret_int (by rw [hE.out]), hall3⟩
end Go.Proofs.YtgbpekeoegfjpaaGreatDoor
