/- Walk of the reference: ordered. -/
import Derived.Test.YtgbpekeoegfjpaaGreatDoorProg
import Derived.WalkKit
import Derived.WalkLawsBesides
import Derived.WalkSpells
import Derived.Handy
import Derived.Lib.Hide
import Derived.Great.BuildSlice
import Derived.Deep.QuietTactic
import Derived.BigQuiet
import Derived.Deep.RegionHeld3
import Derived.Deep.DeepCutAuto
import Derived.Test.YtgbpekeoegfjpaaGreatDoorM05
import Derived.Test.YtgbpekeoegfjpaaGreatDoorM24
import Derived.Test.YtgbpekeoegfjpaaGreatDoorM09
namespace Go.Proofs.YtgbpekeoegfjpaaGreatDoor
open Go.RowKit

theorem comD_h (p q : Pl.Par) (M : Int) (w : World) (hM : Hid (max 0 (Pl.com2 p q + 1) = M)) (hp : Pl.parIn 12 10 p = true) (hq : Pl.parIn 12 10 q = true) :
    Calls Tryz.prog 127 #[.agg #[.string p.name, .int .i64 p.south, .int .i64 p.fr, .int .i64 p.till], .agg #[.string q.name, .int .i64 q.south, .int .i64 q.fr, .int .i64 q.till]] w fun e w' => e = .returned (.int .i64 M) ∧ Below w.heap.size w w' := by
  have h1 := Pl.parIn_ok hp
  have h2 := Pl.parIn_ok hq
  rw [← hM.out]
  exact comD_b p q w (by have := h1.f0; omega) (by have := h1.f1; omega) (by have := h1.t0; omega) (by have := h1.t1; omega) (by have := h2.f0; omega) (by have := h2.f1; omega) (by have := h2.t0; omega) (by have := h2.t1; omega)
theorem any_take {α : Type} {p : α → Bool} {l : List α} {k j : Nat} (hk : k ≤ l.length) (hj : j < k) (h : p (l[j]'(by omega)) = true) : (l.take k).any p = true := by
  rw [List.any_eq_true]
  exact ⟨_, List.mem_take_iff_getElem.2 ⟨j, by omega, rfl⟩, h⟩
theorem none_take {α : Type} {p : α → Bool} {l : List α} {k : Nat} (h : ∀ j (hj : j < l.length), j < k → p l[j] = false) : (l.take k).any p = false := by
  rw [List.any_eq_false]
  intro x hx
  obtain ⟨j, hj, rfl⟩ := List.mem_take_iff_getElem.1 hx
  rw [h j (by omega) (by omega)]
  simp
theorem cell_keep {W w1 : World} (hx : Below W.drew.heap.size W.drew w1) {b o : Nat} {v : Value} (hb : b < W.heap.size) (h : W.cell? ⟨b, o, none⟩ = some v) : w1.cell? ⟨b, o, none⟩ = some v := (hx.cell (p := ⟨b, o, none⟩) hb).trans h
set_option maxRecDepth 100000 in
set_option maxHeartbeats 8000000 in
theorem ordered_b (A1 A2 A3 A4 : Option Addr) (c1 c2 c3 c4 : Nat) (f : Pl.Fld) (B : Bool) (w : World) (hf : FldS w w.heap.size A1 A2 A3 A4 f) (_hm : Small f) (_hc : Caps c1 c2 c3 c4 f) (k1 : f.st.length ≤ 12) (k3 : f.pa.length ≤ 40) (hS : ∀ p ∈ f.pa, Pl.parIn 12 10 p = true) (hB : Hid (B = true ↔ f.N7)) :
    Calls Tryz.prog 116 #[.agg #[.slice A1 f.st.length c1, .slice A2 f.li.length c2, .slice A3 f.pa.length c3, .slice A4 f.va.length c4]] w fun e w' => e = .returned (.bool B) ∧ Below w.heap.size w w' := by
  have kb := heap_alloc_new w (.cells #[.slice A1 f.st.length c1, .slice A2 f.li.length c2, .slice A3 f.pa.length c3, .slice A4 f.va.length c4] 28)
  have hall : Below w.heap.size w (w.alloc (.cells #[.slice A1 f.st.length c1, .slice A2 f.li.length c2, .slice A3 f.pa.length c3, .slice A4 f.va.length c4] 28)) := by go_grown
  have hno : Hid (¬ f.N7 → false = B) := Lib.hid fun h => by cases B with | false => rfl | true => exact absurd (hB.out.1 rfl) h
  have hyes : Hid (f.N7 → true = B) := Lib.hid fun h => (hB.out.2 h).symm
  go_enter Tryz.func116, Tryz.ntmps116
  go_wp2
  go_loopw [3] (fun i wr => ∃ (k : Nat), 1 ≤ k ∧ k ≤ f.st.length + 1 ∧ i = .int .i64 k ∧ Hid (∀ j (h : j + 1 < f.st.length), j + 1 < k → f.st[j].2 < f.st[j + 1].2) ∧ wr.heap[w.heap.size]? = some (.cells #[.slice A1 f.st.length c1, .slice A2 f.li.length c2, .slice A3 f.pa.length c3, .slice A4 f.va.length c4] 28 (0, 0)) ∧ Below w.heap.size w wr) (fun i _ => f.st.length + 1 - (intOf i).toNat)
  case atStart => exact ⟨1, by omega, by omega, rfl, Lib.hid fun j _ h => by omega, kb, hall⟩
  case round =>
    clear kb hall
    obtain ⟨k, hk1, hk, rfl, hg, kb, hall⟩ := hrel
    obtain ⟨hckb, hfkb⟩ := blk_cells kb
    have hltkb := (lO kb)
    have hsz := hall.size
    by_cases hlt : k < f.st.length
    · obtain ⟨m, hmk⟩ : ∃ m, k = m + 1 := ⟨k - 1, by omega⟩
      have hltm : m < f.st.length := by omega
      obtain ⟨b, off, hA, hbB, q0, q1⟩ := Stas.at2 (hf.st.below hall) hlt
      obtain ⟨b', off', hA', _, r0, r1⟩ := Stas.at2 (hf.st.below hall) hltm
      rw [hA] at hA'
      obtain ⟨rfl, rfl⟩ : b = b' ∧ off = off' := by simpa using hA'
      clear hA' q0 r0
      subst hA
      have hc0 : wr.cell? ⟨w.heap.size, 0, none⟩ = some (.slice (some ⟨b, off, none⟩) f.st.length c1) := hckb 0
      have e1 : IntKind.i64.wrap ((k : Int) - 1) = (m : Int) := by rw [IntWalk.i64_in _ (by omega)]; omega
      have e2 : (0 : Int) ≤ (m : Int) := by omega
      have e4 : (m : Int) < (f.st.length : Int) := by omega
      have e5 : (0 : Int) ≤ (k : Int) := by omega
      have e6 : (k : Int) < (f.st.length : Int) := by omega
      have hbad : Hid (f.st[k].2 ≤ f.st[m].2 → false = B) := Lib.hid fun h => hno.out (Pl.N7_rise (k := m) (by omega) (by subst hmk; exact h))
      have hgood : Hid (f.st[m].2 < f.st[k].2 → ∀ j (h : j + 1 < f.st.length), j + 1 < k + 1 → f.st[j].2 < f.st[j + 1].2) := Lib.hid fun h j hj hjk => by
        by_cases e : j + 1 = k
        · subst hmk
          obtain rfl : j = m := by omega
          exact h
        · exact hg.out j hj (by omega)
      obtain ⟨x, hx⟩ : ∃ x, f.st[k].2 = x := ⟨_, rfl⟩
      obtain ⟨y, hy⟩ : ∃ y, f.st[m].2 = y := ⟨_, rfl⟩
      rw [hx] at q1 hbad hgood
      rw [hy] at r1 hbad hgood
      have HMK := Lib.hid hmk
      clear hx hy hg hmk
      by_cases hxy : x ≤ y
      · go_wp2
        go_region_held3 (fun W => W.cell? ⟨w.heap.size, 0, none⟩ = some (.slice (some ⟨b, off, none⟩) f.st.length c1) ∧ W.cell? ⟨b, off + m * 2 + 1, none⟩ = some (.int .i64 y) ∧ W.cell? ⟨b, off + k * 2 + 1, none⟩ = some (.int .i64 x)) (exact ⟨hc0, r1, q1⟩) (fail)
        all_goals go_wp2
        all_goals go_ret
        all_goals exact ⟨ret_bool (by rw [← hbad.out hxy]), by first | (go_grown; done) | exact below_drewN hall _⟩
      · have hxy' : y < x := by omega
        go_wp2
        go_region_held3 (fun W => W.cell? ⟨w.heap.size, 0, none⟩ = some (.slice (some ⟨b, off, none⟩) f.st.length c1) ∧ W.cell? ⟨b, off + m * 2 + 1, none⟩ = some (.int .i64 y) ∧ W.cell? ⟨b, off + k * 2 + 1, none⟩ = some (.int .i64 x)) (exact ⟨hc0, r1, q1⟩) (fail)
        all_goals go_wp2
        all_goals (
          go_roundw
          case rel => exact ⟨k + 1, by omega, by omega, by go_num, Lib.hid (hgood.out hxy'), kb, by first | (go_grown; done) | exact below_drewN hall _⟩
          case measure => first | (simp [intOf]; done) | (simp [intOf]; omega))
    · have hri := Lib.hid (fun j (h : j + 1 < f.st.length) => hg.out j h (by omega))
      clear hg
      go_wp2
      go_loopw [4] (fun i wr => ∃ (k : Nat), k ≤ f.pa.length ∧ i = .int .i64 k ∧ Hid (Pl.apart [] (f.pa.take k) = true) ∧ wr.heap[w.heap.size]? = some (.cells #[.slice A1 f.st.length c1, .slice A2 f.li.length c2, .slice A3 f.pa.length c3, .slice A4 f.va.length c4] 28 (0, 0)) ∧ Below w.heap.size w wr) (fun i _ => f.pa.length - (intOf i).toNat)
      case atStart => exact ⟨0, by omega, rfl, Lib.hid rfl, kb, hall⟩
      case round =>
        clear kb hall hckb hfkb hltkb hsz
        obtain ⟨i, hi, rfl, hap, kb, hall⟩ := hrel
        obtain ⟨hckb, hfkb⟩ := blk_cells kb
        have hltkb := (lO kb)
        have hsz := hall.size
        by_cases hlt : i < f.pa.length
        · obtain ⟨b, off, hA, hbB, q0, q1, q2, q3⟩ := Pars.at4 (hf.pa.below hall) hlt
          have hc2 : wr.cell? ⟨w.heap.size, 2, none⟩ = some (.slice A3 f.pa.length c3) := hckb 2
          rw [hA] at hc2
          have e5 : (0 : Int) ≤ (i : Int) := by omega
          have e6 : (i : Int) < (f.pa.length : Int) := by omega
          by_cases hft : f.pa[i].fr < f.pa[i].till
          · have n1 : ¬ f.pa[i].till ≤ f.pa[i].fr := by omega
            subst hA
            go_wp2
            go_region_held3 (fun W => W.cell? ⟨w.heap.size, 2, none⟩ = some (.slice (some ⟨b, off, none⟩) f.pa.length c3) ∧ W.cell? ⟨b, off + i * 4 + 2, none⟩ = some (.int .i64 f.pa[i].fr) ∧ W.cell? ⟨b, off + i * 4 + 3, none⟩ = some (.int .i64 f.pa[i].till)) (exact ⟨hc2, q2, q3⟩) (fail)
            all_goals go_wp2
            all_goals (
              go_loopw [5] (fun z wr => ∃ (k : Nat), k ≤ i ∧ z = .int .i64 k ∧ Hid (∀ j (h : j < f.pa.length), j < k → Pl.over f.pa[i] f.pa[j] = false) ∧ wr.heap[w.heap.size]? = some (.cells #[.slice A1 f.st.length c1, .slice A2 f.li.length c2, .slice (some ⟨b, off, none⟩) f.pa.length c3, .slice A4 f.va.length c4] 28 (0, 0)) ∧ Below w.heap.size w wr) (fun z _ => i - (intOf z).toNat)
              case atStart => exact ⟨0, by omega, rfl, Lib.hid fun j _ h => by omega, kb, by first | (go_grown; done) | exact below_drewN hall _⟩
              case round =>
                clear kb hall hckb hfkb hltkb hsz q0 q1 q2 q3 hc2
                obtain ⟨k, hk, rfl, hov, kb, hall⟩ := hrel
                obtain ⟨hckb, hfkb⟩ := blk_cells kb
                have hltkb := (lO kb)
                have hsz := hall.size
                by_cases hki : k < i
                · have hltk : k < f.pa.length := by omega
                  obtain ⟨b1, off1, hA1, _, r0, r1, r2, r3⟩ := Pars.at4 (hf.pa.below hall) hltk
                  obtain ⟨b2, off2, hA2, hbB2, q0, q1, q2, q3⟩ := Pars.at4 (hf.pa.below hall) hlt
                  obtain ⟨rfl, rfl⟩ : b = b1 ∧ off = off1 := by simpa using hA1
                  obtain ⟨rfl, rfl⟩ : b = b2 ∧ off = off2 := by simpa using hA2
                  clear hA1 hA2
                  have hc2 : wr.cell? ⟨w.heap.size, 2, none⟩ = some (.slice (some ⟨b, off, none⟩) f.pa.length c3) := hckb 2
                  have hbw : b < wr.heap.size := by omega
                  have g1 : (0 : Int) ≤ (k : Int) := by omega
                  have g2 : (k : Int) < (f.pa.length : Int) := by omega
                  have hnext : Hid (Pl.over f.pa[i] f.pa[k] = false → ∀ j (h : j < f.pa.length), j < k + 1 → Pl.over f.pa[i] f.pa[j] = false) := Lib.hid fun h0 j h hj => by
                    by_cases e : j = k
                    · subst e; exact h0
                    · exact hov.out j h (by omega)
                  have hbad : Hid (Pl.over f.pa[i] f.pa[k] = true → false = B) := Lib.hid fun h0 => hno.out (Pl.N7_apart hlt (fun h => by rw [any_take (by omega) hki h0] at h; cases h.2))
                  have P1 := hS _ (List.getElem_mem hlt)
                  have P2 := hS _ (List.getElem_mem hltk)
                  obtain ⟨M, hM⟩ : ∃ M, max 0 (Pl.com2 f.pa[i] f.pa[k] + 1) = M := ⟨_, rfl⟩
                  have HM := Lib.hid hM
                  have hov2 : Pl.over f.pa[i] f.pa[k] = (decide (f.pa[i].south = f.pa[k].south) && decide (1 < M)) := by
                    unfold Pl.over
                    rw [← hM]
                    congr 1
                    exact decide_eq_decide.2 (by omega)
                  rw [hov2] at hnext hbad
                  have CM := fun W => comD_h f.pa[i] f.pa[k] M W HM P1 P2
                  clear hov hov2 hM P1 P2 HM
                  obtain ⟨⟨pn, ps, pf, pt⟩, hp⟩ : ∃ p, f.pa[i] = p := ⟨_, rfl⟩
                  obtain ⟨⟨qn, qs, qf, qt⟩, hq⟩ : ∃ p, f.pa[k] = p := ⟨_, rfl⟩
                  rw [hp, hq] at hnext hbad CM
                  rw [hp] at q0 q1 q2 q3
                  rw [hq] at r0 r1 r2 r3
                  simp only at hnext hbad CM q0 q1 q2 q3 r0 r1 r2 r3
                  have HPI := Lib.hid hp
                  clear hp hq
                  by_cases hs : ps = qs
                  · subst hs
                    by_cases hm1 : 1 < M
                    · have hv := Lib.hid (hbad.out (by simp [hm1]))
                      go_wp2
                      go_region_held3 (fun W => W.cell? ⟨w.heap.size, 2, none⟩ = some (.slice (some ⟨b, off, none⟩) f.pa.length c3) ∧ (W.cell? ⟨b, off + i * 4, none⟩ = some (.string pn) ∧ W.cell? ⟨b, off + i * 4 + 1, none⟩ = some (.int .i64 ps) ∧ W.cell? ⟨b, off + i * 4 + 2, none⟩ = some (.int .i64 pf) ∧ W.cell? ⟨b, off + i * 4 + 3, none⟩ = some (.int .i64 pt)) ∧ W.cell? ⟨b, off + k * 4, none⟩ = some (.string qn) ∧ W.cell? ⟨b, off + k * 4 + 1, none⟩ = some (.int .i64 ps) ∧ W.cell? ⟨b, off + k * 4 + 2, none⟩ = some (.int .i64 qf) ∧ W.cell? ⟨b, off + k * 4 + 3, none⟩ = some (.int .i64 qt)) (first | exact ⟨z0, ⟨z1, z2, z3, z4⟩, z5, z6, z7, z8⟩ | exact ⟨hc2, ⟨q0, q1, q2, q3⟩, r0, r1, r2, r3⟩) ((go_at_call 127; refine (CM _).mono ?_; rintro e w1 ⟨rfl, hx⟩; have z0 := cell_keep hx hltkb hc2; have z1 := cell_keep hx hbw q0; have z2 := cell_keep hx hbw q1; have z3 := cell_keep hx hbw q2; have z4 := cell_keep hx hbw q3; have z5 := cell_keep hx hbw r0; have z6 := cell_keep hx hbw r1; have z7 := cell_keep hx hbw r2; have z8 := cell_keep hx hbw r3; have kb1 := (hx.block w.heap.size hltkb).trans kb; have hall1 : Below w.heap.size w w1 := hall.drew.trans (hx.mono hsz)))
                      all_goals go_wp2
                      all_goals go_ret
                      all_goals exact ⟨ret_bool (by rw [← hv.out]), hall1⟩
                    · have hv := Lib.hid (hnext.out (by simp [hm1]))
                      go_wp2
                      go_region_held3 (fun W => W.cell? ⟨w.heap.size, 2, none⟩ = some (.slice (some ⟨b, off, none⟩) f.pa.length c3) ∧ (W.cell? ⟨b, off + i * 4, none⟩ = some (.string pn) ∧ W.cell? ⟨b, off + i * 4 + 1, none⟩ = some (.int .i64 ps) ∧ W.cell? ⟨b, off + i * 4 + 2, none⟩ = some (.int .i64 pf) ∧ W.cell? ⟨b, off + i * 4 + 3, none⟩ = some (.int .i64 pt)) ∧ W.cell? ⟨b, off + k * 4, none⟩ = some (.string qn) ∧ W.cell? ⟨b, off + k * 4 + 1, none⟩ = some (.int .i64 ps) ∧ W.cell? ⟨b, off + k * 4 + 2, none⟩ = some (.int .i64 qf) ∧ W.cell? ⟨b, off + k * 4 + 3, none⟩ = some (.int .i64 qt)) (first | exact ⟨z0, ⟨z1, z2, z3, z4⟩, z5, z6, z7, z8⟩ | exact ⟨hc2, ⟨q0, q1, q2, q3⟩, r0, r1, r2, r3⟩) ((go_at_call 127; refine (CM _).mono ?_; rintro e w1 ⟨rfl, hx⟩; have z0 := cell_keep hx hltkb hc2; have z1 := cell_keep hx hbw q0; have z2 := cell_keep hx hbw q1; have z3 := cell_keep hx hbw q2; have z4 := cell_keep hx hbw q3; have z5 := cell_keep hx hbw r0; have z6 := cell_keep hx hbw r1; have z7 := cell_keep hx hbw r2; have z8 := cell_keep hx hbw r3; have kb1 := (hx.block w.heap.size hltkb).trans kb; have hall1 : Below w.heap.size w w1 := hall.drew.trans (hx.mono hsz)))
                      all_goals go_wp2
                      all_goals exact ⟨⟨k + 1, by omega, by go_num, Lib.hid (by rw [HPI.out]; exact hv.out), kb1, hall1⟩, by simp [intOf]; omega⟩
                  · have hv := Lib.hid (hnext.out (by simp [hs]))
                    have hs2 : (ps == qs) = false := by rw [beq_eq_false_iff_ne]; exact hs
                    go_wp2
                    refine wp_region_held_drew (S := fun W => W.cell? ⟨w.heap.size, 2, none⟩ = some (.slice (some ⟨b, off, none⟩) f.pa.length c3) ∧ W.cell? ⟨b, off + i * 4 + 1, none⟩ = some (.int .i64 ps) ∧ W.cell? ⟨b, off + k * 4 + 1, none⟩ = some (.int .i64 qs)) (by kernel_rfl) ⟨hc2, q1, r1⟩ (fun hHeld => ?_)
                    refine takeH 0 (some 52) (v := ?v1) rfl rfl (by kernel_rfl) (by kernel_rfl) (by kernel_rfl) (fun _ _ _ h => h) (Or.inl ⟨by rfl, fun W hW => ?hy1⟩) (by assumption) ?hr1
                    case hy1 => (try dsimp only at hW); obtain ⟨y0, y1, y2⟩ := hW; go_simp; try with_reducible rfl
                    try simp only [Act.put, List.setIfInBounds_toArray, List.set_cons_zero, List.set_cons_succ]
                    refine takeH 1 (some 53) (v := ?v2) rfl rfl (by kernel_rfl) (by kernel_rfl) (by kernel_rfl) (fun _ _ _ h => h) (Or.inl ⟨by rfl, fun W hW => ?hy2⟩) (by assumption) ?hr2
                    case hy2 => (try dsimp only at hW); obtain ⟨y0, y1, y2⟩ := hW; go_simp; try with_reducible rfl
                    try simp only [Act.put, List.setIfInBounds_toArray, List.set_cons_zero, List.set_cons_succ]
                    refine takeH 2 (some 54) (v := ?v3) rfl rfl (by kernel_rfl) (by kernel_rfl) (by kernel_rfl) (fun _ _ _ h => h) (Or.inl ⟨by rfl, fun W hW => ?hy3⟩) (by assumption) ?hr3
                    case hy3 => (try dsimp only at hW); obtain ⟨y0, y1, y2⟩ := hW; go_simp; try with_reducible rfl
                    try simp only [Act.put, List.setIfInBounds_toArray, List.set_cons_zero, List.set_cons_succ]
                    refine takeH 3 (some 55) (v := ?v4) rfl rfl (by kernel_rfl) (by kernel_rfl) (by kernel_rfl) (fun _ _ _ h => h) (Or.inl ⟨by rfl, fun W hW => ?hy4⟩) (by assumption) ?hr4
                    case hy4 => (try dsimp only at hW); obtain ⟨y0, y1, y2⟩ := hW; go_simp; try with_reducible rfl
                    try simp only [Act.put, List.setIfInBounds_toArray, List.set_cons_zero, List.set_cons_succ]
                    refine takeH 4 (some 56) (v := ?v5) rfl rfl (by kernel_rfl) (by kernel_rfl) (by kernel_rfl) (fun _ _ _ h => h) (Or.inl ⟨by rfl, fun W hW => ?hy5⟩) (by assumption) ?hr5
                    case hy5 => (try dsimp only at hW); obtain ⟨y0, y1, y2⟩ := hW; go_simp; try with_reducible rfl
                    try simp only [Act.put, List.setIfInBounds_toArray, List.set_cons_zero, List.set_cons_succ]
                    refine takeH 5 (some 57) (v := ?v6) rfl rfl (by kernel_rfl) (by kernel_rfl) (by kernel_rfl) (fun _ _ _ h => h) (Or.inl ⟨by rfl, fun W hW => ?hy6⟩) (by assumption) ?hr6
                    case hy6 => (try dsimp only at hW); obtain ⟨y0, y1, y2⟩ := hW; go_simp; try with_reducible rfl
                    try simp only [Act.put, List.setIfInBounds_toArray, List.set_cons_zero, List.set_cons_succ]
                    refine takeH 6 (some 58) (v := ?v7) rfl rfl (by kernel_rfl) (by kernel_rfl) (by kernel_rfl) (fun _ _ _ h => h) (Or.inl ⟨by rfl, fun W hW => ?hy7⟩) (by assumption) ?hr7
                    case hy7 => (try dsimp only at hW); obtain ⟨y0, y1, y2⟩ := hW; go_simp; try with_reducible rfl
                    try simp only [Act.put, List.setIfInBounds_toArray, List.set_cons_zero, List.set_cons_succ]
                    refine takeH 7 (some 59) (v := ?v8) rfl rfl (by kernel_rfl) (by kernel_rfl) (by kernel_rfl) (fun _ _ _ h => h) (Or.inl ⟨by rfl, fun W hW => ?hy8⟩) (by assumption) ?hr8
                    case hy8 => (try dsimp only at hW); obtain ⟨y0, y1, y2⟩ := hW; go_simp; try with_reducible rfl
                    try simp only [Act.put, List.setIfInBounds_toArray, List.set_cons_zero, List.set_cons_succ]
                    refine takeH 8 (some 60) (v := ?v9) rfl rfl (by kernel_rfl) (by kernel_rfl) (by kernel_rfl) (fun _ _ _ h => h) (Or.inl ⟨by rfl, fun W hW => ?hy9⟩) (by assumption) ?hr9
                    case hy9 => (try dsimp only at hW); obtain ⟨y0, y1, y2⟩ := hW; go_simp; try with_reducible rfl
                    try simp only [Act.put, List.setIfInBounds_toArray, List.set_cons_zero, List.set_cons_succ]
                    refine takeH 9 (some 61) (v := ?v10) rfl rfl (by kernel_rfl) (by kernel_rfl) (by kernel_rfl) (fun _ _ _ h => h) (Or.inl ⟨by rfl, fun W hW => ?hy10⟩) (by assumption) ?hr10
                    case hy10 => (try dsimp only at hW); obtain ⟨y0, y1, y2⟩ := hW; go_simp; try with_reducible rfl
                    try simp only [Act.put, List.setIfInBounds_toArray, List.set_cons_zero, List.set_cons_succ]
                    refine takeH 10 (some 62) (v := ?v11) rfl rfl (by kernel_rfl) (by kernel_rfl) (by kernel_rfl) (fun _ _ _ h => h) (Or.inl ⟨by rfl, fun W hW => ?hy11⟩) (by assumption) ?hr11
                    case hy11 => (try dsimp only at hW); obtain ⟨y0, y1, y2⟩ := hW; go_simp; try with_reducible rfl
                    try simp only [Act.put, List.setIfInBounds_toArray, List.set_cons_zero, List.set_cons_succ]
                    refine takeH 11 (some 63) (v := ?v12) rfl rfl (by kernel_rfl) (by kernel_rfl) (by kernel_rfl) (fun _ _ _ h => h) (Or.inl ⟨by rfl, fun W hW => ?hy12⟩) (by assumption) ?hr12
                    case hy12 => (try dsimp only at hW); obtain ⟨y0, y1, y2⟩ := hW; go_simp; try with_reducible rfl
                    try simp only [Act.put, List.setIfInBounds_toArray, List.set_cons_zero, List.set_cons_succ]
                    refine takeH 12 (some 64) (v := ?v13) rfl rfl (by kernel_rfl) (by kernel_rfl) (by kernel_rfl) (fun _ _ _ h => h) (Or.inl ⟨by rfl, fun W hW => ?hy13⟩) (by assumption) ?hr13
                    case hy13 => (try dsimp only at hW); obtain ⟨y0, y1, y2⟩ := hW; go_simp; try with_reducible rfl
                    try simp only [Act.put, List.setIfInBounds_toArray, List.set_cons_zero, List.set_cons_succ]
                    refine takeH 13 (some 65) (v := ?v14) rfl rfl (by kernel_rfl) (by kernel_rfl) (by kernel_rfl) (fun _ _ _ h => h) (Or.inl ⟨by rfl, fun W hW => ?hy14⟩) (by assumption) ?hr14
                    case hy14 => (try dsimp only at hW); obtain ⟨y0, y1, y2⟩ := hW; go_simp; try with_reducible rfl
                    try simp only [Act.put, List.setIfInBounds_toArray, List.set_cons_zero, List.set_cons_succ]
                    refine takeH 14 (some 66) (v := undef) rfl rfl (by kernel_rfl) (by kernel_rfl) (by kernel_rfl) (fun _ _ _ h => h) (Or.inr ⟨by rfl, rfl⟩) (by assumption) ?_
                    try simp only [Act.put, List.setIfInBounds_toArray, List.set_cons_zero, List.set_cons_succ]
                    refine takeH 15 (some 67) (v := undef) rfl rfl (by kernel_rfl) (by kernel_rfl) (by kernel_rfl) (fun _ _ _ h => h) (Or.inr ⟨by rfl, rfl⟩) (by assumption) ?_
                    try simp only [Act.put, List.setIfInBounds_toArray, List.set_cons_zero, List.set_cons_succ]
                    refine takeH 16 (some 68) (v := undef) rfl rfl (by kernel_rfl) (by kernel_rfl) (by kernel_rfl) (fun _ _ _ h => h) (Or.inr ⟨by rfl, rfl⟩) (by assumption) ?_
                    try simp only [Act.put, List.setIfInBounds_toArray, List.set_cons_zero, List.set_cons_succ]
                    refine takeH 17 (some 69) (v := undef) rfl rfl (by kernel_rfl) (by kernel_rfl) (by kernel_rfl) (fun _ _ _ h => h) (Or.inr ⟨by rfl, rfl⟩) (by assumption) ?_
                    try simp only [Act.put, List.setIfInBounds_toArray, List.set_cons_zero, List.set_cons_succ]
                    refine takeH 18 (some 70) (v := undef) rfl rfl (by kernel_rfl) (by kernel_rfl) (by kernel_rfl) (fun _ _ _ h => h) (Or.inr ⟨by rfl, rfl⟩) (by assumption) ?_
                    try simp only [Act.put, List.setIfInBounds_toArray, List.set_cons_zero, List.set_cons_succ]
                    refine takeH 19 (some 71) (v := undef) rfl rfl (by kernel_rfl) (by kernel_rfl) (by kernel_rfl) (fun _ _ _ h => h) (Or.inr ⟨by rfl, rfl⟩) (by assumption) ?_
                    try simp only [Act.put, List.setIfInBounds_toArray, List.set_cons_zero, List.set_cons_succ]
                    refine takeH 20 (some 72) (v := undef) rfl rfl (by kernel_rfl) (by kernel_rfl) (by kernel_rfl) (fun _ _ _ h => h) (Or.inr ⟨by rfl, rfl⟩) (by assumption) ?_
                    try simp only [Act.put, List.setIfInBounds_toArray, List.set_cons_zero, List.set_cons_succ]
                    refine takeH 21 (some 73) (v := undef) rfl rfl (by kernel_rfl) (by kernel_rfl) (by kernel_rfl) (fun _ _ _ h => h) (Or.inr ⟨by rfl, rfl⟩) (by assumption) ?_
                    try simp only [Act.put, List.setIfInBounds_toArray, List.set_cons_zero, List.set_cons_succ]
                    refine takeH 22 (some 74) (v := undef) rfl rfl (by kernel_rfl) (by kernel_rfl) (by kernel_rfl) (fun _ _ _ h => h) (Or.inr ⟨by rfl, rfl⟩) (by assumption) ?_
                    try simp only [Act.put, List.setIfInBounds_toArray, List.set_cons_zero, List.set_cons_succ]
                    refine takeH 23 (some 75) (v := undef) rfl rfl (by kernel_rfl) (by kernel_rfl) (by kernel_rfl) (fun _ _ _ h => h) (Or.inr ⟨by rfl, rfl⟩) (by assumption) ?_
                    try simp only [Act.put, List.setIfInBounds_toArray, List.set_cons_zero, List.set_cons_succ]
                    refine takeH 24 (some 76) (v := undef) rfl rfl (by kernel_rfl) (by kernel_rfl) (by kernel_rfl) (fun _ _ _ h => h) (Or.inr ⟨by rfl, rfl⟩) (by assumption) ?_
                    try simp only [Act.put, List.setIfInBounds_toArray, List.set_cons_zero, List.set_cons_succ]
                    refine takeH 25 (some 77) (v := undef) rfl rfl (by kernel_rfl) (by kernel_rfl) (by kernel_rfl) (fun _ _ _ h => h) (Or.inr ⟨by rfl, rfl⟩) (by assumption) ?_
                    try simp only [Act.put, List.setIfInBounds_toArray, List.set_cons_zero, List.set_cons_succ]
                    refine takeH 26 (some 78) (v := ?v15) rfl rfl (by kernel_rfl) (by kernel_rfl) (by kernel_rfl) (fun _ _ _ h => h) (Or.inl ⟨by rfl, fun W hW => ?hy15⟩) (by assumption) ?hr15
                    case hy15 => (try dsimp only at hW); obtain ⟨y0, y1, y2⟩ := hW; go_simp; try with_reducible rfl
                    try simp only [Act.put, List.setIfInBounds_toArray, List.set_cons_zero, List.set_cons_succ]
                    refine wpAnyH_done (by kernel_rfl) ?_ _
                    go_wp2
                    exact ⟨⟨k + 1, by omega, by go_num, Lib.hid (by rw [HPI.out]; exact hv.out), kb, by first | exact hall.drew | exact below_drewN hall _⟩, by simp [intOf]; omega⟩
                · obtain rfl : k = i := by omega
                  have hv := Lib.hid (Pl.apart_step hlt hap.out hft (none_take hov.out))
                  go_wp2
                  exact ⟨⟨k + 1, by omega, by go_num, hv, kb, hall⟩, by simp [intOf]; omega⟩)
          · have n1 : f.pa[i].till ≤ f.pa[i].fr := by omega
            have hv := Lib.hid (hno.out (Pl.N7_apart hlt (fun h => hft h.1)))
            subst hA
            go_wp2
            go_region_held3 (fun W => W.cell? ⟨w.heap.size, 2, none⟩ = some (.slice (some ⟨b, off, none⟩) f.pa.length c3) ∧ W.cell? ⟨b, off + i * 4 + 2, none⟩ = some (.int .i64 f.pa[i].fr) ∧ W.cell? ⟨b, off + i * 4 + 3, none⟩ = some (.int .i64 f.pa[i].till)) (exact ⟨hc2, q2, q3⟩) (fail)
            all_goals go_wp2
            all_goals go_ret
            all_goals exact ⟨ret_bool (by rw [← hv.out]), by first | (go_grown; done) | exact below_drewN hall _⟩
        · have hv := Lib.hid (hyes.out (Pl.N7_ok hri.out (by have := hap.out; rw [List.take_of_length_le (by omega)] at this; exact this)))
          go_wp2
          go_ret
          exact ⟨ret_bool (by rw [← hv.out]), hall⟩
end Go.Proofs.YtgbpekeoegfjpaaGreatDoor
