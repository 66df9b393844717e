/- Walk of the reference: PrintField. -/
import Derived.Test.YtgbpekeoegfjpaaGreatDoorProg
import Derived.WalkKit
import Derived.WalkLawsBesides
import Derived.WalkSpells
import Derived.Handy
import Derived.Lib.Hide
import Derived.Great.BuildSlice
import Derived.Deep.QuietTactic
import Derived.BigQuiet
import Derived.Deep.RegionHeld3
import Derived.Deep.DeepCutAuto
import Derived.Test.YtgbpekeoegfjpaaGreatDoorGC
import Derived.Test.YtgbpekeoegfjpaaGreatDoorGDa
import Derived.Test.YtgbpekeoegfjpaaGreatDoorGM
import Derived.Laws.Concat
namespace Go.Proofs.YtgbpekeoegfjpaaGreatDoor
open Go.RowKit

theorem addL (P Q : List UInt8) (h : P.length ≤ 1000000000000) (h2 : Q.length ≤ 1000000) (W : World) : (Op.stringOp .add ⟨P.toArray⟩ ⟨Q.toArray⟩).run Tryz.prog W = .ok (.string ⟨(P ++ Q).toArray⟩) W := by
  rw [run_string_add_sum W ⟨P.toArray⟩ ⟨Q.toArray⟩ (by rw [ba_size, ba_size]; omega), ba_append]
  simp
theorem digits3_i (n : Int) (w : World) (h0 : -99 ≤ n) (h1 : n < 1000000000000000000) : Calls Tryz.prog 95 #[.int .i64 n] w fun e w' => e = .returned (.string ⟨(Lib.itoa n).toArray⟩) ∧ Below w.heap.size w w' := by
  have h := digits3_h n w h0 h1
  unfold Pl.spelt at h
  exact h
theorem ba_list (s : ByteArray) : ∃ l : List UInt8, s = ⟨l.toArray⟩ ∧ l.length = s.size := ⟨s.data.toList, by simp, list_len s⟩
set_option maxRecDepth 100000 in
set_option maxHeartbeats 8000000 in
theorem PrintFieldB_ok (A1 A2 A3 A4 : Option Addr) (c1 c2 c3 c4 : Nat) (f : Pl.Fld) (w : World) (hf : FldS w w.heap.size A1 A2 A3 A4 f) (hm : Small f) (hc : Caps c1 c2 c3 c4 f) (hE : Pl.fieldE f = 0) :
    Calls Tryz.prog 45 #[.agg #[.slice A1 f.st.length c1, .slice A2 f.li.length c2, .slice A3 f.pa.length c3, .slice A4 f.va.length c4]] w fun e w' => e = .returned (.string ⟨(Pl.printL f).toArray⟩) ∧ Below w.heap.size w w' := by
  have hok := Pl.fieldE_ok hE
  have hS := hok.st12
  have hL := hok.li10
  have hP := hok.pa40
  have hxs0 := Lib.hid hok.x
  have hpk := Lib.hid hok.par
  have hva0 := Lib.hid (Pl.vars_all hok.va)
  have HE := Lib.hid hE
  clear hE hok
  have kb := heap_alloc_new w (.cells #[.slice A1 f.st.length c1, .slice A2 f.li.length c2, .slice A3 f.pa.length c3, .slice A4 f.va.length c4] 28)
  go_enter Tryz.func45, Tryz.ntmps45
  go_wp2_with (go_at_call 43; refine (checkFieldB_h A1 A2 A3 A4 c1 c2 c3 c4 f 0 _ HE (hf.up (by go_grown)) hm hc).mono ?_; rintro e w1 ⟨rfl, hx⟩; have kb := (hx.block (w.heap.size) (by first | exact (Array.getElem?_eq_some_iff.1 kb).1 | omega | (simp; done) | (simp; omega))).trans (by first | exact kb | exact (Below.heap_alloc _ _ _ (Array.getElem?_eq_some_iff.1 kb).1).trans kb); obtain ⟨hckb, hfkb⟩ := blk_cells kb; have hltkb := (Array.getElem?_eq_some_iff.1 kb).1; have hall : Below w.heap.size w w1 := Below.trans (by go_grown) (hx.mono (by go_size)); have hsz : w.heap.size ≤ w1.heap.size := hall.size; clear hx)
  go_loopw [3, 4] (fun o i wr => ∃ (k : Nat), k ≤ f.st.length ∧ i = .int .i64 k ∧ o = .string ⟨(Pl.prn Pl.staW f.st k).toArray⟩ ∧ wr.heap[w.heap.size]? = some (.cells #[.slice A1 f.st.length c1, .slice A2 f.li.length c2, .slice A3 f.pa.length c3, .slice A4 f.va.length c4] 28 (0, 0)) ∧ Below w.heap.size w wr) (fun _ i _ => f.st.length - (intOf i).toNat)
  case atStart => exact ⟨0, by omega, rfl, by rw [Pl.prn_zero], kb, hall⟩
  case round =>
    clear kb hckb hfkb hltkb hall hsz
    obtain ⟨k, hk, rfl, rfl, kb, hall⟩ := hrel
    obtain ⟨hckb, hfkb⟩ := blk_cells kb
    have hltkb := (Array.getElem?_eq_some_iff.1 kb).1
    have hsz := hall.size
    by_cases hlt : k < f.st.length
    · obtain ⟨b0, off, hA, hbB, q0, q1⟩ := Stas.at2 (hf.st.below hall) hlt
      have hnm := hm.sn _ (List.getElem_mem hlt)
      have hxx := hxs0.out _ (List.getElem_mem hlt)
      have hpre := Pl.prn_len Pl.staW f.st _ (sta_len hm hxs0.out) k
      have HN := Pl.prn_succ Pl.staW hlt
      obtain ⟨⟨nm, x⟩, hsx⟩ : ∃ s, f.st[k] = s := ⟨_, rfl⟩
      obtain ⟨l, rfl, hl⟩ := ba_list nm
      rw [hsx] at q0 q1 hnm hxx HN
      simp only at q0 q1 hnm hxx
      rw [← hl] at hnm
      clear hsx hl
      subst hA
      obtain ⟨P, hP0⟩ : ∃ P, Pl.prn Pl.staW f.st k = P := ⟨_, rfl⟩
      have hd : (Lib.itoa x).length ≤ 21 := Lib.itoa_length_le x (by omega) (by omega)
      have HQ : Hid ((((((P ++ [115, 116, 97, 116, 105, 111, 110, 32]) ++ l) ++ [32]) ++ Lib.itoa x) ++ [10]) = Pl.prn Pl.staW f.st (k + 1)) := Lib.hid (by
        rw [HN, hP0]
        unfold Pl.staW Pl.lineL
        rw [List.map_cons, List.map_cons, List.map_cons, List.map_nil, Pl.join3]
        simp [Pl.wStation, Pl.spelt])
      rw [hP0] at hpre ⊢
      have t1 := fun W => addL P [115, 116, 97, 116, 105, 111, 110, 32] (by omega) (by decide) W
      obtain ⟨Q1, hQ1⟩ : ∃ X, P ++ [115, 116, 97, 116, 105, 111, 110, 32] = X := ⟨_, rfl⟩
      have g1 : Q1.length ≤ 100000010 := by rw [← hQ1]; simp; omega
      rw [hQ1] at t1 HQ
      have t2 := fun W => addL Q1 l (by omega) (by omega) W
      obtain ⟨Q2, hQ2⟩ : ∃ X, Q1 ++ l = X := ⟨_, rfl⟩
      have g2 : Q2.length ≤ 101100010 := by rw [← hQ2]; simp; omega
      rw [hQ2] at t2 HQ
      have t3 := fun W => addL Q2 [32] (by omega) (by decide) W
      obtain ⟨Q3, hQ3⟩ : ∃ X, Q2 ++ [32] = X := ⟨_, rfl⟩
      have g3 : Q3.length ≤ 101100020 := by rw [← hQ3]; simp; omega
      rw [hQ3] at t3 HQ
      have t4 := fun W => addL Q3 (Lib.itoa x) (by omega) (by omega) W
      obtain ⟨Q4, hQ4⟩ : ∃ X, Q3 ++ Lib.itoa x = X := ⟨_, rfl⟩
      have g4 : Q4.length ≤ 101100120 := by rw [← hQ4]; simp; omega
      rw [hQ4] at t4 HQ
      have t5 := fun W => addL Q4 [10] (by omega) (by decide) W
      rw [HQ.out] at t5
      have dg := fun W => digits3_i x W (by omega) (by omega)
      have e1 : (0 : Int) ≤ (k : Int) := by omega
      have e2 : (k : Int) < (f.st.length : Int) := by omega
      clear HN hP0 hQ1 hQ2 hQ3 hQ4
      go_wp2
      go_region_held3 (fun W => (∀ j, W.cell? ⟨w.heap.size, j, none⟩ = (#[.slice (some ⟨b0, off, none⟩) f.st.length c1, .slice A2 f.li.length c2, .slice A3 f.pa.length c3, .slice A4 f.va.length c4] : Array Value)[j]?) ∧ W.cell? ⟨b0, off + k * 2, none⟩ = some (.string ⟨l.toArray⟩) ∧ W.cell? ⟨b0, off + k * 2 + 1, none⟩ = some (.int .i64 x)) (first | exact ⟨hckb, q0, q1⟩ | exact ⟨hckb2, q02, q12⟩) (first
        | (go_at_call 95; refine (dg _).mono ?_; rintro e w2 ⟨rfl, hx⟩; have h02 : Below wr.heap.size wr w2 := Below.trans (by go_grown) (hx.mono (by go_size)); have kb2 := (h02.block w.heap.size hltkb).trans kb; obtain ⟨hckb2, hfkb2⟩ := blk_cells kb2; have q02 := (h02.cell (p := ⟨b0, off + k * 2, none⟩) (show b0 < wr.heap.size by omega)).trans q0; have q12 := (h02.cell (p := ⟨b0, off + k * 2 + 1, none⟩) (show b0 < wr.heap.size by omega)).trans q1; have hall2 := hall.trans (h02.mono (by omega))))
      all_goals go_wp2
      all_goals (
        go_roundw
        case rel => exact ⟨k + 1, by omega, by go_num, rfl, kb2, hall2⟩
        case measure => first | (simp [intOf]; done) | (simp [intOf]; omega))
    · obtain rfl : k = f.st.length := by omega
      have hp1 := Pl.prn_len Pl.staW f.st _ (sta_len hm hxs0.out) f.st.length
      obtain ⟨P1, hP1⟩ : ∃ P, Pl.prn Pl.staW f.st f.st.length = P := ⟨_, rfl⟩
      rw [hP1] at hp1 ⊢
      have HP1 := Lib.hid hP1
      clear hP1
      go_wp2
      go_loopw [3, 5] (fun o i wr => ∃ (k : Nat), k ≤ f.li.length ∧ i = .int .i64 k ∧ o = .string ⟨(P1 ++ Pl.prn Pl.limW f.li k).toArray⟩ ∧ wr.heap[w.heap.size]? = some (.cells #[.slice A1 f.st.length c1, .slice A2 f.li.length c2, .slice A3 f.pa.length c3, .slice A4 f.va.length c4] 28 (0, 0)) ∧ Below w.heap.size w wr) (fun _ i _ => f.li.length - (intOf i).toNat)
      case atStart => exact ⟨0, by omega, rfl, by rw [Pl.prn_zero, List.append_nil], kb, hall⟩
      case round =>
        clear kb hckb hfkb hltkb hall hsz
        obtain ⟨k, hk, rfl, rfl, kb, hall⟩ := hrel
        obtain ⟨hckb, hfkb⟩ := blk_cells kb
        have hltkb := (Array.getElem?_eq_some_iff.1 kb).1
        have hsz := hall.size
        by_cases hlt : k < f.li.length
        · obtain ⟨b0, off, hA, hbB, q0⟩ := Nms.at1 (hf.li.below hall) hlt
          have hnm := hm.ln _ (List.getElem_mem hlt)
          have hpre := Pl.prn_len Pl.limW f.li _ (lim_len hm) k
          have HN := Pl.prn_succ Pl.limW hlt
          obtain ⟨nm, hsx⟩ : ∃ s, f.li[k] = s := ⟨_, rfl⟩
          obtain ⟨l, rfl, hl⟩ := ba_list nm
          rw [hsx] at q0 hnm HN
          rw [← hl] at hnm
          clear hsx hl
          subst hA
          obtain ⟨P, hP0⟩ : ∃ P, Pl.prn Pl.limW f.li k = P := ⟨_, rfl⟩
          have HQ : Hid (((((P1 ++ P) ++ [108, 105, 109, 105, 116, 32]) ++ l) ++ [10]) = P1 ++ Pl.prn Pl.limW f.li (k + 1)) := Lib.hid (by
            rw [HN, hP0]
            unfold Pl.limW Pl.lineL
            rw [List.map_cons, List.map_cons, List.map_nil, Pl.join2]
            simp [Pl.wLimit])
          rw [hP0] at hpre ⊢
          have hQl : (P1 ++ P).length ≤ 100000000 := by rw [List.length_append]; omega
          obtain ⟨Q, hQ⟩ : ∃ Q, P1 ++ P = Q := ⟨_, rfl⟩
          rw [hQ] at HQ hQl ⊢
          have t1 := fun W => addL Q [108, 105, 109, 105, 116, 32] (by omega) (by decide) W
          obtain ⟨Q1, hQ1⟩ : ∃ X, Q ++ [108, 105, 109, 105, 116, 32] = X := ⟨_, rfl⟩
          have g1 : Q1.length ≤ 100000010 := by rw [← hQ1]; simp; omega
          rw [hQ1] at t1 HQ
          have t2 := fun W => addL Q1 l (by omega) (by omega) W
          obtain ⟨Q2, hQ2⟩ : ∃ X, Q1 ++ l = X := ⟨_, rfl⟩
          have g2 : Q2.length ≤ 101100010 := by rw [← hQ2]; simp; omega
          rw [hQ2] at t2 HQ
          have t3 := fun W => addL Q2 [10] (by omega) (by decide) W
          rw [HQ.out] at t3
          have e1 : (0 : Int) ≤ (k : Int) := by omega
          have e2 : (k : Int) < (f.li.length : Int) := by omega
          clear HN hP0 hQ hQ1 hQ2
          go_wp2
          go_roundw
          case rel => exact ⟨k + 1, by omega, by go_num, rfl, kb, hall⟩
          case measure => first | (simp [intOf]; done) | (simp [intOf]; omega)
        · obtain rfl : k = f.li.length := by omega
          have hp2 := Pl.prn_len Pl.limW f.li _ (lim_len hm) f.li.length
          obtain ⟨P2, hP2⟩ : ∃ P, P1 ++ Pl.prn Pl.limW f.li f.li.length = P := ⟨_, rfl⟩
          have hp3 : P2.length ≤ 12000000 + 10000000 := by rw [← hP2, List.length_append]; omega
          rw [hP2]
          have HP2 := Lib.hid hP2
          clear hP2 hp1 hp2
          go_wp2
          go_loopw [3, 6] (fun o i wr => ∃ (k : Nat), k ≤ f.pa.length ∧ i = .int .i64 k ∧ o = .string ⟨(P2 ++ Pl.prn (Pl.parW f) f.pa k).toArray⟩ ∧ wr.heap[w.heap.size]? = some (.cells #[.slice A1 f.st.length c1, .slice A2 f.li.length c2, .slice A3 f.pa.length c3, .slice A4 f.va.length c4] 28 (0, 0)) ∧ Below w.heap.size w wr) (fun _ i _ => f.pa.length - (intOf i).toNat)
          case atStart => exact ⟨0, by omega, rfl, by rw [Pl.prn_zero, List.append_nil], kb, hall⟩
          case round =>
            clear kb hckb hfkb hltkb hall hsz
            obtain ⟨k, hk, rfl, rfl, kb, hall⟩ := hrel
            obtain ⟨hckb, hfkb⟩ := blk_cells kb
            have hltkb := (Array.getElem?_eq_some_iff.1 kb).1
            have hsz := hall.size
            by_cases hlt : k < f.pa.length
            · obtain ⟨b3, off3, hA3, hbB3, q0, q1, q2, q3⟩ := Pars.at4 (hf.pa.below hall) hlt
              have hpre := Pl.prn_len (Pl.parW f) f.pa _ (par_len hm) k
              have hnm := hm.pn _ (List.getElem_mem hlt)
              have HN := Pl.prn_succ (Pl.parW f) hlt
              have po := Pl.parIn_all (hpk.out _ (List.getElem_mem hlt))
              obtain ⟨⟨nm, ps, pf, pt⟩, hsx⟩ : ∃ s, f.pa[k] = s := ⟨_, rfl⟩
              rw [hsx] at q0 q1 q2 q3 HN po hnm
              obtain ⟨p1, p2, p3, p4, p5, p6⟩ := po
              simp only at p1 p2 p3 p4 p5 p6 q0 q1 q2 q3 hnm
              clear hsx
              obtain ⟨sn, rfl⟩ := Int.eq_ofNat_of_zero_le p1
              obtain ⟨fn, rfl⟩ := Int.eq_ofNat_of_zero_le p3
              obtain ⟨tn, rfl⟩ := Int.eq_ofNat_of_zero_le p5
              have hs1 : sn < f.li.length := by omega
              have hs2 : fn < f.st.length := by omega
              have hs3 : tn < f.st.length := by omega
              have hW : Pl.parW f ⟨nm, sn, fn, tn⟩ = [Pl.wParcel, nm, f.li[sn], f.st[fn].1, f.st[tn].1] := by
                simp [Pl.parW, Pl.liN, Pl.stN, List.getElem?_eq_getElem hs1, List.getElem?_eq_getElem hs2, List.getElem?_eq_getElem hs3]
              rw [hW] at HN
              have z1 := hm.ln _ (List.getElem_mem hs1)
              have z2 := hm.sn _ (List.getElem_mem hs2)
              have z3 := hm.sn _ (List.getElem_mem hs3)
              obtain ⟨b2, off2, hA2, hbB2, r0⟩ := Nms.at1 (hf.li.below hall) hs1
              obtain ⟨b1, off1, hA1, hbB1, u0, _⟩ := Stas.at2 (hf.st.below hall) hs2
              obtain ⟨b1', off1', hA1', _, v0, _⟩ := Stas.at2 (hf.st.below hall) hs3
              rw [hA1] at hA1'
              obtain ⟨rfl, rfl⟩ : b1 = b1' ∧ off1 = off1' := by simpa using hA1'
              obtain ⟨n1, hn1⟩ : ∃ s, f.li[sn] = s := ⟨_, rfl⟩
              obtain ⟨n2, hn2⟩ : ∃ s, f.st[fn].1 = s := ⟨_, rfl⟩
              obtain ⟨n3, hn3⟩ : ∃ s, f.st[tn].1 = s := ⟨_, rfl⟩
              rw [hn1] at r0 HN z1
              rw [hn2] at u0 HN z2
              rw [hn3] at v0 HN z3
              clear hW hA1' hn1 hn2 hn3
              obtain ⟨l0, rfl, w0⟩ := ba_list nm
              obtain ⟨l1, rfl, w1'⟩ := ba_list n1
              obtain ⟨l2, rfl, w2'⟩ := ba_list n2
              obtain ⟨l3, rfl, w3'⟩ := ba_list n3
              rw [← w0] at hnm
              rw [← w1'] at z1
              rw [← w2'] at z2
              rw [← w3'] at z3
              clear w0 w1' w2' w3'
              subst hA1 hA2 hA3
              obtain ⟨P, hP0⟩ : ∃ P, Pl.prn (Pl.parW f) f.pa k = P := ⟨_, rfl⟩
              have HQ : Hid (((((((((((P2 ++ P) ++ [112, 97, 114, 99, 101, 108, 32]) ++ l0) ++ [32]) ++ l1) ++ [32]) ++ l2) ++ [32]) ++ l3) ++ [10]) = P2 ++ Pl.prn (Pl.parW f) f.pa (k + 1)) := Lib.hid (by
                rw [HN, hP0]
                unfold Pl.lineL
                rw [List.map_cons, List.map_cons, List.map_cons, List.map_cons, List.map_cons, List.map_nil, Pl.join5]
                simp [Pl.wParcel])
              rw [hP0] at hpre ⊢
              have hQl : (P2 ++ P).length ≤ 100000000 := by rw [List.length_append]; omega
              obtain ⟨Q, hQ⟩ : ∃ Q, P2 ++ P = Q := ⟨_, rfl⟩
              rw [hQ] at HQ hQl ⊢
              have t1 := fun W => addL Q [112, 97, 114, 99, 101, 108, 32] (by omega) (by decide) W
              obtain ⟨Q1, hQ1⟩ : ∃ X, Q ++ [112, 97, 114, 99, 101, 108, 32] = X := ⟨_, rfl⟩
              have g1 : Q1.length ≤ 100000010 := by rw [← hQ1]; simp; omega
              rw [hQ1] at t1 HQ
              have t2 := fun W => addL Q1 l0 (by omega) (by omega) W
              obtain ⟨Q2, hQ2⟩ : ∃ X, Q1 ++ l0 = X := ⟨_, rfl⟩
              have g2 : Q2.length ≤ 100200010 := by rw [← hQ2]; simp; omega
              rw [hQ2] at t2 HQ
              have t3 := fun W => addL Q2 [32] (by omega) (by decide) W
              obtain ⟨Q3, hQ3⟩ : ∃ X, Q2 ++ [32] = X := ⟨_, rfl⟩
              have g3 : Q3.length ≤ 100200020 := by rw [← hQ3]; simp; omega
              rw [hQ3] at t3 HQ
              have t4 := fun W => addL Q3 l1 (by omega) (by omega) W
              obtain ⟨Q4, hQ4⟩ : ∃ X, Q3 ++ l1 = X := ⟨_, rfl⟩
              have g4 : Q4.length ≤ 100400020 := by rw [← hQ4]; simp; omega
              rw [hQ4] at t4 HQ
              have t5 := fun W => addL Q4 [32] (by omega) (by decide) W
              obtain ⟨Q5, hQ5⟩ : ∃ X, Q4 ++ [32] = X := ⟨_, rfl⟩
              have g5 : Q5.length ≤ 100400030 := by rw [← hQ5]; simp; omega
              rw [hQ5] at t5 HQ
              have t6 := fun W => addL Q5 l2 (by omega) (by omega) W
              obtain ⟨Q6, hQ6⟩ : ∃ X, Q5 ++ l2 = X := ⟨_, rfl⟩
              have g6 : Q6.length ≤ 100600030 := by rw [← hQ6]; simp; omega
              rw [hQ6] at t6 HQ
              have t7 := fun W => addL Q6 [32] (by omega) (by decide) W
              obtain ⟨Q7, hQ7⟩ : ∃ X, Q6 ++ [32] = X := ⟨_, rfl⟩
              have g7 : Q7.length ≤ 100600040 := by rw [← hQ7]; simp; omega
              rw [hQ7] at t7 HQ
              have t8 := fun W => addL Q7 l3 (by omega) (by omega) W
              obtain ⟨Q8, hQ8⟩ : ∃ X, Q7 ++ l3 = X := ⟨_, rfl⟩
              have g8 : Q8.length ≤ 100800040 := by rw [← hQ8]; simp; omega
              rw [hQ8] at t8 HQ
              have t9 := fun W => addL Q8 [10] (by omega) (by decide) W
              rw [HQ.out] at t9
              clear hQ1 hQ2 hQ3 hQ4 hQ5 hQ6 hQ7 hQ8
              have kq := heap_alloc_new wr (.cells #[.string ⟨l0.toArray⟩, .int .i64 sn, .int .i64 fn, .int .i64 tn] 112)
              obtain ⟨hckq, hfkq⟩ := blk_cells kq
              have a1 : (0 : Int) ≤ (sn : Int) := by omega
              have a2 : (sn : Int) < (f.li.length : Int) := by omega
              have a3 : (0 : Int) ≤ (fn : Int) := by omega
              have a4 : (fn : Int) < (f.st.length : Int) := by omega
              have a5 : (0 : Int) ≤ (tn : Int) := by omega
              have a6 : (tn : Int) < (f.st.length : Int) := by omega
              have l1' : decide ((sn : Int) < 0) = false := by simp
              have l2' : decide (f.li.length ≤ sn) = false := by simp; omega
              have l3' : decide ((fn : Int) < 0) = false := by simp
              have l4' : decide (f.st.length ≤ fn) = false := by simp; omega
              have l5' : decide ((tn : Int) < 0) = false := by simp
              have l6' : decide (f.st.length ≤ tn) = false := by simp; omega
              have e1 : (0 : Int) ≤ (k : Int) := by omega
              have e2 : (k : Int) < (f.pa.length : Int) := by omega
              have hbX := (Below.refl wr.heap.size wr).alloc (Nat.le_refl _) (.cells #[.string ⟨l0.toArray⟩, .int .i64 (sn : Int), .int .i64 fn, .int .i64 tn] 112)
              have kbX := (hbX.block w.heap.size (by omega)).trans kb
              obtain ⟨hckbX, _⟩ := blk_cells kbX
              have rX := (hbX.cell (p := ⟨b2, off2 + sn, none⟩) (show b2 < wr.heap.size by omega)).trans r0
              have uX := (hbX.cell (p := ⟨b1, off1 + fn * 2, none⟩) (show b1 < wr.heap.size by omega)).trans u0
              have vX := (hbX.cell (p := ⟨b1, off1 + tn * 2, none⟩) (show b1 < wr.heap.size by omega)).trans v0
              have hallX := hall.trans (hbX.mono (by omega))
              clear HN hP0 hQ
              go_wp2
              go_region_held3 (fun W => (∀ j, W.cell? ⟨wr.heap.size, j, none⟩ = (#[.string ⟨l0.toArray⟩, .int .i64 (sn : Int), .int .i64 fn, .int .i64 tn] : Array Value)[j]?) ∧ (∀ j, W.cell? ⟨w.heap.size, j, none⟩ = (#[.slice (some ⟨b1, off1, none⟩) f.st.length c1, .slice (some ⟨b2, off2, none⟩) f.li.length c2, .slice (some ⟨b3, off3, none⟩) f.pa.length c3, .slice A4 f.va.length c4] : Array Value)[j]?) ∧ W.cell? ⟨b2, off2 + sn, none⟩ = some (.string ⟨l1.toArray⟩) ∧ W.cell? ⟨b1, off1 + fn * 2, none⟩ = some (.string ⟨l2.toArray⟩) ∧ W.cell? ⟨b1, off1 + tn * 2, none⟩ = some (.string ⟨l3.toArray⟩)) (exact ⟨hckq, hckbX, rX, uX, vX⟩) (fail)
              all_goals go_wp2
              all_goals (
                go_roundw
                case rel => exact ⟨k + 1, by omega, by go_num, rfl, kbX, by first | exact below_drewN hallX _ | exact hallX.drew | go_grown⟩
                case measure => first | (simp [intOf]; done) | (simp [intOf]; omega))
            · obtain rfl : k = f.pa.length := by omega
              have hp4 := Pl.prn_len (Pl.parW f) f.pa _ (par_len hm) f.pa.length
              obtain ⟨P3, hP3⟩ : ∃ P, P2 ++ Pl.prn (Pl.parW f) f.pa f.pa.length = P := ⟨_, rfl⟩
              have hp5 : P3.length ≤ 22000000 + 40000000 := by rw [← hP3, List.length_append]; omega
              rw [hP3]
              have HP3 := Lib.hid hP3
              clear hP3 hp3 hp4
              go_wp2
              go_loopw [3, 8] (fun o i wr => ∃ (k : Nat), k ≤ f.va.length ∧ i = .int .i64 k ∧ o = .string ⟨(P3 ++ Pl.prn Pl.varW f.va k).toArray⟩ ∧ wr.heap[w.heap.size]? = some (.cells #[.slice A1 f.st.length c1, .slice A2 f.li.length c2, .slice A3 f.pa.length c3, .slice A4 f.va.length c4] 28 (0, 0)) ∧ Below w.heap.size w wr) (fun _ i _ => f.va.length - (intOf i).toNat)
              case atStart => exact ⟨0, by omega, rfl, by rw [Pl.prn_zero, List.append_nil], kb, hall⟩
              case round =>
                clear kb hckb hfkb hltkb hall hsz
                obtain ⟨k, hk, rfl, rfl, kb, hall⟩ := hrel
                obtain ⟨hckb, hfkb⟩ := blk_cells kb
                have hltkb := (Array.getElem?_eq_some_iff.1 kb).1
                have hsz := hall.size
                have hvm := hm.va
                by_cases hlt : k < f.va.length
                · obtain ⟨b0, off, hA, hbB, q0, q1⟩ := Vars.at2 (hf.va.below hall) hlt
                  have hxx := hva0.out _ (List.getElem_mem hlt)
                  have hpre := Pl.prn_len Pl.varW f.va _ (var_len hva0.out) k
                  have HN := Pl.prn_succ Pl.varW hlt
                  obtain ⟨⟨x, y⟩, hsx⟩ : ∃ s, f.va[k] = s := ⟨_, rfl⟩
                  rw [hsx] at q0 q1 hxx HN
                  obtain ⟨⟨x0, x1⟩, y0, y1⟩ := hxx
                  simp only at x0 x1 y0 y1 q0 q1
                  clear hsx
                  subst hA
                  obtain ⟨P, hP0⟩ : ∃ P, Pl.prn Pl.varW f.va k = P := ⟨_, rfl⟩
                  have hdx : (Lib.itoa x).length ≤ 21 := Lib.itoa_length_le x (by omega) (by omega)
                  have hdy : (Lib.itoa y).length ≤ 21 := Lib.itoa_length_le y (by omega) (by omega)
                  have HQ : Hid (((((((P3 ++ P) ++ [118, 97, 114, 105, 97, 116, 105, 111, 110, 32]) ++ Lib.itoa x) ++ [32]) ++ Lib.itoa y) ++ [10]) = P3 ++ Pl.prn Pl.varW f.va (k + 1)) := Lib.hid (by
                    rw [HN, hP0]
                    unfold Pl.varW Pl.lineL
                    rw [List.map_cons, List.map_cons, List.map_cons, List.map_nil, Pl.join3]
                    simp [Pl.wVariation, Pl.spelt])
                  rw [hP0] at hpre ⊢
                  have hQl : (P3 ++ P).length ≤ 200000000000 := by rw [List.length_append]; omega
                  obtain ⟨Q, hQ⟩ : ∃ Q, P3 ++ P = Q := ⟨_, rfl⟩
                  rw [hQ] at HQ hQl ⊢
                  have t1 := fun W => addL Q [118, 97, 114, 105, 97, 116, 105, 111, 110, 32] (by omega) (by decide) W
                  obtain ⟨Q1, hQ1⟩ : ∃ X, Q ++ [118, 97, 114, 105, 97, 116, 105, 111, 110, 32] = X := ⟨_, rfl⟩
                  have g1 : Q1.length ≤ 200000000010 := by rw [← hQ1]; simp; omega
                  rw [hQ1] at t1 HQ
                  have t2 := fun W => addL Q1 (Lib.itoa x) (by omega) (by omega) W
                  obtain ⟨Q2, hQ2⟩ : ∃ X, Q1 ++ Lib.itoa x = X := ⟨_, rfl⟩
                  have g2 : Q2.length ≤ 200000000110 := by rw [← hQ2]; simp; omega
                  rw [hQ2] at t2 HQ
                  have t3 := fun W => addL Q2 [32] (by omega) (by decide) W
                  obtain ⟨Q3, hQ3⟩ : ∃ X, Q2 ++ [32] = X := ⟨_, rfl⟩
                  have g3 : Q3.length ≤ 200000000120 := by rw [← hQ3]; simp; omega
                  rw [hQ3] at t3 HQ
                  have t4 := fun W => addL Q3 (Lib.itoa y) (by omega) (by omega) W
                  obtain ⟨Q4, hQ4⟩ : ∃ X, Q3 ++ Lib.itoa y = X := ⟨_, rfl⟩
                  have g4 : Q4.length ≤ 200000000220 := by rw [← hQ4]; simp; omega
                  rw [hQ4] at t4 HQ
                  have t5 := fun W => addL Q4 [10] (by omega) (by decide) W
                  rw [HQ.out] at t5
                  have dx := fun W => digits3_i x W (by omega) (by omega)
                  have dy := fun W => digits3_i y W (by omega) (by omega)
                  have e1 : (0 : Int) ≤ (k : Int) := by omega
                  have e2 : (k : Int) < (f.va.length : Int) := by omega
                  obtain ⟨tk1, _⟩ : ∃ n : Nat, n = n := ⟨0, rfl⟩
                  clear HN hP0 hQ hQ1 hQ2 hQ3 hQ4
                  go_wp2
                  go_region_held3 (fun W => (∀ j, W.cell? ⟨w.heap.size, j, none⟩ = (#[.slice A1 f.st.length c1, .slice A2 f.li.length c2, .slice A3 f.pa.length c3, .slice (some ⟨b0, off, none⟩) f.va.length c4] : Array Value)[j]?) ∧ W.cell? ⟨b0, off + k * 2, none⟩ = some (.int .i64 x) ∧ W.cell? ⟨b0, off + k * 2 + 1, none⟩ = some (.int .i64 y)) (first | exact ⟨hckb, q0, q1⟩ | exact ⟨hckb4, q04, q14⟩ | exact ⟨hckb2, q02, q12⟩) (first
                    | (go_at_call 95; clear tk1; refine (dx _).mono ?_; rintro e w2 ⟨rfl, hx⟩; have h02 : Below wr.heap.size wr w2 := Below.trans (by go_grown) (hx.mono (by go_size)); have hs2 := h02.size; have kb2 := (h02.block w.heap.size hltkb).trans kb; obtain ⟨hckb2, hfkb2⟩ := blk_cells kb2; have q02 := (h02.cell (p := ⟨b0, off + k * 2, none⟩) (show b0 < wr.heap.size by omega)).trans q0; have q12 := (h02.cell (p := ⟨b0, off + k * 2 + 1, none⟩) (show b0 < wr.heap.size by omega)).trans q1; have hall2 := hall.trans (h02.mono (by omega)))
                    | (go_at_call 95; refine (dy _).mono ?_; rintro e w4 ⟨rfl, hx⟩; have h24 : Below w2.heap.size w2 w4 := Below.trans (by go_grown) (hx.mono (by go_size)); have h04 := h02.trans (h24.mono hs2); have kb4 := (h04.block w.heap.size hltkb).trans kb; obtain ⟨hckb4, hfkb4⟩ := blk_cells kb4; have q04 := (h04.cell (p := ⟨b0, off + k * 2, none⟩) (show b0 < wr.heap.size by omega)).trans q0; have q14 := (h04.cell (p := ⟨b0, off + k * 2 + 1, none⟩) (show b0 < wr.heap.size by omega)).trans q1; have hall4 := hall.trans (h04.mono (by omega))))
                  all_goals go_wp2
                  all_goals (
                    go_roundw
                    case rel => exact ⟨k + 1, by omega, by go_num, rfl, kb4, hall4⟩
                    case measure => first | (simp [intOf]; done) | (simp [intOf]; omega))
                · obtain rfl : k = f.va.length := by omega
                  have HR : Hid (P3 ++ Pl.prn Pl.varW f.va f.va.length = Pl.printL f) := Lib.hid (by unfold Pl.printL; rw [← HP3.out, ← HP2.out, ← HP1.out])
                  go_wp2
                  go_ret
                  exact ⟨by rw [HR.out]; rfl, hall⟩
set_option maxRecDepth 100000 in
theorem PrintFieldB_no (A1 A2 A3 A4 : Option Addr) (c1 c2 c3 c4 : Nat) (f : Pl.Fld) (w : World) (hf : FldS w w.heap.size A1 A2 A3 A4 f) (hm : Small f) (hc : Caps c1 c2 c3 c4 f) (hE : Pl.fieldE f ≠ 0) :
    Calls Tryz.prog 45 #[.agg #[.slice A1 f.st.length c1, .slice A2 f.li.length c2, .slice A3 f.pa.length c3, .slice A4 f.va.length c4]] w fun e w' => e = .returned (.string ⟨#[]⟩) ∧ Below w.heap.size w w' := by
  obtain ⟨E, he⟩ : ∃ E, Pl.fieldE f = E := ⟨_, rfl⟩
  rw [he] at hE
  have HE := Lib.hid he
  have hne : (E != 0) = true := by simpa using hE
  clear he hE
  have kb := heap_alloc_new w (.cells #[.slice A1 f.st.length c1, .slice A2 f.li.length c2, .slice A3 f.pa.length c3, .slice A4 f.va.length c4] 28)
  go_enter Tryz.func45, Tryz.ntmps45
  go_wp2_with (go_at_call 43; refine (checkFieldB_h A1 A2 A3 A4 c1 c2 c3 c4 f E _ HE (hf.up (by go_grown)) hm hc).mono ?_; rintro e w1 ⟨rfl, hx⟩; have kb := (hx.block (w.heap.size) (by first | exact (Array.getElem?_eq_some_iff.1 kb).1 | omega | (simp; done) | (simp; omega))).trans (by first | exact kb | exact (Below.heap_alloc _ _ _ (Array.getElem?_eq_some_iff.1 kb).1).trans kb); obtain ⟨hckb, hfkb⟩ := blk_cells kb; have hltkb := (Array.getElem?_eq_some_iff.1 kb).1; have hall : Below w.heap.size w w1 := Below.trans (by go_grown) (hx.mono (by go_size)); have hsz : w.heap.size ≤ w1.heap.size := hall.size; clear hx)
  go_ret
  exact ⟨rfl, hall⟩
theorem PrintFieldB_h (A1 A2 A3 A4 : Option Addr) (c1 c2 c3 c4 : Nat) (f : Pl.Fld) (S : ByteArray) (w : World) (h : Hid (Pl.printB f = S)) (hf : FldS w w.heap.size A1 A2 A3 A4 f) (hm : Small f) (hc : Caps c1 c2 c3 c4 f) :
    Calls Tryz.prog 45 #[.agg #[.slice A1 f.st.length c1, .slice A2 f.li.length c2, .slice A3 f.pa.length c3, .slice A4 f.va.length c4]] w fun e w' => e = .returned (.string S) ∧ Below w.heap.size w w' := by
  rw [← h.out]
  unfold Pl.printB
  split
  · exact PrintFieldB_ok A1 A2 A3 A4 c1 c2 c3 c4 f w hf hm hc ‹_›
  · exact PrintFieldB_no A1 A2 A3 A4 c1 c2 c3 c4 f w hf hm hc ‹_›
end Go.Proofs.YtgbpekeoegfjpaaGreatDoor
