/- Walk: PrintField. -/
import Derived.Test.YtgbpekeoegfjpaaGreatDoorProg
import Derived.WalkKit
import Derived.WalkLawsBesides
import Derived.WalkSpells
import Derived.Handy
import Derived.Lib.Hide
import Derived.Great.BuildSlice
import Derived.Deep.QuietTactic
import Derived.BigQuiet
import Derived.Deep.RegionHeld3
import Derived.Deep.DeepCutAuto
import Derived.Test.YtgbpekeoegfjpaaGreatDoorM05
import Derived.Test.YtgbpekeoegfjpaaGreatDoorGL
namespace Go.Proofs.YtgbpekeoegfjpaaGreatDoor
open Go.RowKit

theorem line_one (ws : List ByteArray) : Pl.lineL ws = Lib.join (ws.map (·.data.toList)) [32] ++ [10] := rfl
theorem spelt_len {n : Int} (h0 : -1000000 ≤ n) (h1 : n ≤ 1000000) : (Pl.spelt n).data.toList.length ≤ 21 := by
  unfold Pl.spelt
  have := Lib.itoa_length_le n (by omega) (by omega)
  simpa using this
/-- A list just laid. -/
theorem nms_new (w : World) (ws : List ByteArray) (T : TypeId) (cs : Array Value) (h : cs.toList = ws.map fun s => Value.string s) : Nms (w.alloc (.cells cs T)) (w.alloc (.cells cs T)).heap.size (some ⟨w.heap.size, 0, none⟩) ws := by
  refine .inr ⟨w.heap.size, 0, rfl, by simp, fun k x hx j v hv => ?_⟩
  simp only [encNm] at hv
  obtain ⟨hj, rfl⟩ : j = 0 ∧ v = .string x := by
    match j, hv with
    | 0, hv => simp at hv; exact ⟨rfl, hv.symm⟩
    | j + 1, hv => simp at hv
  subst hj
  have hk := (blk_cells (heap_alloc_new w (.cells cs T))).1 k
  rw [Nat.mul_one, Nat.add_zero, Nat.zero_add, hk, ← Array.getElem?_toList, h, List.getElem?_map, hx]
  rfl
theorem list_len (s : ByteArray) : s.data.toList.length = s.size := by rw [Array.length_toList]; rfl
theorem line2_len (a b : ByteArray) : (Pl.lineL [a, b]).length = a.size + b.size + 2 := by
  unfold Pl.lineL
  rw [List.map_cons, List.map_cons, List.map_nil, Pl.join2]
  simp only [List.length_append, List.length_cons, List.length_nil, list_len]
  omega
theorem line3_len (a b c : ByteArray) : (Pl.lineL [a, b, c]).length = a.size + b.size + c.size + 3 := by
  unfold Pl.lineL
  rw [List.map_cons, List.map_cons, List.map_cons, List.map_nil, Pl.join3]
  simp only [List.length_append, List.length_cons, List.length_nil, list_len]
  omega
theorem line5_len (a b c d e : ByteArray) : (Pl.lineL [a, b, c, d, e]).length = a.size + b.size + c.size + d.size + e.size + 5 := by
  unfold Pl.lineL
  rw [List.map_cons, List.map_cons, List.map_cons, List.map_cons, List.map_cons, List.map_nil, Pl.join5]
  simp only [List.length_append, List.length_cons, List.length_nil, list_len]
  omega
theorem spelt_size {n : Int} (h0 : -1000000 ≤ n) (h1 : n ≤ 1000000) : (Pl.spelt n).size ≤ 21 := by rw [← list_len]; exact spelt_len h0 h1
theorem say2 (b : Nat) (bs : List UInt8) (a1 a2 : ByteArray) (w : World) (hbs : bs.length ≤ 100000000000000) (h : IsBd b b bs w) (hl : (Pl.lineL [a1, a2]).length ≤ 1000000) :
    Calls Tryz.prog 117 #[.slice (some ⟨w.heap.size, 0, none⟩) 2 2, .pointer (some ⟨b, 0, none⟩)] (w.alloc (.cells #[.string a1, .string a2] 9)) fun e w' => e = .returned (.tuple #[]) ∧ IsBd b b (bs ++ Pl.lineL [a1, a2]) w' ∧ Below b w w' ∧ Keeps b w w' := by
  have hb : Below w.heap.size w (w.alloc (.cells #[.string a1, .string a2] 9)) := (Below.refl _ w).alloc (Nat.le_refl _) _
  have hJ : (Lib.join ([a1, a2].map (·.data.toList)) [32]).length ≤ 1000000 := by rw [line_one, List.length_append] at hl; omega
  exact (say_a b w.heap.size 2 bs [a1, a2] _ _ (Lib.hid rfl) hJ hbs (h.below hb) (nms_new w [a1, a2] _ _ rfl) (by simp) (by simp) (by simp)).mono fun e w' ⟨he, hi, hx, hk⟩ => ⟨he, hi, (hb.mono (Nat.le_of_lt h.lt.1)).trans hx, (Keeps.of hb).trans hk⟩
theorem say3 (b : Nat) (bs : List UInt8) (a1 a2 a3 : ByteArray) (w : World) (hbs : bs.length ≤ 100000000000000) (h : IsBd b b bs w) (hl : (Pl.lineL [a1, a2, a3]).length ≤ 1000000) :
    Calls Tryz.prog 117 #[.slice (some ⟨w.heap.size, 0, none⟩) 3 3, .pointer (some ⟨b, 0, none⟩)] (w.alloc (.cells #[.string a1, .string a2, .string a3] 9)) fun e w' => e = .returned (.tuple #[]) ∧ IsBd b b (bs ++ Pl.lineL [a1, a2, a3]) w' ∧ Below b w w' ∧ Keeps b w w' := by
  have hb : Below w.heap.size w (w.alloc (.cells #[.string a1, .string a2, .string a3] 9)) := (Below.refl _ w).alloc (Nat.le_refl _) _
  have hJ : (Lib.join ([a1, a2, a3].map (·.data.toList)) [32]).length ≤ 1000000 := by rw [line_one, List.length_append] at hl; omega
  exact (say_a b w.heap.size 3 bs [a1, a2, a3] _ _ (Lib.hid rfl) hJ hbs (h.below hb) (nms_new w [a1, a2, a3] _ _ rfl) (by simp) (by simp) (by simp)).mono fun e w' ⟨he, hi, hx, hk⟩ => ⟨he, hi, (hb.mono (Nat.le_of_lt h.lt.1)).trans hx, (Keeps.of hb).trans hk⟩
theorem say5g (b g : Nat) (bs : List UInt8) (a1 a2 a3 a4 a5 : ByteArray) (w : World) (hbs : bs.length ≤ 100000000000000) (h : IsBd b b bs w) (hl : (Pl.lineL [a1, a2, a3, a4, a5]).length ≤ 1000000) (hw : Nms w w.heap.size (some ⟨g, 0, none⟩) [a1, a2, a3, a4, a5]) :
    Calls Tryz.prog 117 #[.slice (some ⟨g, 0, none⟩) 5 5, .pointer (some ⟨b, 0, none⟩)] w fun e w' => e = .returned (.tuple #[]) ∧ IsBd b b (bs ++ Pl.lineL [a1, a2, a3, a4, a5]) w' ∧ Below b w w' ∧ Keeps b w w' := by
  have hJ : (Lib.join ([a1, a2, a3, a4, a5].map (·.data.toList)) [32]).length ≤ 1000000 := by rw [line_one, List.length_append] at hl; omega
  exact say_a b g 5 bs [a1, a2, a3, a4, a5] _ w (Lib.hid rfl) hJ hbs h hw (by simp) (by simp) (by simp)
theorem sta_len {f : Pl.Fld} (hm : Small f) (hx : ∀ s ∈ f.st, 0 ≤ s.2 ∧ s.2 ≤ 100000) : ∀ s ∈ f.st, (Pl.lineL (Pl.staW s)).length ≤ 1000000 := by
  intro s hs
  unfold Pl.staW
  have h1 := hm.sn s hs
  have h2 := hx s hs
  have h3 := spelt_size (n := s.2) (by omega) (by omega)
  have h4 : Pl.wStation.size = 7 := rfl
  rw [line3_len]
  omega
theorem lim_len {f : Pl.Fld} (hm : Small f) : ∀ s ∈ f.li, (Pl.lineL (Pl.limW s)).length ≤ 1000000 := by
  intro s hs
  unfold Pl.limW
  have h1 := hm.ln s hs
  have h4 : Pl.wLimit.size = 5 := rfl
  rw [line2_len]
  omega
theorem par_len {f : Pl.Fld} (hm : Small f) : ∀ p ∈ f.pa, (Pl.lineL (Pl.parW f p)).length ≤ 1000000 := by
  intro p hp
  have h0 : ∀ i, (Pl.stN f i).size ≤ 100000 := by
    intro i
    unfold Pl.stN
    cases h : f.st[i.toNat]? with
    | none => decide
    | some s => exact hm.sn s (List.mem_of_getElem? h)
  have h1 : ∀ i, (Pl.liN f i).size ≤ 100000 := by
    intro i
    unfold Pl.liN
    cases h : f.li[i.toNat]? with
    | none => decide
    | some s => exact hm.ln s (List.mem_of_getElem? h)
  have h2 := hm.pn p hp
  have h4 : Pl.wParcel.size = 6 := rfl
  unfold Pl.parW
  have a := h1 p.south
  have b := h0 p.fr
  have c := h0 p.till
  rw [line5_len]
  omega
theorem var_len {f : Pl.Fld} (hv : ∀ v ∈ f.va, (1 ≤ v.1 ∧ v.1 ≤ 3000) ∧ -60 ≤ v.2 ∧ v.2 ≤ 60) : ∀ v ∈ f.va, (Pl.lineL (Pl.varW v)).length ≤ 1000000 := by
  intro v hm
  have h2 := hv v hm
  have h3 := spelt_size (n := v.1) (by omega) (by omega)
  have h4 := spelt_size (n := v.2) (by omega) (by omega)
  have h5 : Pl.wVariation.size = 9 := rfl
  unfold Pl.varW
  rw [line3_len]
  omega
set_option maxRecDepth 100000 in
set_option maxHeartbeats 8000000 in
theorem PrintField_ok (A1 A2 A3 A4 : Option Addr) (c1 c2 c3 c4 : Nat) (f : Pl.Fld) (w : World) (hEn : Env w) (hf : FldS w w.heap.size A1 A2 A3 A4 f) (hm : Small f) (hc : Caps c1 c2 c3 c4 f) (hE : Pl.fieldE f = 0) :
    Calls Tryz.prog 44 #[.agg #[.slice A1 f.st.length c1, .slice A2 f.li.length c2, .slice A3 f.pa.length c3, .slice A4 f.va.length c4]] w fun e w' => e = .returned (.string ⟨(Pl.printL f).toArray⟩) ∧ Below w.heap.size w w' := by
  have hok := Pl.fieldE_ok hE
  have hS := hok.st12
  have hL := hok.li10
  have hP := hok.pa40
  have hxs := hok.x
  have hxs0 := Lib.hid hxs
  have hpk := Lib.hid hok.par
  have hva0 := Lib.hid (Pl.vars_all hok.va)
  have HE := Lib.hid hE
  clear hE hok
  have kb := heap_alloc_new w (.cells #[.slice A1 f.st.length c1, .slice A2 f.li.length c2, .slice A3 f.pa.length c3, .slice A4 f.va.length c4] 28)
  have hmf : ∀ (fn : Fn) (first cap : Array Value) (w : World), (Instr.makeFunc fn first cap).run Tryz.prog w = .ok (.func fn first cap) w := fun _ _ _ _ => rfl
  go_enter Tryz.func44, Tryz.ntmps44
  go_wp2_with (go_at_call 22; refine (checkField_h A1 A2 A3 A4 c1 c2 c3 c4 f 0 _ HE (hf.up (by go_grown)) hm hc).mono ?_; rintro e w1 ⟨rfl, hx⟩; have kb := (hx.block (w.heap.size) (by first | exact (lO kb) | omega | (simp; done) | (simp; omega))).trans (by first | exact kb | exact (Below.heap_alloc _ _ _ (lO kb)).trans kb); obtain ⟨hckb, hfkb⟩ := blk_cells kb; have hltkb := (lO kb); have hall : Below w.heap.size w w1 := Below.trans (by go_grown) (hx.mono (by go_size)); have hsz : w.heap.size ≤ w1.heap.size := hall.size; clear hx)
  have hbd : IsBd w1.heap.size w1.heap.size [] (w1.alloc (.cells #[.pointer none, .slice none 0 0] 154)) := Lib.IsBuilderF.of (Lib.fresh_isBuilder _ _ _)
  have kb := (Below.heap_alloc _ (.cells #[.pointer none, .slice none 0 0] 154) _ hltkb).trans kb
  have hall : Below w.heap.size w (w1.alloc (.cells #[.pointer none, .slice none 0 0] 154)) := hall.trans ((Below.refl _ w1).alloc hsz _)
  go_loopw [20] (fun i wr => ∃ (k : Nat), k ≤ f.st.length ∧ i = .int .i64 k ∧ IsBd w1.heap.size w1.heap.size (Pl.prn Pl.staW f.st k) wr ∧ wr.heap[w.heap.size]? = some (.cells #[.slice A1 f.st.length c1, .slice A2 f.li.length c2, .slice A3 f.pa.length c3, .slice A4 f.va.length c4] 28 (0, 0)) ∧ Below w.heap.size w wr) (fun i _ => f.st.length - (intOf i).toNat)
  case atStart => exact ⟨0, by omega, rfl, by rw [Pl.prn_zero]; exact hbd, kb, hall⟩
  case round =>
    clear kb hckb hfkb hall hsz hbd
    obtain ⟨k, hk, rfl, hbd, kb, hall⟩ := hrel
    obtain ⟨hckb, hfkb⟩ := blk_cells kb
    have hltb := hbd.lt
    have hsz := hall.size
    by_cases hlt : k < f.st.length
    · obtain ⟨b0, off, hA, hbB, q0, q1⟩ := Stas.at2 (hf.st.below hall) hlt
      have hnm := hm.sn _ (List.getElem_mem hlt)
      have hxx := hxs _ (List.getElem_mem hlt)
      have hpre := Pl.prn_len Pl.staW f.st _ (sta_len hm hxs) k
      have hll := sta_len hm hxs _ (List.getElem_mem hlt)
      have HN := Lib.hid (Pl.prn_succ Pl.staW hlt)
      obtain ⟨⟨nm, x⟩, hsx⟩ : ∃ s, f.st[k] = s := ⟨_, rfl⟩
      rw [hsx] at q0 q1 hnm hxx HN hll
      simp only at q0 q1 hnm hxx
      clear hsx
      subst hA
      have kq := heap_alloc_new wr (.cells #[.string nm, .int .i64 x] 50)
      obtain ⟨hckq, hfkq⟩ := blk_cells kq
      go_wp2
      go_region_held3 (fun W => ∀ j, W.cell? ⟨wr.heap.size, j, none⟩ = (#[.string nm, .int .i64 x] : Array Value)[j]?) (first | exact hckq | exact hckq3 | exact fun j => (World.cell?_of_block (Below.heap_alloc _ _ _ hltkq)).trans (hckq j)) (first
        | (go_at_call 120; refine (itoa_lib x _ (hEn.up (by go_grown)) (by omega) (by omega)).mono ?_; rintro e w2 ⟨rfl, hx⟩; have kb := (hx.block (w.heap.size) (by first | exact (lO kb) | omega | (simp; done) | (simp; omega))).trans (by first | exact kb | exact (Below.heap_alloc _ _ _ (lO kb)).trans kb); obtain ⟨hckb, hfkb⟩ := blk_cells kb; have hltkb := (lO kb); have kq := (hx.block (wr.heap.size) (by first | exact (lO kq) | omega | (simp; done) | (simp; omega))).trans (by first | exact kq | exact (Below.heap_alloc _ _ _ (lO kq)).trans kq); obtain ⟨hckq, hfkq⟩ := blk_cells kq; have hltkq := (lO kq); have hall : Below w.heap.size w w2 := Below.trans (by go_grown) (hx.mono (by go_size)); have hsz : w.heap.size ≤ w2.heap.size := hall.size; have h02 : Below wr.heap.size wr w2 := Below.trans (by go_grown) (hx.mono (by go_size)); have hbd2 := hbd.below h02; clear hx)
        | (go_at_call 117; refine (say3 w1.heap.size _ Pl.wStation nm (Pl.spelt x) _ (by omega) hbd2 hll).mono ?_; rintro e w3 ⟨rfl, hbd3, hx3, hk3⟩; have kq3 := hk3.at_ kq (by omega) (by decide); obtain ⟨hckq3, hfkq3⟩ := blk_cells kq3; have hsz3 := hx3.size; have kb3 := (hx3.block w.heap.size (by omega)).trans kb; have hall3 := hall.trans (hx3.mono (by omega))))
      all_goals go_wp2
      all_goals (
        go_roundw
        case rel => exact ⟨k + 1, by omega, by go_num, by rw [HN.out]; exact hbd3, kb3, hall3⟩
        case measure => first | (simp [intOf]; done) | (simp [intOf]; omega))
    · obtain rfl : k = f.st.length := by omega
      clear hxs
      have hp1 := Pl.prn_len Pl.staW f.st _ (sta_len hm hxs0.out) f.st.length
      obtain ⟨P1, hP1⟩ : ∃ P, Pl.prn Pl.staW f.st f.st.length = P := ⟨_, rfl⟩
      rw [hP1] at hbd hp1
      have HP1 := Lib.hid hP1
      clear hP1
      go_wp2
      go_loopw [36] (fun i wr => ∃ (k : Nat), k ≤ f.li.length ∧ i = .int .i64 k ∧ IsBd w1.heap.size w1.heap.size (P1 ++ Pl.prn Pl.limW f.li k) wr ∧ wr.heap[w.heap.size]? = some (.cells #[.slice A1 f.st.length c1, .slice A2 f.li.length c2, .slice A3 f.pa.length c3, .slice A4 f.va.length c4] 28 (0, 0)) ∧ Below w.heap.size w wr) (fun i _ => f.li.length - (intOf i).toNat)
      case atStart => exact ⟨0, by omega, rfl, by rw [Pl.prn_zero, List.append_nil]; exact hbd, kb, hall⟩
      case round =>
        clear kb hckb hfkb hall hsz hbd hltb
        obtain ⟨k, hk, rfl, hbd, kb, hall⟩ := hrel
        obtain ⟨hckb, hfkb⟩ := blk_cells kb
        have hltb := hbd.lt
        have hsz := hall.size
        by_cases hlt : k < f.li.length
        · obtain ⟨b0, off, hA, hbB, q0⟩ := Nms.at1 (hf.li.below hall) hlt
          have hpre := Pl.prn_len Pl.limW f.li _ (lim_len hm) k
          have hll := lim_len hm _ (List.getElem_mem hlt)
          have HN := Lib.hid (Pl.prn_succ Pl.limW hlt)
          obtain ⟨nm, hsx⟩ : ∃ s, f.li[k] = s := ⟨_, rfl⟩
          rw [hsx] at q0 HN hll
          clear hsx
          subst hA
          go_wp2_with fail
          refine (say2 w1.heap.size _ Pl.wLimit nm _ (by rw [List.length_append]; omega) hbd hll).mono ?_
          rintro e w3 ⟨rfl, hbd3, hx3, hk3⟩
          have hsz3 := hx3.size
          have kb3 := (hx3.block w.heap.size (by omega)).trans kb
          have hall3 := hall.trans (hx3.mono (by omega))
          go_wp2
          go_roundw
          case rel => exact ⟨k + 1, by omega, by go_num, by rw [HN.out, ← List.append_assoc]; exact hbd3, kb3, hall3⟩
          case measure => first | (simp [intOf]; done) | (simp [intOf]; omega)
        · obtain rfl : k = f.li.length := by omega
          have hp2 := Pl.prn_len Pl.limW f.li _ (lim_len hm) f.li.length
          obtain ⟨P2, hP2⟩ : ∃ P, P1 ++ Pl.prn Pl.limW f.li f.li.length = P := ⟨_, rfl⟩
          have hp3 : P2.length ≤ 12000000 + 10000000 := by rw [← hP2, List.length_append]; omega
          rw [hP2] at hbd
          have HP2 := Lib.hid hP2
          clear hP2 hp1 hp2
          go_wp2
          go_loopw [48] (fun i wr => ∃ (k : Nat), k ≤ f.pa.length ∧ i = .int .i64 k ∧ IsBd w1.heap.size w1.heap.size (P2 ++ Pl.prn (Pl.parW f) f.pa k) wr ∧ wr.heap[w.heap.size]? = some (.cells #[.slice A1 f.st.length c1, .slice A2 f.li.length c2, .slice A3 f.pa.length c3, .slice A4 f.va.length c4] 28 (0, 0)) ∧ Below w.heap.size w wr) (fun i _ => f.pa.length - (intOf i).toNat)
          case atStart => exact ⟨0, by omega, rfl, by rw [Pl.prn_zero, List.append_nil]; exact hbd, kb, hall⟩
          case round =>
            clear kb hckb hfkb hall hsz hbd hltb
            obtain ⟨k, hk, rfl, hbd, kb, hall⟩ := hrel
            obtain ⟨hckb, hfkb⟩ := blk_cells kb
            have hltb := hbd.lt
            have hsz := hall.size
            by_cases hlt : k < f.pa.length
            · obtain ⟨b3, off3, hA3, hbB3, q0, q1, q2, q3⟩ := Pars.at4 (hf.pa.below hall) hlt
              have hpre := Pl.prn_len (Pl.parW f) f.pa _ (par_len hm) k
              have hll := par_len hm _ (List.getElem_mem hlt)
              have HN := Lib.hid (Pl.prn_succ (Pl.parW f) hlt)
              have po := Pl.parIn_all (hpk.out _ (List.getElem_mem hlt))
              obtain ⟨⟨nm, ps, pf, pt⟩, hsx⟩ : ∃ s, f.pa[k] = s := ⟨_, rfl⟩
              rw [hsx] at q0 q1 q2 q3 HN hll po
              obtain ⟨p1, p2, p3, p4, p5, p6⟩ := po
              simp only at p1 p2 p3 p4 p5 p6 q0 q1 q2 q3
              clear hsx
              obtain ⟨sn, rfl⟩ := Int.eq_ofNat_of_zero_le p1
              obtain ⟨fn, rfl⟩ := Int.eq_ofNat_of_zero_le p3
              obtain ⟨tn, rfl⟩ := Int.eq_ofNat_of_zero_le p5
              have hs1 : sn < f.li.length := by omega
              have hs2 : fn < f.st.length := by omega
              have hs3 : tn < f.st.length := by omega
              have hW : Pl.parW f ⟨nm, sn, fn, tn⟩ = [Pl.wParcel, nm, f.li[sn], f.st[fn].1, f.st[tn].1] := by
                simp [Pl.parW, Pl.liN, Pl.stN, List.getElem?_eq_getElem hs1, List.getElem?_eq_getElem hs2, List.getElem?_eq_getElem hs3]
              rw [hW] at HN hll
              obtain ⟨b2, off2, hA2, hbB2, r0⟩ := Nms.at1 (hf.li.below hall) hs1
              obtain ⟨b1, off1, hA1, hbB1, u0, _⟩ := Stas.at2 (hf.st.below hall) hs2
              obtain ⟨b1', off1', hA1', _, v0, _⟩ := Stas.at2 (hf.st.below hall) hs3
              rw [hA1] at hA1'
              obtain ⟨rfl, rfl⟩ : b1 = b1' ∧ off1 = off1' := by simpa using hA1'
              obtain ⟨n1, hn1⟩ : ∃ s, f.li[sn] = s := ⟨_, rfl⟩
              obtain ⟨n2, hn2⟩ : ∃ s, f.st[fn].1 = s := ⟨_, rfl⟩
              obtain ⟨n3, hn3⟩ : ∃ s, f.st[tn].1 = s := ⟨_, rfl⟩
              rw [hn1] at r0 HN hll
              rw [hn2] at u0 HN hll
              rw [hn3] at v0 HN hll
              clear hW hA1' hn1 hn2 hn3
              subst hA1 hA2 hA3
              have kq := heap_alloc_new wr (.cells #[.string nm, .int .i64 sn, .int .i64 fn, .int .i64 tn] 112)
              obtain ⟨hckq, hfkq⟩ := blk_cells kq
              have a1 : (0 : Int) ≤ (sn : Int) := by omega
              have a2 : (sn : Int) < (f.li.length : Int) := by omega
              have a3 : (0 : Int) ≤ (fn : Int) := by omega
              have a4 : (fn : Int) < (f.st.length : Int) := by omega
              have a5 : (0 : Int) ≤ (tn : Int) := by omega
              have a6 : (tn : Int) < (f.st.length : Int) := by omega
              have l1 : decide ((sn : Int) < 0) = false := by simp
              have l2 : decide (f.li.length ≤ sn) = false := by simp; omega
              have l3 : decide ((fn : Int) < 0) = false := by simp
              have l4 : decide (f.st.length ≤ fn) = false := by simp; omega
              have l5 : decide ((tn : Int) < 0) = false := by simp
              have l6 : decide (f.st.length ≤ tn) = false := by simp; omega
              obtain ⟨X, hX⟩ : ∃ X, (wr.alloc (.cells #[.string nm, .int .i64 (sn : Int), .int .i64 fn, .int .i64 tn] 112)) = X := ⟨_, rfl⟩
              have hbX : Below wr.heap.size wr X := hX ▸ (Below.refl wr.heap.size wr).alloc (Nat.le_refl _) _
              have hXs : X.heap.size = wr.heap.size + 1 := by rw [← hX]; simp
              rw [hX] at kq hckq
              have hbXY : Below X.heap.size X (X.alloc (.cells #[.string Pl.wParcel, .string nm, .string n1, .string n2, .string n3] 9)) := (Below.refl _ X).alloc (Nat.le_refl _) _
              have hbY := hbX.trans (hbXY.mono (by omega))
              have hbdY := hbd.below hbY
              have kbX := (hbX.block w.heap.size (by omega)).trans kb
              have kbY := (hbY.block w.heap.size (by omega)).trans kb
              have kqY := (hbXY.block wr.heap.size (by omega)).trans kq
              obtain ⟨hckbX, _⟩ := blk_cells kbX
              obtain ⟨hckbY, _⟩ := blk_cells kbY
              obtain ⟨hckqY, _⟩ := blk_cells kqY
              have rX := (hbX.cell (p := ⟨b2, off2 + sn, none⟩) (show b2 < wr.heap.size by omega)).trans r0
              have uX := (hbX.cell (p := ⟨b1, off1 + fn * 2, none⟩) (show b1 < wr.heap.size by omega)).trans u0
              have vX := (hbX.cell (p := ⟨b1, off1 + tn * 2, none⟩) (show b1 < wr.heap.size by omega)).trans v0
              have rY := (hbY.cell (p := ⟨b2, off2 + sn, none⟩) (show b2 < wr.heap.size by omega)).trans r0
              have uY := (hbY.cell (p := ⟨b1, off1 + fn * 2, none⟩) (show b1 < wr.heap.size by omega)).trans u0
              have vY := (hbY.cell (p := ⟨b1, off1 + tn * 2, none⟩) (show b1 < wr.heap.size by omega)).trans v0
              have hNY := nms_new X [Pl.wParcel, nm, n1, n2, n3] 9 #[.string Pl.wParcel, .string nm, .string n1, .string n2, .string n3] rfl
              rw [hXs] at hNY
              have hallY := hall.trans (hbY.mono (by omega))
              have hbdZ : IsBd w1.heap.size w1.heap.size (P2 ++ Pl.prn (Pl.parW f) f.pa k) (X.alloc (.cells #[.string Pl.wParcel, .string nm, .string n1, .string n2, .string n3] 9)).drew := hbdY
              have hNZ : Nms (X.alloc (.cells #[.string Pl.wParcel, .string nm, .string n1, .string n2, .string n3] 9)).drew (X.alloc (.cells #[.string Pl.wParcel, .string nm, .string n1, .string n2, .string n3] 9)).drew.heap.size (some ⟨wr.heap.size + 1, 0, none⟩) [Pl.wParcel, nm, n1, n2, n3] := hNY
              have hafter : ∀ w3, Below w1.heap.size (X.alloc (.cells #[.string Pl.wParcel, .string nm, .string n1, .string n2, .string n3] 9)).drew w3 → Keeps w1.heap.size (X.alloc (.cells #[.string Pl.wParcel, .string nm, .string n1, .string n2, .string n3] 9)).drew w3 → ((∀ j, w3.cell? ⟨wr.heap.size, j, none⟩ = (#[.string nm, .int .i64 (sn : Int), .int .i64 fn, .int .i64 tn] : Array Value)[j]?) ∧ (∀ j, w3.cell? ⟨w.heap.size, j, none⟩ = (#[.slice (some ⟨b1, off1, none⟩) f.st.length c1, .slice (some ⟨b2, off2, none⟩) f.li.length c2, .slice (some ⟨b3, off3, none⟩) f.pa.length c3, .slice A4 f.va.length c4] : Array Value)[j]?) ∧ w3.cell? ⟨b2, off2 + sn, none⟩ = some (.string n1) ∧ w3.cell? ⟨b1, off1 + fn * 2, none⟩ = some (.string n2) ∧ w3.cell? ⟨b1, off1 + tn * 2, none⟩ = some (.string n3)) ∧ w3.heap[w.heap.size]? = some (.cells #[.slice (some ⟨b1, off1, none⟩) f.st.length c1, .slice (some ⟨b2, off2, none⟩) f.li.length c2, .slice (some ⟨b3, off3, none⟩) f.pa.length c3, .slice A4 f.va.length c4] 28 (0, 0)) ∧ Below w.heap.size w w3 := by
                intro w3 hx3 hk3
                have kq3 := hk3.at_ (k := wr.heap.size) kqY (by omega) (by decide)
                have kb3 := (hx3.block w.heap.size (by omega)).trans kbY
                have h8 : Below w.heap.size w (X.alloc (.cells #[.string Pl.wParcel, .string nm, .string n1, .string n2, .string n3] 9)).drew := by first | exact hallY.drew | exact below_drewN hallY 1
                have h9 : Below w.heap.size (X.alloc (.cells #[.string Pl.wParcel, .string nm, .string n1, .string n2, .string n3] 9)).drew w3 := hx3.mono (by omega)
                exact ⟨⟨(blk_cells kq3).1, (blk_cells kb3).1, (hx3.cell (p := ⟨b2, off2 + sn, none⟩) (show b2 < w1.heap.size by omega)).trans rY, (hx3.cell (p := ⟨b1, off1 + fn * 2, none⟩) (show b1 < w1.heap.size by omega)).trans uY, (hx3.cell (p := ⟨b1, off1 + tn * 2, none⟩) (show b1 < w1.heap.size by omega)).trans vY⟩, kb3, h8.trans h9⟩
              have hafter := Lib.hid hafter
              clear hfkq hfkb
              subst hX
              go_wp2
              go_region_held3 (fun W => (∀ j, W.cell? ⟨wr.heap.size, j, none⟩ = (#[.string nm, .int .i64 (sn : Int), .int .i64 fn, .int .i64 tn] : Array Value)[j]?) ∧ (∀ j, W.cell? ⟨w.heap.size, j, none⟩ = (#[.slice (some ⟨b1, off1, none⟩) f.st.length c1, .slice (some ⟨b2, off2, none⟩) f.li.length c2, .slice (some ⟨b3, off3, none⟩) f.pa.length c3, .slice A4 f.va.length c4] : Array Value)[j]?) ∧ W.cell? ⟨b2, off2 + sn, none⟩ = some (.string n1) ∧ W.cell? ⟨b1, off1 + fn * 2, none⟩ = some (.string n2) ∧ W.cell? ⟨b1, off1 + tn * 2, none⟩ = some (.string n3))
                (first | exact ⟨hckq, hckbX, rX, uX, vX⟩ | exact ⟨hckqY, hckbY, rY, uY, vY⟩ | exact ha3)
                (first | (go_at_call 117; refine (say5g w1.heap.size _ _ Pl.wParcel nm n1 n2 n3 _ (by rw [List.length_append]; omega) hbdZ hll hNZ).mono ?_; rintro e w3 ⟨rfl, hbd3, hx3, hk3⟩; obtain ⟨ha3, kb3, hall3⟩ := hafter.out w3 hx3 hk3))
              all_goals go_wp2
              all_goals (
                go_roundw
                case rel => exact ⟨k + 1, by omega, by go_num, by rw [HN.out, ← List.append_assoc]; exact hbd3, kb3, hall3⟩
                case measure => first | (simp [intOf]; done) | (simp [intOf]; omega))
            · obtain rfl : k = f.pa.length := by omega
              have hp4 := Pl.prn_len (Pl.parW f) f.pa _ (par_len hm) f.pa.length
              obtain ⟨P3, hP3⟩ : ∃ P, P2 ++ Pl.prn (Pl.parW f) f.pa f.pa.length = P := ⟨_, rfl⟩
              have hp5 : P3.length ≤ 22000000 + 40000000 := by rw [← hP3, List.length_append]; omega
              rw [hP3] at hbd
              have HP3 := Lib.hid hP3
              clear hP3 hp3 hp4
              go_wp2
              go_loopw [81] (fun i wr => ∃ (k : Nat), k ≤ f.va.length ∧ i = .int .i64 k ∧ IsBd w1.heap.size w1.heap.size (P3 ++ Pl.prn Pl.varW f.va k) wr ∧ wr.heap[w.heap.size]? = some (.cells #[.slice A1 f.st.length c1, .slice A2 f.li.length c2, .slice A3 f.pa.length c3, .slice A4 f.va.length c4] 28 (0, 0)) ∧ Below w.heap.size w wr) (fun i _ => f.va.length - (intOf i).toNat)
              case atStart => exact ⟨0, by omega, rfl, by rw [Pl.prn_zero, List.append_nil]; exact hbd, kb, hall⟩
              case round =>
                clear kb hckb hfkb hall hsz hbd hltb
                obtain ⟨k, hk, rfl, hbd, kb, hall⟩ := hrel
                obtain ⟨hckb, hfkb⟩ := blk_cells kb
                have hltb := hbd.lt
                have hsz := hall.size
                have hvm := hm.va
                by_cases hlt : k < f.va.length
                · obtain ⟨b0, off, hA, hbB, q0, q1⟩ := Vars.at2 (hf.va.below hall) hlt
                  have hxx := hva0.out _ (List.getElem_mem hlt)
                  have hpre := Pl.prn_len Pl.varW f.va _ (var_len hva0.out) k
                  have hll := var_len hva0.out _ (List.getElem_mem hlt)
                  have HN := Lib.hid (Pl.prn_succ Pl.varW hlt)
                  obtain ⟨⟨x, y⟩, hsx⟩ : ∃ s, f.va[k] = s := ⟨_, rfl⟩
                  rw [hsx] at q0 q1 hxx HN hll
                  obtain ⟨⟨x0, x1⟩, y0, y1⟩ := hxx
                  simp only at x0 x1 y0 y1 q0 q1
                  clear hsx
                  subst hA
                  have kq := heap_alloc_new wr (.cells #[.int .i64 x, .int .i64 y] 114)
                  obtain ⟨hckq, hfkq⟩ := blk_cells kq
                  go_wp2
                  go_region_held3 (fun W => ∀ j, W.cell? ⟨wr.heap.size, j, none⟩ = (#[.int .i64 x, .int .i64 y] : Array Value)[j]?) (first | exact hckq | exact hckq3 | exact fun j => (World.cell?_of_block (Below.heap_alloc _ _ _ hltkq)).trans (hckq j)) (first
                    | (go_at_call 120; refine (itoa_lib x _ (hEn.up (by go_grown)) (by omega) (by omega)).mono ?_; rintro e w2 ⟨rfl, hx⟩; have kb := (hx.block (w.heap.size) (by first | exact (lO kb) | omega | (simp; done) | (simp; omega))).trans (by first | exact kb | exact (Below.heap_alloc _ _ _ (lO kb)).trans kb); obtain ⟨hckb, hfkb⟩ := blk_cells kb; have hltkb := (lO kb); have kq := (hx.block (wr.heap.size) (by first | exact (lO kq) | omega | (simp; done) | (simp; omega))).trans (by first | exact kq | exact (Below.heap_alloc _ _ _ (lO kq)).trans kq); obtain ⟨hckq, hfkq⟩ := blk_cells kq; have hltkq := (lO kq); have hall : Below w.heap.size w w2 := Below.trans (by go_grown) (hx.mono (by go_size)); have hsz : w.heap.size ≤ w2.heap.size := hall.size; have h02 : Below wr.heap.size wr w2 := Below.trans (by go_grown) (hx.mono (by go_size)); have hbd2 := hbd.below h02; clear hx)
                    | (go_at_call 120; refine (itoa_lib y _ (hEn.up (by go_grown)) (by omega) (by omega)).mono ?_; rintro e w4 ⟨rfl, hx4⟩; have kb := (hx4.block w.heap.size (by omega)).trans kb; have kq := (hx4.block wr.heap.size (by omega)).trans kq; obtain ⟨hckq, hfkq⟩ := blk_cells kq; have hltkq := (lO kq); have hall := hall.trans (hx4.mono (by omega)); have hbd4 := hbd2.below hx4)
                    | (go_at_call 117; refine (say3 w1.heap.size _ Pl.wVariation (Pl.spelt x) (Pl.spelt y) _ (by rw [List.length_append]; omega) hbd4 hll).mono ?_; rintro e w3 ⟨rfl, hbd3, hx3, hk3⟩; have kq3 := hk3.at_ kq (by omega) (by decide); obtain ⟨hckq3, hfkq3⟩ := blk_cells kq3; have hsz3 := hx3.size; have kb3 := (hx3.block w.heap.size (by omega)).trans kb; have hall3 := hall.trans (hx3.mono (by omega))))
                  all_goals go_wp2
                  all_goals (
                    go_roundw
                    case rel => exact ⟨k + 1, by omega, by go_num, by rw [HN.out, ← List.append_assoc]; exact hbd3, kb3, hall3⟩
                    case measure => first | (simp [intOf]; done) | (simp [intOf]; omega))
                · obtain rfl : k = f.va.length := by omega
                  have HR : Hid (P3 ++ Pl.prn Pl.varW f.va f.va.length = Pl.printL f) := Lib.hid (by unfold Pl.printL; rw [← HP3.out, ← HP2.out, ← HP1.out])
                  rw [HR.out] at hbd
                  go_wp2_with fail
                  refine (strB w1.heap.size w1.heap.size (Pl.printL f) _ hbd).mono ?_
                  rintro e w5 ⟨rfl, hx⟩
                  have hall5 := hall.trans (hx.mono (by omega))
                  go_wp2
                  go_ret
                  exact ⟨rfl, hall5⟩
theorem PrintField_no (A1 A2 A3 A4 : Option Addr) (c1 c2 c3 c4 : Nat) (f : Pl.Fld) (w : World) (hf : FldS w w.heap.size A1 A2 A3 A4 f) (hm : Small f) (hc : Caps c1 c2 c3 c4 f) (hE : Pl.fieldE f ≠ 0) :
    Calls Tryz.prog 44 #[.agg #[.slice A1 f.st.length c1, .slice A2 f.li.length c2, .slice A3 f.pa.length c3, .slice A4 f.va.length c4]] w fun e w' => e = .returned (.string ⟨#[]⟩) ∧ Below w.heap.size w w' := by
  obtain ⟨E, he⟩ : ∃ E, Pl.fieldE f = E := ⟨_, rfl⟩
  rw [he] at hE
  have HE := Lib.hid he
  have hne : (E != 0) = true := by simpa using hE
  clear he hE
  have kb := heap_alloc_new w (.cells #[.slice A1 f.st.length c1, .slice A2 f.li.length c2, .slice A3 f.pa.length c3, .slice A4 f.va.length c4] 28)
  go_enter Tryz.func44, Tryz.ntmps44
  go_wp2_with (go_at_call 22; refine (checkField_h A1 A2 A3 A4 c1 c2 c3 c4 f E _ HE (hf.up (by go_grown)) hm hc).mono ?_; rintro e w1 ⟨rfl, hx⟩; have kb := (hx.block (w.heap.size) (by first | exact (lO kb) | omega | (simp; done) | (simp; omega))).trans (by first | exact kb | exact (Below.heap_alloc _ _ _ (lO kb)).trans kb); obtain ⟨hckb, hfkb⟩ := blk_cells kb; have hltkb := (lO kb); have hall : Below w.heap.size w w1 := Below.trans (by go_grown) (hx.mono (by go_size)); have hsz : w.heap.size ≤ w1.heap.size := hall.size; clear hx)
  go_ret
  exact ⟨rfl, hall⟩
theorem PrintField_h (A1 A2 A3 A4 : Option Addr) (c1 c2 c3 c4 : Nat) (f : Pl.Fld) (S : ByteArray) (w : World) (hEn : Env w) (h : Hid (Pl.printB f = S)) (hf : FldS w w.heap.size A1 A2 A3 A4 f) (hm : Small f) (hc : Caps c1 c2 c3 c4 f) :
    Calls Tryz.prog 44 #[.agg #[.slice A1 f.st.length c1, .slice A2 f.li.length c2, .slice A3 f.pa.length c3, .slice A4 f.va.length c4]] w fun e w' => e = .returned (.string S) ∧ Below w.heap.size w w' := by
  rw [← h.out]
  unfold Pl.printB
  split
  · exact PrintField_ok A1 A2 A3 A4 c1 c2 c3 c4 f w hEn hf hm hc ‹_›
  · exact PrintField_no A1 A2 A3 A4 c1 c2 c3 c4 f w hf hm hc ‹_›
end Go.Proofs.YtgbpekeoegfjpaaGreatDoor
