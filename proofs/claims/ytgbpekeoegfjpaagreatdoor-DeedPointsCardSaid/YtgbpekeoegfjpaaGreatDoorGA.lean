/- Laws: a list appended whole to one that the call owns. Walk of the reference: names. -/
import Derived.Test.YtgbpekeoegfjpaaGreatDoorProg
import Derived.WalkKit
import Derived.WalkLawsBesides
import Derived.WalkSpells
import Derived.Handy
import Derived.Lib.Hide
import Derived.Great.BuildSlice
import Derived.Deep.QuietTactic
import Derived.BigQuiet
import Derived.Deep.RegionHeld3
import Derived.Deep.DeepCutAuto
import Derived.Deep.Upon
import Derived.Test.YtgbpekeoegfjpaaGreatDoorM10
namespace Go.Proofs.YtgbpekeoegfjpaaGreatDoor
open Go.RowKit Go.Deep
attribute [-go_sem] Builtin.append_

theorem flat_inv {α : Type} (enc : α → List Value) (size : Nat) (hs : 0 < size) (hsz : ∀ x, (enc x).length = size) {l : List α} {j : Nat} {u : Value} (h : (l.flatMap enc)[j]? = some u) : ∃ k x m, l[k]? = some x ∧ (enc x)[m]? = some u ∧ j = k * size + m := by
  have hj : j < l.length * size := by rw [← flat_len enc size hsz]; exact (List.getElem?_eq_some_iff.1 h).1
  have hk : j / size < l.length := by rw [Nat.div_lt_iff_lt_mul hs]; exact hj
  have hm : j % size < size := Nat.mod_lt _ hs
  have he : j = j / size * size + j % size := by have := Nat.div_add_mod j size; rw [Nat.mul_comm]; omega
  refine ⟨j / size, l[j / size], j % size, List.getElem?_eq_getElem hk, ?_, he⟩
  obtain ⟨v, hv⟩ : ∃ v, (enc l[j / size])[j % size]? = some v := ⟨_, List.getElem?_eq_getElem (show j % size < (enc l[j / size]).length by rw [hsz]; exact hm)⟩
  have := flat_at enc size hsz (List.getElem?_eq_getElem hk) hv
  rw [← he, h] at this
  rw [hv, this]
section
variable {α : Type} {enc : α → List Value} {ST ET : TypeId} {z : Value} {size bytes : Nat}
/-- A whole list appended. -/
theorem own_app_seg (L : Lay enc ST ET z size bytes) {n₀ k : Nat} {w1 : World} {v : Value} {l : List α} (hr : w1.ownsRow n₀ ET size v k (l.flatMap enc)) (A : Option Addr) (c : Nat) (r : List α) (hs : Seg enc size w1 w1.heap.size A r)
    (h63 : k + r.length ≤ maxLen) (hb : (k + r.length) * bytes ≤ 140737488355328) (hn : n₀ ≤ w1.heap.size) :
    ∃ v' w2, (Builtin.append_ #[ST, ST] ST #[v, .slice A r.length c]).run Tryz.prog w1 = .ok v' w2 ∧ w2.ownsRow n₀ ET size v' (k + r.length) ((l ++ r).flatMap enc) ∧ Below n₀ w1 w2 := by
  obtain ⟨i0, hi0, hz0, hz1, hz2⟩ := info_parts L.hi
  cases A with
  | none =>
    obtain rfl : r = [] := by
      rcases hs with h | ⟨b, off, h, _⟩
      · exact h
      · cases h
    refine ⟨v, w1, ?_, by simpa using hr, Below.refl _ _⟩
    have hsrc : Src Tryz.prog i0.size ST (.slice none 0 c) 0 [] w1 := Src.ofNil w1 L.ht c
    rcases hr.2 with ⟨rfl, _⟩ | ⟨g, cap, cur, rfl, _, _, hle, _⟩
    · exact run_append_nothing w1 ST ST ST ET i0 L.ht hi0 none 0 0 (Nat.le_refl _) _ hsrc
    · exact run_append_nothing w1 ST ST ST ET i0 L.ht hi0 (some ⟨g, 0, none⟩) k cap hle _ hsrc
  | some a =>
    have hcell : ∀ j u, (r.flatMap enc)[j]? = some u → w1.cell? (a.add j) = some u := by
      intro j u hj
      rcases hs with h | ⟨b, off, h, hlt, hc⟩
      · subst h; simp at hj
      · obtain ⟨k', x, m, h1, h2, rfl⟩ := flat_inv enc size L.hs L.henc hj
        cases h
        rw [Go.WideShapes.add_plain, ← Nat.add_assoc]
        exact hc k' x h1 m u h2
    have hone : ∀ u ∈ r.flatMap enc, u.oneCell' = true := by
      intro u hu
      obtain ⟨x, _, hx⟩ := List.mem_flatMap.1 hu
      exact L.hone x u hx
    obtain ⟨v', w2, hrun, hown, hgrow, hn2⟩ := run_append_own (P := Tryz.prog) (w := w1) n₀ ST ST ET i0 _ size bytes L.ht hi0 hz0 hz1 hz2 L.hz L.hs v k (l.flatMap enc) hr a r.length c (r.flatMap enc)
      (by rw [flat_len enc size L.henc]) hcell hone h63 hb hn
    exact ⟨v', w2, hrun, by rw [List.flatMap_append]; exact hown, (Below.refl n₀ w1).grown hgrow hn fun j ej => (hr.lt j ej).1⟩
end
/-- The names of stations, of limits, of parcels. -/
def Pl.nms (f : Pl.Fld) (k : Nat) : List ByteArray := if k = 0 then f.sn else if k = 1 then f.li else f.pn
set_option maxRecDepth 100000 in
set_option maxHeartbeats 2000000 in
theorem names_b0 (A1 A2 A3 A4 : Option Addr) (c1 c2 c3 c4 : Nat) (f : Pl.Fld) (w : World) (hf : FldS w w.heap.size A1 A2 A3 A4 f) (hm : Small f) :
    Calls Tryz.prog 113 #[.agg #[.slice A1 f.st.length c1, .slice A2 f.li.length c2, .slice A3 f.pa.length c3, .slice A4 f.va.length c4], .int .i64 0] w (NewNms f.sn w) := by
  have kb := heap_alloc_new w (.cells #[.slice A1 f.st.length c1, .slice A2 f.li.length c2, .slice A3 f.pa.length c3, .slice A4 f.va.length c4] 28)
  have hall : Below w.heap.size w (w.alloc (.cells #[.slice A1 f.st.length c1, .slice A2 f.li.length c2, .slice A3 f.pa.length c3, .slice A4 f.va.length c4] 28)) := by go_grown
  have hst := hm.st
  go_enter Tryz.func113, Tryz.ntmps113
  go_wp2
  go_loopw [5, 6] (fun o i wr => ∃ (k : Nat), k ≤ f.st.length ∧ i = .int .i64 k ∧ wr.ownsRow (w.heap.size + 1) 9 1 o k (((f.st.take k).map Prod.fst).flatMap encNm) ∧ wr.heap[w.heap.size]? = some (.cells #[.slice A1 f.st.length c1, .slice A2 f.li.length c2, .slice A3 f.pa.length c3, .slice A4 f.va.length c4] 28 (0, 0)) ∧ Below w.heap.size w wr) (fun _ i _ => f.st.length - (intOf i).toNat)
  case atStart => exact ⟨0, by omega, rfl, World.ownsRow_nil _ _ _ _, kb, hall⟩
  case round =>
    clear kb hall
    obtain ⟨k, hk, rfl, hown, kb, hall⟩ := hrel
    obtain ⟨hckb, hfkb⟩ := blk_cells kb
    have hlt0 := (lO kb)
    by_cases hlt : k < f.st.length
    · obtain ⟨b, off, rfl, hbB, q0, q1⟩ := Stas.at2 (hf.st.below hall) hlt
      obtain ⟨g', cap', w2, hrun, hown2, hb2⟩ := own_app lay_nm hown [f.st[k].1] 0 rfl #[.string f.st[k].1] (by simp [encNm]) (by unfold maxLen; omega) (by omega) (show w.heap.size + 1 ≤ wr.heap.size by omega)
      have kb2 := (hb2.block w.heap.size (by omega)).trans kb
      go_wp2
      go_roundw
      case rel => exact ⟨k + 1, by omega, by go_num, by rw [List.take_succ_eq_append_getElem hlt, List.map_append]; exact hown2, kb2, hall.trans (hb2.mono (by omega))⟩
      case measure => first | (simp [intOf]; done) | (simp [intOf]; omega)
    · obtain rfl : k = f.st.length := by omega
      rw [List.take_length] at hown
      have hq : f.st.length = f.sn.length := by unfold Pl.Fld.sn; simp
      rw [hq] at hown
      obtain ⟨A', c', hv, hN, hc, hF⟩ := own_seg lay_nm hown
      subst hv
      go_wp2
      go_ret
      exact ⟨A', c', rfl, hN, hc, fun a ha => Nat.le_of_succ_le (hF a ha), hall⟩
set_option maxRecDepth 100000 in
set_option maxHeartbeats 2000000 in
theorem names_b1 (A1 A2 A3 A4 : Option Addr) (c1 c2 c3 c4 : Nat) (f : Pl.Fld) (w : World) (hf : FldS w w.heap.size A1 A2 A3 A4 f) (hm : Small f) :
    Calls Tryz.prog 113 #[.agg #[.slice A1 f.st.length c1, .slice A2 f.li.length c2, .slice A3 f.pa.length c3, .slice A4 f.va.length c4], .int .i64 1] w (NewNms f.li w) := by
  have kb := heap_alloc_new w (.cells #[.slice A1 f.st.length c1, .slice A2 f.li.length c2, .slice A3 f.pa.length c3, .slice A4 f.va.length c4] 28)
  have hall : Below w.heap.size w (w.alloc (.cells #[.slice A1 f.st.length c1, .slice A2 f.li.length c2, .slice A3 f.pa.length c3, .slice A4 f.va.length c4] 28)) := by go_grown
  have hli := hm.li
  obtain ⟨W, hW⟩ : ∃ W, w.alloc (.cells #[.slice A1 f.st.length c1, .slice A2 f.li.length c2, .slice A3 f.pa.length c3, .slice A4 f.va.length c4] 28) = W := ⟨_, rfl⟩
  have hsz : W.heap.size = w.heap.size + 1 := by rw [← hW]; simp
  rw [hW] at kb hall
  obtain ⟨v', w2, hrun, hown, hb2⟩ := own_app_seg lay_nm (k := 0) (l := ([] : List ByteArray)) (World.ownsRow_nil W (w.heap.size + 1) 9 1) A2 c2 f.li (hf.li.up hall) (by unfold maxLen; omega) (by omega) (by omega)
  simp only [List.nil_append, Nat.zero_add] at hown
  obtain ⟨A', c', hv, hN, hc, hF⟩ := own_seg lay_nm hown
  subst hv
  obtain ⟨hckb, hfkb⟩ := blk_cells kb
  go_enter Tryz.func113, Tryz.ntmps113
  go_wp2
  go_ret
  exact ⟨A', c', rfl, hN, hc, fun a ha => Nat.le_of_succ_le (hF a ha), hall.trans (hb2.mono (by omega))⟩
set_option maxRecDepth 100000 in
set_option maxHeartbeats 2000000 in
theorem names_b2 (A1 A2 A3 A4 : Option Addr) (c1 c2 c3 c4 : Nat) (f : Pl.Fld) (w : World) (hf : FldS w w.heap.size A1 A2 A3 A4 f) (hm : Small f) :
    Calls Tryz.prog 113 #[.agg #[.slice A1 f.st.length c1, .slice A2 f.li.length c2, .slice A3 f.pa.length c3, .slice A4 f.va.length c4], .int .i64 2] w (NewNms f.pn w) := by
  have kb := heap_alloc_new w (.cells #[.slice A1 f.st.length c1, .slice A2 f.li.length c2, .slice A3 f.pa.length c3, .slice A4 f.va.length c4] 28)
  have hall : Below w.heap.size w (w.alloc (.cells #[.slice A1 f.st.length c1, .slice A2 f.li.length c2, .slice A3 f.pa.length c3, .slice A4 f.va.length c4] 28)) := by go_grown
  have hst := hm.pa
  go_enter Tryz.func113, Tryz.ntmps113
  go_wp2
  go_loopw [5, 7] (fun o i wr => ∃ (k : Nat), k ≤ f.pa.length ∧ i = .int .i64 k ∧ wr.ownsRow (w.heap.size + 1) 9 1 o k (((f.pa.take k).map Pl.Par.name).flatMap encNm) ∧ wr.heap[w.heap.size]? = some (.cells #[.slice A1 f.st.length c1, .slice A2 f.li.length c2, .slice A3 f.pa.length c3, .slice A4 f.va.length c4] 28 (0, 0)) ∧ Below w.heap.size w wr) (fun _ i _ => f.pa.length - (intOf i).toNat)
  case atStart => exact ⟨0, by omega, rfl, World.ownsRow_nil _ _ _ _, kb, hall⟩
  case round =>
    clear kb hall
    obtain ⟨k, hk, rfl, hown, kb, hall⟩ := hrel
    obtain ⟨hckb, hfkb⟩ := blk_cells kb
    have hlt0 := (lO kb)
    by_cases hlt : k < f.pa.length
    · obtain ⟨b, off, rfl, hbB, q0, q1, q2, q3⟩ := Pars.at4 (hf.pa.below hall) hlt
      obtain ⟨g', cap', w2, hrun, hown2, hb2⟩ := own_app lay_nm hown [f.pa[k].name] 0 rfl #[.string f.pa[k].name] (by simp [encNm]) (by unfold maxLen; omega) (by omega) (show w.heap.size + 1 ≤ wr.heap.size by omega)
      have kb2 := (hb2.block w.heap.size (by omega)).trans kb
      go_wp2
      go_roundw
      case rel => exact ⟨k + 1, by omega, by go_num, by rw [List.take_succ_eq_append_getElem hlt, List.map_append]; exact hown2, kb2, hall.trans (hb2.mono (by omega))⟩
      case measure => first | (simp [intOf]; done) | (simp [intOf]; omega)
    · obtain rfl : k = f.pa.length := by omega
      rw [List.take_length] at hown
      have hq : f.pa.length = f.pn.length := by unfold Pl.Fld.pn; simp
      rw [hq] at hown
      obtain ⟨A', c', hv, hN, hc, hF⟩ := own_seg lay_nm hown
      subst hv
      go_wp2
      go_ret
      exact ⟨A', c', rfl, hN, hc, fun a ha => Nat.le_of_succ_le (hF a ha), hall⟩
theorem names_b (A1 A2 A3 A4 : Option Addr) (c1 c2 c3 c4 : Nat) (f : Pl.Fld) (k : Nat) (hk : k < 3) (w : World) (hf : FldS w w.heap.size A1 A2 A3 A4 f) (hm : Small f) :
    Calls Tryz.prog 113 #[.agg #[.slice A1 f.st.length c1, .slice A2 f.li.length c2, .slice A3 f.pa.length c3, .slice A4 f.va.length c4], .int .i64 (k : Int)] w (NewNms (Pl.nms f k) w) := by
  match k, hk with
  | 0, _ => exact names_b0 A1 A2 A3 A4 c1 c2 c3 c4 f w hf hm
  | 1, _ => exact names_b1 A1 A2 A3 A4 c1 c2 c3 c4 f w hf hm
  | 2, _ => exact names_b2 A1 A2 A3 A4 c1 c2 c3 c4 f w hf hm
end Go.Proofs.YtgbpekeoegfjpaaGreatDoor
