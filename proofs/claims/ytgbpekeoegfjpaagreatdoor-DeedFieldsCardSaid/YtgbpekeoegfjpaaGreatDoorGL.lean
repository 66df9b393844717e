/- Walks: a line said to a builder (PrintField$1); the digits of the reference. -/
import Derived.Test.YtgbpekeoegfjpaaGreatDoorProg
import Derived.WalkKit
import Derived.WalkLawsBesides
import Derived.WalkSpells
import Derived.Handy
import Derived.Lib.Hide
import Derived.Great.BuildSlice
import Derived.Deep.QuietTactic
import Derived.BigQuiet
import Derived.Deep.RegionHeld3
import Derived.Deep.DeepCutAuto
import Derived.Laws.BytesArg
import Derived.Laws.Concat
import Derived.Shelf.Strings.BuilderK
import Derived.Test.YtgbpekeoegfjpaaGreatDoorM04
import Derived.Test.YtgbpekeoegfjpaaGreatDoorM03
import Derived.Test.YtgbpekeoegfjpaaGreatDoorM15
import Derived.Test.YtgbpekeoegfjpaaGreatDoorPlZ
namespace Go.Proofs.YtgbpekeoegfjpaaGreatDoor
open Go.RowKit

/-- Every old block but the builder's and the rows of bytes. -/
abbrev Keeps (b : Nat) (w w' : World) : Prop := Lib.OthersKept 5 (some b) w w'
theorem Keeps.of {b : Nat} {w w' : World} (h : Below w.heap.size w w') : Keeps b w w' := fun k _ hk _ _ => (h.block k (lO hk)).trans hk
theorem Keeps.at_ {b k : Nat} {w w' : World} (h : Keeps b w w') {cs : Array Value} {T : TypeId} {z : Nat × Nat} (hk : w.heap[k]? = some (.cells cs T z)) (hb : k ≠ b) (hT : T ≠ 5) : w'.heap[k]? = some (.cells cs T z) :=
  h k _ hk (fun e => hb (Option.some.inj e)) fun c z' e => hT (by cases e; rfl)
abbrev IsBd (B b : Nat) (bs : List UInt8) (w : World) : Prop := Lib.IsBuilderF 154 5 B b (Lib.byteCells bs) w
theorem IsBd.below {B b : Nat} {bs : List UInt8} {w w' : World} (h : IsBd B b bs w) (hx : Below w.heap.size w w') : IsBd B b bs w' := by
  rcases h with ⟨hB, v, hb, hown, hne⟩ | ⟨hB, v, hb, hown, hne⟩
  · exact .inl ⟨hB, v, (hx.block b (lO hb)).trans hb, hown.kept (grownBy_of_below hx) (by cases v.ownBlock <;> simp), hne⟩
  · exact .inr ⟨hB, v, (hx.block b (lO hb)).trans hb, hown.kept (grownBy_of_below hx) (by cases v.ownBlock <;> simp), hne⟩
theorem IsBd.lt {B b : Nat} {bs : List UInt8} {w : World} (h : IsBd B b bs w) : b < w.heap.size ∧ B ≤ b := by
  rcases h with ⟨hB, v, hb, _, _⟩ | ⟨hB, v, hb, _, _⟩
  · exact ⟨(lO hb), hB⟩
  · exact ⟨(lO hb), hB⟩
theorem byteCells_str (bs : List UInt8) (s : List UInt8) : Lib.byteCells bs ++ Lib.strCells ⟨s.toArray⟩ = Lib.byteCells (bs ++ s) := by
  simp [Lib.byteCells, Lib.strCells]
theorem ba_size (s : List UInt8) : (⟨s.toArray⟩ : ByteArray).size = s.length := by show s.toArray.size = _; simp
theorem lays166 : Go.Proofs.Lays.n166 Tryz.prog Tryz.lays156_ren := { Tryz.lays156 with }
theorem writeS (B b : Nat) (bs s : List UInt8) (w : World) (h : IsBd B b bs w) (hl : bs.length + s.length ≤ 140737488355328) :
    Calls Tryz.prog 118 #[.pointer (some ⟨b, 0, none⟩), .string ⟨s.toArray⟩] w fun e w' => e = .returned (.tuple #[.int .i64 s.length, .nilIface]) ∧ IsBd B b (bs ++ s) w' ∧ Below B w w' ∧ Keeps b w w' := by
  have hlt := h.lt
  refine (Any.Builder_WriteString_k lays166 Tryz.Builder_Extra_156 B b (Lib.byteCells bs) ⟨s.toArray⟩ w h (by rw [ba_size]; simpa [Lib.byteCells] using hl) (by omega)).mono fun e w' ⟨he, hb, hx, hk⟩ => ⟨?_, .inr ?_, hx, hk⟩
  · rw [he, ba_size]
  · rw [byteCells_str] at hb; exact hb
theorem join_h (g c : Nat) (ws : List ByteArray) (J : List UInt8) (w : World) (hJ : Hid (Lib.join (ws.map (·.data.toList)) [32] = J)) (hl : J.length ≤ 1000000) (hw : Nms w w.heap.size (some ⟨g, 0, none⟩) ws) (h0 : 0 < ws.length) (hn : ws.length ≤ c) (hn5 : ws.length ≤ 100) :
    Calls Tryz.prog 119 #[.slice (some ⟨g, 0, none⟩) ws.length c, .string ⟨#[32]⟩] w fun e w' => e = .returned (.string ⟨J.toArray⟩) ∧ Below w.heap.size w w' := by
  have hg : g < w.heap.size := by
    rcases hw with hw | ⟨b, off, hA, hb, _⟩
    · rw [hw] at h0; cases h0
    · cases hA; exact hb
  have hc : ∀ (j : Nat) x, ws[j]? = some x → w.cell? ⟨g, 0 + j, none⟩ = some (.string x) := by
    intro j x hx
    obtain ⟨hj, rfl⟩ := List.getElem?_eq_some_iff.1 hx
    obtain ⟨b, off, hA, hb, q0⟩ := Nms.at1 hw hj
    cases hA
    simpa using q0
  have := Tryz.strings_Join g 0 c ws ⟨#[32]⟩ w hc hg (by omega) hn (by show (Lib.join (ws.map (·.data.toList)) [32]).length ≤ _; rw [hJ.out]; omega)
  refine this.mono fun e w' ⟨he, hx⟩ => ⟨?_, hx⟩
  rw [he]
  show Ending.returned (.string ⟨(Lib.join (ws.map (·.data.toList)) [32]).toArray⟩) = _
  rw [hJ.out]
set_option maxHeartbeats 1000000 in
theorem say_a (b g c : Nat) (bs : List UInt8) (ws : List ByteArray) (J : List UInt8) (w : World) (hJ : Hid (Lib.join (ws.map (·.data.toList)) [32] = J)) (hl : J.length ≤ 1000000) (hbs : bs.length ≤ 100000000000000) (h : IsBd b b bs w) (hw : Nms w w.heap.size (some ⟨g, 0, none⟩) ws) (h0 : 0 < ws.length) (hn : ws.length ≤ c) (hn5 : ws.length ≤ 100) :
    Calls Tryz.prog 117 #[.slice (some ⟨g, 0, none⟩) ws.length c, .pointer (some ⟨b, 0, none⟩)] w fun e w' => e = .returned (.tuple #[]) ∧ IsBd b b (bs ++ (J ++ [10])) w' ∧ Below b w w' ∧ Keeps b w w' := by
  have hadd : ∀ W, (Op.stringOp .add ⟨J.toArray⟩ ⟨#[10]⟩).run Tryz.prog W = .ok (.string ⟨(J ++ [10]).toArray⟩) W := fun W => by
    rw [run_string_add W ⟨J.toArray⟩ ⟨#[10]⟩ (by rw [ba_size]; omega) (by decide), ba_append]
    simp
  have hlt := h.lt
  go_enter Tryz.func117, Tryz.ntmps117
  go_wp2_with fail
  refine (join_h g c ws J _ hJ hl hw h0 hn hn5).mono ?_
  rintro e w1 ⟨rfl, hx⟩
  have h1 := h.below hx
  have hb1 := hx.mono (show b ≤ w.heap.size by omega)
  have hk1 : Keeps b w w1 := Keeps.of hx
  clear hx
  go_wp2_with fail
  refine (writeS b b bs (J ++ [10]) _ h1 (by simp; omega)).mono ?_
  rintro e w2 ⟨rfl, h2, hx, hk2⟩
  have hb2 := hb1.trans hx
  have hk2 := hk1.trans hk2
  go_wp2
  go_end0
  exact ⟨rfl, h2, hb2, hk2⟩
theorem strB (B b : Nat) (bs : List UInt8) (w : World) (h : IsBd B b bs w) :
    Calls Tryz.prog 121 #[.pointer (some ⟨b, 0, none⟩)] w fun e w' => e = .returned (.string ⟨bs.toArray⟩) ∧ Below B w w' := by
  have hlt := h.lt
  exact (Any.Builder_String_any_k Tryz.lays169 Tryz.Builder_Extra_169 B b bs w h (by omega)).mono fun e w' ⟨he, _, hx, _⟩ => ⟨he, hx⟩
set_option maxRecDepth 100000 in
theorem digits3_one (n : Nat) (w : World) (h : n < 10) : Calls Tryz.prog 95 #[.int .i64 n] w fun e w' => e = .returned (.string ⟨(Lib.decDigits n).toArray⟩) ∧ Below w.heap.size w w' := by
  have e := Lib.decDigits_one h
  have H := Lib.hid e; clear e
  have hconv := run_convert_bytes_arg (P := Tryz.prog) (w.alloc (.cells #[.int .u8 (48 + (n : Int))] 5)) 152 5 Tryz.underlying152 Tryz.underlying5 w.heap.size 0 1 1 [48 + (n : Int)] rfl (by
    intro i hi
    obtain rfl : i = 0 := by omega
    rw [(blk_cells (heap_alloc_new _ _)).1]; rfl) 9 Tryz.underlying9
  go_enter Tryz.func95, Tryz.ntmps95
  go_wp2
  go_ret
  refine ⟨?_, by go_grown⟩
  rw [H.out]
  have e1 : (48 + (n : Int)).toNat = 48 + n := by omega
  simp [strOfNums, e1]
set_option maxRecDepth 100000 in
theorem digits3_b (n : Nat) (w : World) (h : n < 1000000000000000000) : Calls Tryz.prog 95 #[.int .i64 n] w fun e w' => e = .returned (.string ⟨(Lib.decDigits n).toArray⟩) ∧ Below w.heap.size w w' := by
  induction n using Nat.strongRecOn generalizing w with
  | _ n ih =>
    by_cases h10 : n < 10
    · exact digits3_one n w h10
    · have e : Lib.decDigits n = Lib.decDigits (n / 10) ++ Lib.decDigits (n % 10) := by
        rw [Lib.decDigits_one (show n % 10 < 10 by omega)]
        conv => lhs; unfold Lib.decDigits
        rw [dif_neg h10]
      have H := Lib.hid e; clear e
      have l1 : (Lib.decDigits (n / 10)).length ≤ 20 := by rw [Lib.decDigits_length]; exact Lib.nDigits_le20 _ (by omega)
      have l2 : (Lib.decDigits (n % 10)).length ≤ 20 := by rw [Lib.decDigits_length]; exact Lib.nDigits_le20 _ (by omega)
      have i1 := Lib.hid fun W => ih (n / 10) (by omega) W (by omega)
      have i2 := Lib.hid fun W => digits3_one (n % 10) W (by omega)
      clear ih
      go_enter Tryz.func95, Tryz.ntmps95
      go_wp2_with fail
      refine (i1.out _).mono ?_
      rintro e w1 ⟨rfl, hx⟩
      have hb1 : Below w.heap.size w w1 := Below.trans (by go_grown) (hx.mono (by go_size))
      have hsz1 := hb1.size
      clear hx
      go_wp2_with fail
      refine (i2.out _).mono ?_
      rintro e w2 ⟨rfl, hx⟩
      have hb2 : Below w.heap.size w w2 := Below.trans (by go_grown) (hx.mono (by go_size))
      clear hx
      go_wp2
      go_ret
      exact ⟨by rw [H.out]; simp [ba_append], hb2⟩
set_option maxRecDepth 100000 in
theorem digits3_neg (m : Nat) (w : World) (h0 : 1 ≤ m) (h9 : m ≤ 9) : Calls Tryz.prog 95 #[.int .i64 (-(m : Int))] w fun e w' => e = .returned (.string ⟨(45 :: Lib.decDigits m).toArray⟩) ∧ Below w.heap.size w w' := by
  have l1 : (Lib.decDigits m).length ≤ 20 := by rw [Lib.decDigits_length]; exact Lib.nDigits_le20 _ (by omega)
  have g1 : ¬ -(m : Int) < -9 := by omega
  have g2 : -(m : Int) < 0 := by omega
  go_enter Tryz.func95, Tryz.ntmps95
  go_wp2_with fail
  refine (digits3_one m _ (by omega)).mono ?_
  rintro e w1 ⟨rfl, hx⟩
  go_wp2
  go_ret
  exact ⟨by simp [ba_append], hx⟩
set_option maxRecDepth 100000 in
/-- The digits of a number, negative ones of at most two places. -/
theorem digits3_h (n : Int) (w : World) (h0 : -99 ≤ n) (h1 : n < 1000000000000000000) : Calls Tryz.prog 95 #[.int .i64 n] w fun e w' => e = .returned (.string (Pl.spelt n)) ∧ Below w.heap.size w w' := by
  by_cases hn : 0 ≤ n
  · obtain ⟨m, rfl⟩ := Int.eq_ofNat_of_zero_le hn
    have := digits3_b m w (by omega)
    unfold Pl.spelt
    rw [Lib.itoa_nonneg]
    exact this
  · obtain ⟨m, rfl⟩ : ∃ m : Nat, n = -(m : Int) := ⟨n.natAbs, by omega⟩
    by_cases h9 : m ≤ 9
    · have := digits3_neg m w (by omega) h9
      unfold Pl.spelt
      rw [Lib.itoa_neg m (by omega)]
      exact this
    · have e : Lib.decDigits m = Lib.decDigits (m / 10) ++ Lib.decDigits (m % 10) := by
        rw [Lib.decDigits_one (show m % 10 < 10 by omega)]
        conv => lhs; unfold Lib.decDigits
        rw [dif_neg (by omega)]
      have H : Hid (Pl.spelt (-(m : Int)) = ⟨(45 :: (Lib.decDigits (m / 10) ++ Lib.decDigits (m % 10))).toArray⟩) := Lib.hid (by unfold Pl.spelt; rw [Lib.itoa_neg m (by omega), e])
      clear e
      have l1 : (Lib.decDigits (m / 10)).length ≤ 20 := by rw [Lib.decDigits_length]; exact Lib.nDigits_le20 _ (by omega)
      have l2 : (Lib.decDigits (m % 10)).length ≤ 20 := by rw [Lib.decDigits_length]; exact Lib.nDigits_le20 _ (by omega)
      have i1 := Lib.hid fun W => digits3_neg (m / 10) W (by omega) (by omega)
      have i2 := Lib.hid fun W => digits3_one (m % 10) W (by omega)
      have g1 : -(m : Int) < -9 := by omega
      go_enter Tryz.func95, Tryz.ntmps95
      go_wp2_with fail
      refine (i1.out _).mono ?_
      rintro e w1 ⟨rfl, hx⟩
      have hb1 : Below w.heap.size w w1 := Below.trans (by go_grown) (hx.mono (by go_size))
      have hsz1 := hb1.size
      clear hx
      go_wp2_with fail
      refine (i2.out _).mono ?_
      rintro e w2 ⟨rfl, hx⟩
      have hb2 : Below w.heap.size w w2 := Below.trans (by go_grown) (hx.mono (by go_size))
      clear hx
      go_wp2
      go_ret
      exact ⟨by rw [H.out]; simp [ba_append], hb2⟩
end Go.Proofs.YtgbpekeoegfjpaaGreatDoor
