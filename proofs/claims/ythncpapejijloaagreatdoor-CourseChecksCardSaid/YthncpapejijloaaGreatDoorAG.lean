/- Walks: number, Length, Acres. -/
import Derived.Test.YthncpapejijloaaGreatDoorProg
import Derived.WalkKit
import Derived.WalkLawsBesides
import Derived.WalkSpells
import Derived.Handy
import Derived.Lib.Hide
import Derived.Great.BuildSlice
import Derived.Deep.QuietTactic
import Derived.BigQuiet
import Derived.Deep.RegionHeld3
import Derived.Deep.DeepCutAuto
import Derived.Test.YthncpapejijloaaGreatDoorA17
import Derived.Test.YthncpapejijloaaGreatDoorA14
import Derived.Test.YthncpapejijloaaGreatDoorPl11
namespace Go.Proofs.YthncpapejijloaaGreatDoor
open Go.RowKit

theorem below_bytes (w : World) (e : TypeId) (s : ByteArray) : Below w.heap.size w (Lib.bytesWorld w e s) := by
  exact ⟨rfl, rfl, rfl, by rw [Lib.bytesWorld_size]; omega, fun k hk => Lib.bytesWorld_at_old w e s k (by omega)⟩
theorem atoi_yes (s : ByteArray) (v : Int) (w : World) (hs : s.size ≤ 1000) (h : Lib.atoiAll s.data.toList = .ok v) :
    Calls Tryz.prog 128 #[.string s] w fun e w' => e = .returned (.tuple #[.int .i64 v, .nilIface]) ∧ Below w.heap.size w w' := by
  refine (Tryz.strconv_Atoi_ok s (by omega) v h w).mono ?_
  rintro e w' ⟨rfl, rfl | ⟨t, rfl⟩⟩
  · exact ⟨rfl, Below.refl _ _⟩
  · exact ⟨rfl, below_bytes _ _ _⟩
theorem atoi_no (s : ByteArray) (w : World) (hE : Env w) (hs : s.size ≤ 1000) (h : ∀ v, Lib.atoiAll s.data.toList ≠ .ok v) :
    Calls Tryz.prog 128 #[.string s] w fun e w' => ∃ (x : Int) (N : Nat), e = .returned (.tuple #[.int .i64 x, .iface 158 (.pointer (some ⟨N, 0, none⟩))]) ∧ Below w.heap.size w w' := by
  rcases hh : Lib.atoiAll s.data.toList with u | _ | _
  · exact (h u hh).elim
  · obtain ⟨te, pe, hv⟩ := hE.syn
    refine (Any.strconv_Atoi_syntax Tryz.laysC172 s (by omega) hh (.iface te pe) w hv (Or.inr ⟨_, _, rfl⟩)).mono ?_
    rintro e w' ⟨N, rfl, _, _, hb⟩
    exact ⟨_, N, rfl, hb⟩
  · obtain ⟨te, pe, hv⟩ := hE.rng
    refine (Tryz.strconv_Atoi_range s (by omega) hh (.iface te pe) w hv (Or.inr ⟨_, _, rfl⟩)).mono ?_
    rintro e w' ⟨N, rfl, _, _, hb⟩
    exact ⟨_, N, rfl, hb⟩

theorem number_ok (s : ByteArray) (v : Int) (w : World) (hE : Env w) (hs : s.size ≤ 1000) (hv : Pl.numV s = some v) :
    Calls Tryz.prog 116 #[.string s] w fun e w' => e = .returned (.int .i64 v) ∧ Below w.heap.size w w' := by
  unfold Pl.numV at hv
  have hat : ∃ u, Lib.atoiAll s.data.toList = .ok u ∧ (if 0 ≤ u ∧ u ≤ 1000000000000 ∧ Pl.spelt u = s then some u else none) = some v := by
    revert hv
    rcases h : Lib.atoiAll s.data.toList with u | _ | _
    · intro hv; exact ⟨u, rfl, hv⟩
    · intro hv; cases hv
    · intro hv; cases hv
  obtain ⟨u, hat, hif⟩ := hat
  split at hif
  · rename_i hc
    obtain ⟨h0, h1, h2⟩ := hc
    cases hif
    have hin : (Pl.inB v 0 1000000000000) = true := by simp [Pl.inB, h0, h1]
    have HA := Lib.hid hat
    clear hat
    have h2' : (⟨(Lib.itoa v).toArray⟩ : ByteArray) = s := h2
    clear h2
    subst h2'
    have h8 : 8 ≤ w.heap.size := hE.size
    go_enter Tryz.func116, Tryz.ntmps116
    go_wp2_with (first | (go_at_call 128; refine (atoi_yes _ _ _ hs HA.out).mono ?_; rintro e w1 ⟨rfl, hx1⟩; have hb1 : Below w.heap.size w w1 := Below.trans (by go_grown) (hx1.mono (by go_size)); clear hx1; have hsz1 : w.heap.size ≤ w1.heap.size := hb1.size) | (go_at_call 87; refine (in_a _ _ _ _).mono ?_; rintro e w' ⟨rfl, rfl⟩) | (go_at_call 97; refine (itoa_lib _ _ (hE.up (by go_grown)) (by omega) (by omega)).mono ?_; rintro e w2 ⟨rfl, hx2⟩; have hb2 : Below w.heap.size w w2 := Below.trans (by go_grown) (hx2.mono (by go_size)); clear hx2; have hsz2 : w.heap.size ≤ w2.heap.size := hb2.size) | (go_at_call 96; refine (must_yes _).mono ?_; rintro e w' ⟨rfl, rfl⟩))
    go_ret
    exact ⟨rfl, by go_grown⟩
  · cases hif
theorem str_same (a b : ByteArray) : (a.toList == b.toList) = decide (a = b) := by
  rw [ByteArray.toList_eq, ByteArray.toList_eq]
  by_cases h : a = b
  · subst h; simp
  · have : ¬ a.data.toList = b.data.toList := fun e => h (by cases a; cases b; simp only at e; have := Array.toList_inj.1 e; subst this; rfl)
    rw [decide_eq_false h]
    exact beq_false_of_ne this
theorem itoa_ne (n : Int) (s : ByteArray) (w : World) (hE : Env w) (h0 : -9223372036854775808 ≤ n) (h1 : n ≤ 9223372036854775807) (hne : ¬ Pl.spelt n = s) :
    Calls Tryz.prog 97 #[.int .i64 n] w fun e w' => ∃ B, e = .returned (.string B) ∧ (B.toList == s.toList) = false ∧ Below w.heap.size w w' :=
  (itoa_lib n w hE h0 h1).mono fun _ _ ⟨he, hb⟩ => ⟨_, he, by rw [str_same]; exact decide_eq_false hne, hb⟩
set_option maxRecDepth 100000 in
theorem number_no (s : ByteArray) (w : World) (hE : Env w) (hs : s.size ≤ 1000) (hv : Pl.numV s = none) :
    Calls Tryz.prog 116 #[.string s] w fun e w' => e = .panicked gaveUp ∧ Below w.heap.size w w' := by
  by_cases hok : ∃ v, Lib.atoiAll s.data.toList = .ok v
  · obtain ⟨v, hat⟩ := hok
    have hb := Lib.atoiAll_bounds hat
    simp only [Pl.numV, hat] at hv
    split at hv
    · cases hv
    · rename_i hc
      have HA := Lib.hid hat
      clear hat hv
      cases hin : (Pl.inB v 0 1000000000000) with
      | false =>
        clear hc
        go_enter Tryz.func116, Tryz.ntmps116
        go_wp2_with (first | (go_at_call 128; refine (atoi_yes _ _ _ hs HA.out).mono ?_; rintro e w1 ⟨rfl, hx1⟩; have hb1 : Below w.heap.size w w1 := Below.trans (by go_grown) (hx1.mono (by go_size)); clear hx1; have hsz1 : w.heap.size ≤ w1.heap.size := hb1.size) | (go_at_call 87; refine (in_a _ _ _ _).mono ?_; rintro e w' ⟨rfl, rfl⟩) | (go_at_call 97; refine (itoa_lib _ _ (hE.up (by go_grown)) (by omega) (by omega)).mono ?_; rintro e w2 ⟨rfl, hx2⟩; have hb2 : Below w.heap.size w w2 := Below.trans (by go_grown) (hx2.mono (by go_size)); clear hx2; have hsz2 : w.heap.size ≤ w2.heap.size := hb2.size) | (go_at_call 96; refine (must_no _).mono ?_; rintro e w2 ⟨rfl, hb2⟩; have hsz2 := hb2.size))
        exact ⟨rfl, rfl, hb1.trans (hb2.mono hsz1)⟩
      | true =>
        have hin2 : 0 ≤ v ∧ v ≤ 1000000000000 := by simpa [Pl.inB] using hin
        obtain ⟨h0, h1⟩ := hin2
        have hne : ¬ Pl.spelt v = s := fun h => hc ⟨h0, h1, h⟩
        have HN := Lib.hid hne
        clear hc hne
        go_enter Tryz.func116, Tryz.ntmps116
        go_wp2_with (first | (go_at_call 128; refine (atoi_yes _ _ _ hs HA.out).mono ?_; rintro e w1 ⟨rfl, hx1⟩; have hb1 : Below w.heap.size w w1 := Below.trans (by go_grown) (hx1.mono (by go_size)); clear hx1; have hsz1 : w.heap.size ≤ w1.heap.size := hb1.size) | (go_at_call 87; refine (in_a _ _ _ _).mono ?_; rintro e w' ⟨rfl, rfl⟩) | (go_at_call 97; refine (itoa_ne _ s _ (hE.up hb1) (by omega) (by omega) HN.out).mono ?_; rintro e w2 ⟨B, rfl, hneB, hb2⟩; have hsz2 := hb2.size) | (go_at_call 96; refine (must_no _).mono ?_; rintro e w3 ⟨rfl, hb3⟩; have hsz3 := hb3.size))
        exact ⟨rfl, rfl, hb1.trans ((hb2.mono hsz1).trans (hb3.mono (by omega)))⟩
  · have hno : ∀ v, Lib.atoiAll s.data.toList ≠ .ok v := fun v h => hok ⟨v, h⟩
    clear hok hv
    go_enter Tryz.func116, Tryz.ntmps116
    go_wp2_with (first | (go_at_call 128; refine (atoi_no _ _ hE hs hno).mono ?_; rintro e w1 ⟨x, N, rfl, hb1⟩; have hsz1 := hb1.size) | (go_at_call 96; refine (must_no _).mono ?_; rintro e w3 ⟨rfl, hb3⟩; have hsz3 := hb3.size))
    exact ⟨rfl, rfl, hb1.trans (hb3.mono hsz1)⟩
end Go.Proofs.YthncpapejijloaaGreatDoor

namespace Go.Proofs.YthncpapejijloaaGreatDoor
open Go.RowKit

theorem flat_at {α : Type} (enc : α → List Value) (size : Nat) (hsz : ∀ x, (enc x).length = size) {l : List α} {k : Nat} {x : α} (hk : l[k]? = some x) {j : Nat} {v : Value} (hv : (enc x)[j]? = some v) : (l.flatMap enc)[k * size + j]? = some v := by
  induction l generalizing k with
  | nil => simp at hk
  | cons y l ih =>
    have hj : j < size := by rw [← hsz x]; exact (List.getElem?_eq_some_iff.1 hv).1
    rw [List.flatMap_cons]
    cases k with
    | zero =>
      simp at hk
      subst hk
      rw [List.getElem?_append_left (by rw [hsz]; omega)]
      simpa using hv
    | succ k =>
      have h1 := ih (k := k) (by simpa using hk)
      rw [List.getElem?_append_right (by rw [hsz, Nat.add_mul]; omega), hsz]
      rw [show (k + 1) * size + j - size = k * size + j by rw [Nat.add_mul]; omega]
      exact h1
theorem units_of {w : World} {b : Nat} {cs : Array Value} {us : List Pl.Unit} (h : w.heap[b]? = some (.cells cs 120 (0, 0))) (hc : cs.toList = us.flatMap encUnit) : Units w w.heap.size (some ⟨b, 0, none⟩) us := by
  refine .inr ⟨b, 0, rfl, (Array.getElem?_eq_some_iff.1 h).1, fun k x hx j v hv => ?_⟩
  rw [(blk_cells h).1, Nat.zero_add, ← Array.getElem?_toList, hc]
  exact flat_at encUnit 3 (fun _ => rfl) hx hv
theorem poles_a (w : World) :
    Calls Tryz.prog 89 #[] w fun e w' => e = .returned (.slice (some ⟨w.heap.size, 0, none⟩) 3 3) ∧ Below w.heap.size w w' ∧ Units w' w'.heap.size (some ⟨w.heap.size, 0, none⟩) Pl.poles := by
  go_enter Tryz.func89, Tryz.ntmps89
  go_wp2
  go_ret
  exact ⟨rfl, by go_grown, units_of (World.alloc_heap_new _ _) rfl⟩
theorem roods_a (w : World) :
    Calls Tryz.prog 91 #[] w fun e w' => e = .returned (.slice (some ⟨w.heap.size, 0, none⟩) 4 4) ∧ Below w.heap.size w w' ∧ Units w' w'.heap.size (some ⟨w.heap.size, 0, none⟩) Pl.roods := by
  go_enter Tryz.func91, Tryz.ntmps91
  go_wp2
  go_ret
  exact ⟨rfl, by go_grown, units_of (World.alloc_heap_new _ _) rfl⟩
theorem length_a (n : Int) (w : World) (hE : Env w) :
    Calls Tryz.prog 48 #[.int .i64 n] w fun e w' => e = .returned (.string (Pl.lengthV n)) ∧ Below w.heap.size w w' := by
  by_cases hn : 0 ≤ n ∧ n ≤ 1000000
  · obtain ⟨h0, h1⟩ := hn
    have hin : Pl.inB n 0 1000000 = true := by simp [Pl.inB, h0, h1]
    have hv : Pl.lengthV n = Pl.named n Pl.poles := by simp [Pl.lengthV, h0, h1]
    have HV := Lib.hid hv; clear hv
    go_enter Tryz.func48, Tryz.ntmps48
    go_wp2_with (first | (go_at_call 87; refine (in_a _ _ _ _).mono ?_; rintro e w' ⟨rfl, rfl⟩) | (go_at_call 89; refine (poles_a _).mono ?_; rintro e w1 ⟨rfl, hb1, hU⟩; have hsz1 := hb1.size) | (go_at_call 92; refine (named_a _ Pl.poles 3 _ _ (hE.up hb1) hU (by decide) (by decide) (by decide) (by decide) h0 (by omega)).mono ?_; rintro e w2 ⟨rfl, hb2⟩; have hsz2 := hb2.size))
    go_ret
    exact ⟨by rw [HV.out]; rfl, hb1.trans (hb2.mono hsz1)⟩
  · have hin : Pl.inB n 0 1000000 = false := by simpa [Pl.inB] using hn
    have hv : Pl.lengthV n = ⟨#[]⟩ := by simp only [Pl.lengthV, if_neg hn]
    have HV := Lib.hid hv; clear hv hn
    go_enter Tryz.func48, Tryz.ntmps48
    go_wp2_with (go_at_call 87; refine (in_a _ _ _ _).mono ?_; rintro e w' ⟨rfl, rfl⟩)
    go_ret
    exact ⟨by rw [HV.out]; rfl, by go_grown⟩
theorem acres_a (n : Int) (w : World) (hE : Env w) :
    Calls Tryz.prog 50 #[.int .i64 n] w fun e w' => e = .returned (.string (Pl.acresV n)) ∧ Below w.heap.size w w' := by
  by_cases hn : 0 ≤ n ∧ n ≤ 1000000000000
  · obtain ⟨h0, h1⟩ := hn
    have hin : Pl.inB n 0 1000000000000 = true := by simp [Pl.inB, h0, h1]
    have hv : Pl.acresV n = Pl.named n Pl.roods := by simp [Pl.acresV, h0, h1]
    have HV := Lib.hid hv; clear hv
    go_enter Tryz.func50, Tryz.ntmps50
    go_wp2_with (first | (go_at_call 87; refine (in_a _ _ _ _).mono ?_; rintro e w' ⟨rfl, rfl⟩) | (go_at_call 91; refine (roods_a _).mono ?_; rintro e w1 ⟨rfl, hb1, hU⟩; have hsz1 := hb1.size) | (go_at_call 92; refine (named_a _ Pl.roods 4 _ _ (hE.up hb1) hU (by decide) (by decide) (by decide) (by decide) h0 (by omega)).mono ?_; rintro e w2 ⟨rfl, hb2⟩; have hsz2 := hb2.size))
    go_ret
    exact ⟨by rw [HV.out]; rfl, hb1.trans (hb2.mono hsz1)⟩
  · have hin : Pl.inB n 0 1000000000000 = false := by simpa [Pl.inB] using hn
    have hv : Pl.acresV n = ⟨#[]⟩ := by simp only [Pl.acresV, if_neg hn]
    have HV := Lib.hid hv; clear hv hn
    go_enter Tryz.func50, Tryz.ntmps50
    go_wp2_with (go_at_call 87; refine (in_a _ _ _ _).mono ?_; rintro e w' ⟨rfl, rfl⟩)
    go_ret
    exact ⟨by rw [HV.out]; rfl, by go_grown⟩
end Go.Proofs.YthncpapejijloaaGreatDoor
