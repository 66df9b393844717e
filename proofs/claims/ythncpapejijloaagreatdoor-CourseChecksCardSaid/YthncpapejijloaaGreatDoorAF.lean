/- The iterator of the parts of a number. -/
import Derived.Test.YthncpapejijloaaGreatDoorProg
import Derived.WalkKit
import Derived.WalkLawsBesides
import Derived.WalkSpells
import Derived.Handy
import Derived.Lib.Hide
import Derived.Great.BuildSlice
import Derived.Deep.QuietTactic
import Derived.BigQuiet
import Derived.Deep.RegionHeld3
import Derived.Deep.DeepCutAuto
import Derived.Test.YthncpapejijloaaGreatDoorRf
import Derived.Shelf.Abstract
import Derived.Shelf.RegionOpen
import Derived.OwnWalkIn
import Derived.TacticsInMore
import Derived.LoopNIn
import Derived.LoopIn
import Derived.Maps.AppendAt
import Derived.Test.YthncpapejijloaaGreatDoorEnv
import Derived.Test.YthncpapejijloaaGreatDoorPl10
namespace Go.Proofs.YthncpapejijloaaGreatDoor
open Go.RowKit Go.Shelf
attribute [local go_sem] Oper.semAt_some

def encUnit (u : Pl.Unit) : List Value := [.int .i64 u.1, .string u.2.1, .string u.2.2]
abbrev Units := @Seg Pl.Unit encUnit 3
theorem Units.at3 {w : World} {B : Nat} {A : Option Addr} {l : List Pl.Unit} (h : Units w B A l) {k : Nat} (hk : k < l.length) :
    ∃ b off, A = some ⟨b, off, none⟩ ∧ b < B ∧ w.cell? ⟨b, off + k * 3, none⟩ = some (.int .i64 l[k].1) ∧ w.cell? ⟨b, off + k * 3 + 1, none⟩ = some (.string l[k].2.1) ∧ w.cell? ⟨b, off + k * 3 + 2, none⟩ = some (.string l[k].2.2) := by
  obtain ⟨b, off, hA, hb, hc⟩ := Seg.at_ h hk
  exact ⟨b, off, hA, hb, hc 0 _ rfl, hc 1 _ rfl, hc 2 _ rfl⟩

/-- What lies while a number is named: the list's box, the box of what is left, the box of the units. -/
structure NInv (w : World) (A : Option Addr) (us : List Pl.Unit) (cap : Nat) (s : Int × List ByteArray) (W : World) : Prop where
  lo : 0 ≤ s.1
  hi : s.1 ≤ 1000000000000
  below : Below w.heap.size w W
  sz : w.heap.size + 5 ≤ W.heap.size
  own : ∃ v, Boxed W w.heap.size 100 v ∧ W.ownsRow (w.heap.size + 5) 9 1 v s.2.length (s.2.map Value.string) ∧ (v = .slice none 0 0 ↔ s.2 = [])
  left : Boxed W (w.heap.size + 1) 3 (.int .i64 s.1)
  units : Boxed W (w.heap.size + 2) 97 (.slice A us.length cap)

theorem grownBy_of_below {W W' : World} (h : Below W.heap.size W W') : W.grownBy W' none :=
  ⟨h.os, h.tape, h.output, h.size, fun k hk _ => h.block k hk⟩
theorem NInv.grow {w : World} {A : Option Addr} {us : List Pl.Unit} {cap : Nat} {s : Int × List ByteArray} {W W' : World} (h : NInv w A us cap s W) (hb : Below W.heap.size W W') : NInv w A us cap s W' := by
  obtain ⟨h1, h2, h3, h4, ⟨v, hv, hr, hn⟩, h6, h7⟩ := h
  have hg := grownBy_of_below hb
  exact ⟨h1, h2, h3.trans (hb.mono h3.size), Nat.le_trans h4 hb.size, ⟨v, hv.kept hg (by simp), hr.kept hg (by cases v.ownBlock <;> simp), hn⟩, h6.kept hg (by simp), h7.kept hg (by simp)⟩
theorem NInv.set {w : World} {A : Option Addr} {us : List Pl.Unit} {cap : Nat} {c : Int} {S : List ByteArray} {W : World} (h : NInv w A us cap (c, S) W) (c' : Int) (h0 : 0 ≤ c') (h1 : c' ≤ 1000000000000) :
    NInv w A us cap (c', S) (W.setCell ⟨w.heap.size + 1, 0, none⟩ (.int .i64 c')) := by
  obtain ⟨_, _, h3, h4, ⟨v, hv, hr, hn⟩, h6, h7⟩ := h
  have hg := grownBy_setCell' W (w.heap.size + 1) (.int .i64 c')
  refine ⟨h0, h1, h3.setCell (p := ⟨w.heap.size + 1, 0, none⟩) (show w.heap.size ≤ w.heap.size + 1 by omega) _, by have := hg.size; omega, ⟨v, hv.kept hg (by simp), hr.kept hg (.inr (h6.not_row (by decide) hr).symm), hn⟩, h6.set _, h7.kept hg (by simp)⟩
theorem NInv.putObj {w : World} {A : Option Addr} {us : List Pl.Unit} {cap : Nat} {s : Int × List ByteArray} {W : World} {l : Nat} {o : Obj} (o' : Obj) (h : NInv w A us cap s W) (hl : W.heap[l]? = some o) (ho : o.isCells = false) (hle : w.heap.size + 2 < l) : NInv w A us cap s (W.putObj l o') := by
  obtain ⟨h1, h2, h3, h4, ⟨v, hv, hr, hn⟩, h6, h7⟩ := h
  have hg := grownBy_putObj' W l o'
  exact ⟨h1, h2, h3.grown hg h3.size (fun k e => by cases e; omega), by have := hg.size; omega, ⟨v, hv.kept hg (by simp; omega), ownsRow_putObj hr _ hl ho, hn⟩, h6.kept hg (by simp; omega), h7.kept hg (by simp; omega)⟩

abbrev encPart (x : Int × Pl.Unit) : Array Value := #[.int .i64 x.1, .agg #[.int .i64 x.2.1, .string x.2.2.1, .string x.2.2.2]]
def nextP (s : Int × List ByteArray) (x : Int × Pl.Unit) : Int × List ByteArray := (s.1, s.2 ++ [Pl.spelt x.1, Pl.word x.1 x.2])

end Go.Proofs.YthncpapejijloaaGreatDoor

namespace Go.Proofs.YthncpapejijloaaGreatDoor
open Go.RowKit Go.Shelf
attribute [local go_sem] Oper.semAt_some

def PreP (s : Int × List ByteArray) (x : Int × Pl.Unit) : Prop := s.2.length + 2 ≤ 100 ∧ 1 ≤ x.1 ∧ x.1 ≤ 1000000000000
/-- What lies while a number is named, and the loop's own record. -/
def NJ (w : World) (A : Option Addr) (us : List Pl.Unit) (cap : Nat) (rec : Loop) (s : Int × List ByteArray) (W : World) : Prop :=
  NInv w A us cap s W ∧ W.heap[w.heap.size + 4]? = some (.loop rec) ∧ W.heap[w.heap.size + 3]? = some (.deferred (some []))
theorem NJ.grow {w : World} {A : Option Addr} {us : List Pl.Unit} {cap : Nat} {rec : Loop} {s : Int × List ByteArray} {W W' : World} (h : NJ w A us cap rec s W) (hb : Below W.heap.size W W') : NJ w A us cap rec s W' :=
  ⟨h.1.grow hb, (hb.block _ (by have := h.1.sz; omega)).trans h.2.1, (hb.block _ (by have := h.1.sz; omega)).trans h.2.2⟩
theorem NJ.set {w : World} {A : Option Addr} {us : List Pl.Unit} {cap : Nat} {rec : Loop} {c : Int} {S : List ByteArray} {W : World} (h : NJ w A us cap rec (c, S) W) (c' : Int) (h0 : 0 ≤ c') (h1 : c' ≤ 1000000000000) :
    NJ w A us cap rec (c', S) (W.setCell ⟨w.heap.size + 1, 0, none⟩ (.int .i64 c')) :=
  ⟨h.1.set c' h0 h1, (Below.heap_setCell _ _ _ _ (by simp)).trans h.2.1, (Below.heap_setCell _ _ _ _ (by simp)).trans h.2.2⟩

theorem parts1_in (n : Nat) (w : World) (A : Option Addr) (us : List Pl.Unit) (cap : Nat) (c0 : Int) (rec : Loop) (hus : Units w w.heap.size A us) (hlen : us.length ≤ 40) (hpos : ∀ u ∈ us, 1 ≤ u.1 ∧ u.1 ≤ 1000000000000)
    (hY : ∀ s x W, PreP s x → NJ w A us cap rec s W → YieldAt Fence.wide (n - 1) Tryz.prog (w.heap.size + 4) (encPart x) W fun e W' => e = .returned (.bool true) ∧ NJ w A us cap rec (nextP s x) W')
    (W1 : World) (h0 : NJ w A us cap rec (c0, []) W1) :
    CallsIn Fence.wide n Tryz.prog 129 #[.func (.yield (w.heap.size + 4)) #[] #[], .pointer (some ⟨w.heap.size + 2, 0, none⟩), .pointer (some ⟨w.heap.size + 1, 0, none⟩)] W1 fun e W' =>
      (∃ v, e = .returned v) ∧ NJ w A us cap rec (Pl.endC c0 us, Pl.namedL c0 us) W' := by
  refine callsIn_of_wp Tryz.func129 rfl trivial ?_ rfl
  simp only [Tryz.ntmps129, List.size_toArray, List.length_cons, List.length_nil, Nat.reduceAdd, Nat.reduceSub, Array.replicate_succ, Array.replicate_zero, List.push_toArray, List.append_toArray, List.nil_append, List.cons_append]
  have hu := h0.1.units.cell
  gi_wp2
  gi_loopw [9] (fun p wr => ∃ (k : Nat) (c : Int) (S : List ByteArray), k ≤ us.length ∧ p = .int .i64 k ∧ NJ w A us cap rec (c, S) wr ∧ S.length ≤ 2 * k ∧ Hid (S ++ Pl.namedL c (us.drop k) = Pl.namedL c0 us ∧ Pl.endC c (us.drop k) = Pl.endC c0 us)) (fun p _ => us.length - (intOf p).toNat)
  case atStart => exact ⟨0, c0, [], by omega, rfl, h0, by simp, ⟨by simp, by simp⟩⟩
  case round =>
    obtain ⟨k, c, S, hk, rfl, hJ, hS, H⟩ := hrel
    by_cases hlt : k < us.length
    · obtain ⟨b, off, rfl, hbB, q0, q1, q2⟩ := Units.at3 (hus.below hJ.1.below) hlt
      have hc := hJ.1.left.cell
      have hf := hJ.1.left.frozen
      have hu1 := (hpos us[k] (List.getElem_mem hlt)).1
      have hu2 := (hpos us[k] (List.getElem_mem hlt)).2
      have hsz := hJ.1.sz
      have hc1 := (hJ.1.left.alloc (.cells #[.int .i64 us[k].1, .string us[k].2.1, .string us[k].2.2] 120)).cell
      have hf1 := (hJ.1.left.alloc (.cells #[.int .i64 us[k].1, .string us[k].2.1, .string us[k].2.2] 120)).frozen
      obtain ⟨hw, hwm, hq0, hq1, hm0, hm1⟩ := Pl.part_eq (c := c) (s := us[k].1) hJ.1.lo hJ.1.hi hu1
      have hJ1 : NJ w _ us cap rec (c, S) (wr.alloc (.cells #[.int .i64 us[k].1, .string us[k].2.1, .string us[k].2.2] 120)) := hJ.grow ((Below.refl _ _).alloc (Nat.le_refl _) _)
      have hJ2 := hJ1.set (c % us[k].1) hm0 hm1
      have hb3 : ((wr.alloc (.cells #[.int .i64 us[k].1, .string us[k].2.1, .string us[k].2.2] 120)).setCell ⟨w.heap.size + 1, 0, none⟩ (.int .i64 (c % us[k].1))).heap[wr.heap.size]? = some (.cells #[.int .i64 us[k].1, .string us[k].2.1, .string us[k].2.2] 120 (0, 0)) :=
        (Below.heap_setCell _ _ _ _ (by simp; omega)).trans (World.alloc_heap_new _ _)
      have hlt2 : (us.drop k) = us[k] :: us.drop (k + 1) := by simp
      by_cases hpos2 : 0 < c / us[k].1
      · obtain ⟨fn, tmps, assign, body, hy, hR⟩ := hY (c % us[k].1, S) (c / us[k].1, us[k]) _ ⟨by simp; omega, by simp; omega, by simp; omega⟩ hJ2
        dsimp only [encPart] at hy
        gi_wp2
        refine ⟨fun h => (by cases h), hR.mono ?_⟩
        rintro e W3 ⟨rfl, hJ3⟩
        gi_wp2
        go_roundw
        case rel => exact ⟨k + 1, c % us[k].1, S ++ [Pl.spelt (c / us[k].1), Pl.word (c / us[k].1) us[k]], by omega, by simp, hJ3, by simp; omega, ⟨by rw [← H.out.1, hlt2]; simp [Pl.namedL, hpos2], by rw [← H.out.2, hlt2]; rfl⟩⟩
        case measure => first | (simp [intOf]; done) | (simp [intOf]; omega)
      · gi_wp2
        refine ⟨fun _ h => (by cases h), ?_⟩
        gi_wp2
        go_roundw
        case rel => exact ⟨k + 1, c % us[k].1, S, by omega, by simp, hJ2, by omega, ⟨by rw [← H.out.1, hlt2]; simp [Pl.namedL, hpos2], by rw [← H.out.2, hlt2]; rfl⟩⟩
        case measure => first | (simp [intOf]; done) | (simp [intOf]; omega)
    · gi_wp2
      go_end0
      have hd : us.drop k = [] := List.drop_eq_nil_of_le (by omega)
      rw [hd] at H
      obtain ⟨H1, H2⟩ := H.out
      simp only [Pl.namedL, Pl.endC, List.append_nil] at H1 H2
      subst H1
      subst H2
      exact ⟨⟨_, rfl⟩, hJ⟩
end Go.Proofs.YthncpapejijloaaGreatDoor
