/- Words for memory: a slice that reads as a list of rows of cells, and that stays so while nothing below a block is written. -/
import Derived.Test.YthncpapejijloaaGreatDoorProg
import Derived.WalkKit
import Derived.WalkLawsBesides
import Derived.WalkSpells
import Derived.Handy
import Derived.Lib.Hide
import Derived.Great.BuildSlice
import Derived.Deep.QuietTactic
import Derived.BigQuiet
import Derived.Deep.RegionHeld3
import Derived.Deep.DeepCutAuto
namespace Go.Proofs.YthncpapejijloaaGreatDoor
open Go.RowKit

theorem below_drewN {B : Nat} {a w : World} (h : Below B a w) (n : Nat) : Below B a (w.drewN n) := ⟨h.os, h.tape, h.output, h.size, h.block⟩
theorem bcell {W w1 : World} (hb : Below W.heap.size W w1) : (∀ b o, b < W.heap.size → w1.cell? ⟨b, o, none⟩ = W.cell? ⟨b, o, none⟩) ∧ (∀ b o, b < W.heap.size → w1.frozen? ⟨b, o, none⟩ = W.frozen? ⟨b, o, none⟩) :=
  ⟨fun b o h => hb.cell (p := ⟨b, o, none⟩) h, fun b o h => hb.frozen (p := ⟨b, o, none⟩) h⟩
theorem blk_cells {w : World} {g : Nat} {t : TypeId} {cs : Array Value} (h : w.heap[g]? = some (.cells cs t (0, 0))) : (∀ j, w.cell? ⟨g, j, none⟩ = cs[j]?) ∧ (∀ j, w.frozen? ⟨g, j, none⟩ = false) :=
  ⟨fun j => cell_of_row w g j cs t (0, 0) h, fun j => frozen_of_row w g j cs t h⟩
theorem heap_at {w : World} {o : Obj} {n : Nat} (h : w.heap.size = n) : (w.alloc o).heap[n]? = some o := by subst h; exact heap_alloc_new _ _
/-- The slice at A reads as the list l, each element as the cells enc gives (size of them), below block B. -/
def Seg {α : Type} (enc : α → List Value) (size : Nat) (w : World) (B : Nat) (A : Option Addr) (l : List α) : Prop :=
  l = [] ∨ ∃ b off, A = some ⟨b, off, none⟩ ∧ b < B ∧ ∀ k x, l[k]? = some x → ∀ j v, (enc x)[j]? = some v → w.cell? ⟨b, off + k * size + j, none⟩ = some v

section
variable {α : Type} {enc : α → List Value} {size : Nat} {w w' : World} {B B' : Nat} {A : Option Addr} {l : List α}
theorem Seg.keep (h : Seg enc size w B A l) (hk : ∀ p : Addr, p.block < B → w'.cell? p = w.cell? p) : Seg enc size w' B A l := by
  rcases h with h | ⟨b, off, hA, hb, hc⟩
  · exact .inl h
  · exact .inr ⟨b, off, hA, hb, fun k x hx j v hv => (hk _ hb).trans (hc k x hx j v hv)⟩
theorem Seg.more (h : Seg enc size w B A l) (hB : B ≤ B') : Seg enc size w B' A l := by
  rcases h with h | ⟨b, off, hA, hb, hc⟩
  · exact .inl h
  · exact .inr ⟨b, off, hA, by omega, hc⟩
theorem Seg.below (h : Seg enc size w B A l) (hb : Below B w w') : Seg enc size w' B A l := h.keep fun _ hp => hb.cell hp
/-- What reads so at the start of a call reads so in every later world of it. -/
theorem Seg.up (h : Seg enc size w w.heap.size A l) (hb : Below w.heap.size w w') : Seg enc size w' w'.heap.size A l := (h.below hb).more hb.size
theorem Seg.at_ (h : Seg enc size w B A l) {k : Nat} (hk : k < l.length) : ∃ b off, A = some ⟨b, off, none⟩ ∧ b < B ∧ ∀ j v, (enc l[k])[j]? = some v → w.cell? ⟨b, off + k * size + j, none⟩ = some v := by
  rcases h with h | ⟨b, off, hA, hb, hc⟩
  · subst h; simp at hk
  · exact ⟨b, off, hA, hb, fun j v hv => hc k l[k] (List.getElem?_eq_getElem hk) j v hv⟩
end
def encVar (p : Int × Int) : List Value := [.int .i64 p.1, .int .i64 p.2]
abbrev Vars := @Seg (Int × Int) encVar 2
theorem Vars.at2 {w : World} {B : Nat} {A : Option Addr} {l : List (Int × Int)} (h : Vars w B A l) {k : Nat} (hk : k < l.length) :
    ∃ b off, A = some ⟨b, off, none⟩ ∧ b < B ∧ w.cell? ⟨b, off + k * 2, none⟩ = some (.int .i64 l[k].1) ∧ w.cell? ⟨b, off + k * 2 + 1, none⟩ = some (.int .i64 l[k].2) := by
  obtain ⟨b, off, hA, hb, hc⟩ := Seg.at_ h hk
  exact ⟨b, off, hA, hb, hc 0 _ rfl, hc 1 _ rfl⟩
end Go.Proofs.YthncpapejijloaaGreatDoor
