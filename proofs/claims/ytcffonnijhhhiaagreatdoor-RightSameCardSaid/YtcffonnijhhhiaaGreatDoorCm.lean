/- Walks: what the laws share: few, a deal as an argument. -/
import Derived.Test.YtcffonnijhhhiaaGreatDoorProg
import Derived.WalkKit
import Derived.WalkLawsBesides
import Derived.WalkSpells
import Derived.Handy
import Derived.Lib.Hide
import Derived.Great.BuildSlice
import Derived.Deep.QuietTactic
import Derived.BigQuiet
import Derived.Deep.RegionHeld3
import Derived.Deep.DeepCutAuto
import Derived.Test.YtcffonnijhhhiaaGreatDoorU32
import Derived.Test.YtcffonnijhhhiaaGreatDoorU30
set_option linter.all false
set_option linter.unusedSimpArgs false
set_option linter.unusedVariables false
set_option linter.unusedSectionVars false
namespace Go.Proofs.YtcffonnijhhhiaaGreatDoor
open Go Go.RowKit Go.Maps Mp
attribute [-simp] Prod.forall Prod.exists
attribute [-go_sem] loadVar storeVar Builtin.append_
attribute [local go_sem] lk_int lk_u8 lk_ints lk_sL lk_sE lk_sS

theorem few30_h (A : Option Addr) (c : Nat) (L : List Dp) (w : World) (h : Seg encD 11 w w.heap.size A L) (hm : L.length ≤ maxLen) : Calls Tryz.prog 36 #[.slice A L.length c] w fun e w' => e = .returned (.bool (Rt.few (dls L) 30)) ∧ w' = w := by
  have hfe := few_a A c L 30 w h hm (by decide)
  obtain ⟨b, hb⟩ : ∃ b, Rt.few (dls L) 30 = b := ⟨_, rfl⟩
  rw [hb] at hfe ⊢
  clear h hm hb
  go_enter Tryz.func36, Tryz.ntmps36
  go_wp2_with fail
  refine hfe.mono ?_
  rintro e w' ⟨rfl, rfl⟩
  go_wp2
  go_ret
  exact ⟨rfl, rfl⟩
/-- A deal as an argument. -/
structure Dpo (w : World) (B : Nat) (p : Dp) : Prop where
  into : Ints w B p.A1 p.x.into
  sizes : Ints w B p.A2 p.x.sizes
  h1 : p.x.into.length ≤ p.c1
  h2 : p.x.sizes.length ≤ p.c2
theorem Dpo.up {w w' : World} {p : Dp} (h : Dpo w w.heap.size p) (hb : Below w.heap.size w w') : Dpo w' w'.heap.size p :=
  ⟨(h.into.below hb).more hb.size, (h.sizes.below hb).more hb.size, h.h1, h.h2⟩
theorem Dpo.ds {w : World} {B : Nat} {p : Dp} (h : Dpo w B p) (h1 : p.x.into.length ≤ 1000) (h2 : p.x.sizes.length ≤ 1000) : DS w B p.A1 p.A2 p.x := ⟨h.into, h.sizes, h1, h2⟩
theorem Dlo.up {w w' : World} {A : Option Addr} {L : List Dp} (h : Dlo w w.heap.size A L) (hb : Below w.heap.size w w') : Dlo w' w'.heap.size A L :=
  ⟨(h.seg.below hb).more hb.size, fun p hp => by
    obtain ⟨h1, h2, h3, h4⟩ := h.each p hp
    exact ⟨(h1.below hb).more hb.size, (h2.below hb).more hb.size, h3, h4⟩⟩
theorem Dls.lo {w : World} {B : Nat} {A : Option Addr} {L : List Dp} (h : Dls w B A L) : Dlo w B A L :=
  ⟨h.seg, fun p hp => ⟨(h.each p hp).1.into, (h.each p hp).1.sizes, (h.each p hp).2.1, (h.each p hp).2.2⟩⟩
/-- A value stored whole into a block just laid. -/
theorem new_row (w : World) (t : TypeId) (old cells : Array Value) (hi : (Tryz.prog.info? t).map (·.size) = some cells.size) (ho : old.size = cells.size) (h1 : cells.all (·.oneCell') = true) :
    ∃ w', (storeVar t ⟨w.heap.size, 0, none⟩ (.agg cells)).run Tryz.prog (w.alloc (.cells old t (0, 0))) = .ok () w' ∧ w'.heap[w.heap.size]? = some (.cells cells t (0, 0)) ∧ Below w.heap.size w w' ∧ w.heap.size < w'.heap.size := by
  obtain ⟨w2, st2, k2, g2⟩ := st_row (w.alloc (.cells old t (0, 0))) w.heap.size t t old cells (heap_alloc_new w _) hi ho h1
  exact ⟨w2, st2, k2, ((Below.refl _ w).alloc (Nat.le_refl _) _).grown g2 (by simp) (by intro k e; cases e; exact Nat.le_refl _), (Array.getElem?_eq_some_iff.1 k2).1⟩
end Go.Proofs.YtcffonnijhhhiaaGreatDoor
