/- LayA, Sg, PlW, Pm0, JA, GA, GB, GC, GDa, FA, FB, FCa, FGa, GD, PlY, GE, GF, GG, JB, LayB, Pm1, Pma, JC, JD, JFs, JH, FD, Bk, JT in one text. -/
import Derived.Shelf.Sort.Plain
import Derived.Ground.NamesProg
import Derived.Test.YtgbpekeoegfjpaaGreatDoorProg
import Derived.WalkKit
import Derived.WalkLawsBesides
import Derived.WalkSpells
import Derived.Handy
import Derived.Lib.Hide
import Derived.Great.BuildSlice
import Derived.Deep.QuietTactic
import Derived.BigQuiet
import Derived.Deep.RegionHeld3
import Derived.Deep.DeepCutAuto
import Derived.Test.YtgbpekeoegfjpaaGreatDoorM05
import Derived.Test.YtgbpekeoegfjpaaGreatDoorM24
import Derived.Lib.SlicesCompact
import Derived.Lib.Small
import Derived.Shelf.SlicesE.DeleteFunc
import Derived.Test.YtgbpekeoegfjpaaGreatDoorShelf
import Derived.Deep.Upon
import Derived.Test.YtgbpekeoegfjpaaGreatDoorM10
import Derived.Test.YtgbpekeoegfjpaaGreatDoorM09
import Derived.Test.YtgbpekeoegfjpaaGreatDoorM22
import Derived.Test.YtgbpekeoegfjpaaGreatDoorM04
import Derived.Test.YtgbpekeoegfjpaaGreatDoorM23
import Derived.Test.YtgbpekeoegfjpaaGreatDoorM14
import Derived.Shelf.SlSortCmp.WholeK
import Derived.Shelf.SlicesG.Cmp
import Derived.Shelf.SlicesQ.Equal
import Derived.Shelf.SlGeneric
import Derived.Ground.SlsfProg
import Derived.Ground.SlgcProg
import Derived.Ground.SlgqProg
import Derived.Test.YtgbpekeoegfjpaaGreatDoorM02
import Derived.Sort.Statements
namespace Go.Proofs
open Go.Shelf
end Go.Proofs
namespace Go.Proofs.YtgbpekeoegfjpaaGreatDoor
open Go.RowKit
theorem row_seg {α : Type} {enc : α → List Value} {size : Nat} (hs : ∀ x, (enc x).length = size) {w : World} {b B : Nat} {t : TypeId} {cs : Array Value} {l : List α} (hb : b < B) (hg : w.heap[b]? = some (.cells cs t (0, 0))) (hcs : cs.toList = l.flatMap enc) : Seg enc size w B (some ⟨b, 0, none⟩) l :=
 .inr ⟨b, 0, rfl, hb, fun k x hx j v hv => by
  rw [(blk_cells hg).1, ← Array.getElem?_toList, hcs, Nat.zero_add]
  exact flat_at enc size hs hx hv⟩
end Go.Proofs.YtgbpekeoegfjpaaGreatDoor
namespace Go.Proofs.YtgbpekeoegfjpaaGreatDoor
namespace Pl
theorem ptC_lt {f : Fld} {l s : Int} (hl : inN l f.li.length) (hs : inN s f.st.length) : ptC f l s < 1 + f.li.length * f.st.length := by
 unfold inN at hl hs
 exact point_lt (by omega) (by omega)
theorem spans_pts {f : Fld} {c : Cal} (ht : c.tab f.st.length f.li.length) : ∀ x ∈ spans f c, x.fr < 1 + f.li.length * f.st.length ∧ x.till < 1 + f.li.length * f.st.length := by
 obtain ⟨hl, hs, h⟩ := ht
 have hl' := hl
 have hs' := hs
 unfold inN at hl' hs'
 have k0 := ptC_lt hl hs
 intro x hx
 unfold spans at hx
 split at hx <;> rename_i hk
 ·simp at hx; subst hx; exact ⟨Nat.lt_of_lt_of_le Nat.zero_lt_one (Nat.le_add_right _ _), k0⟩
 ·simp at hx; subst hx
  have k1 : ptC f c.oth c.fr < 1 + f.li.length * f.st.length := ptC_lt (by unfold inN; rcases h with h | h | h | h | h <;> omega) hs
  exact ⟨k0, k1⟩
 ·simp at hx; subst hx
  have k1 : ptC f c.lim c.till < 1 + f.li.length * f.st.length := ptC_lt hl (by rcases h with h | h | h | h | h <;> first | exact h.2.2.2.2.1 | omega)
  exact ⟨k0, k1⟩
 ·obtain ⟨k, hk', rfl⟩ := List.mem_map.1 hx
  rw [List.mem_range] at hk'
  exact ⟨ptC_lt hl (by unfold inN; rcases h with h | h | h | h | h <;> omega), ptC_lt (by unfold inN; rcases h with h | h | h | h | h <;> omega) (by unfold inN; rcases h with h | h | h | h | h <;> omega)⟩
 ·simp at hx; subst hx
  have k1 : ptC f c.lim c.till < 1 + f.li.length * f.st.length := ptC_lt hl (by rcases h with h | h | h | h | h <;> first | exact h.2.2.2.1 | omega)
  exact ⟨k0, k1⟩
 ·cases hx
theorem bounds_pts {f : Fld} {c : Cal} {r : Int} (ht : c.tab f.st.length f.li.length) : ∀ b ∈ boundsC f c r, b.fr < 1 + f.li.length * f.st.length ∧ b.till < 1 + f.li.length * f.st.length := by
 intro b hb
 unfold boundsC at hb
 obtain ⟨x, hx, hb⟩ := List.mem_flatMap.1 hb
 have := spans_pts ht x hx
 simp only [spB, List.mem_cons, List.not_mem_nil, or_false] at hb
 rcases hb with rfl | rfl
 ·exact this
 ·exact ⟨this.2, this.1⟩
theorem flat_spB (r : Int) (l : List Sp) : (l.flatMap (spB r)).length = 2 * l.length := by
 induction l with
 | nil => rfl
 | cons a l ih => rw [List.flatMap_cons, List.length_append, ih]; simp [spB]; omega
theorem boundsC_len (f : Fld) (c : Cal) (r : Int) : (boundsC f c r).length = 2 * (spans f c).length := flat_spB r _
theorem drawnB_ranged {S L : Nat} {y : List Int} (h : drawnB S L y = true) : ∀ n ∈ y, 0 ≤ n ∧ n ≤ 100000 := by
 unfold drawnB at h
 simp only [Bool.and_eq_true] at h
 exact rangedB_iff.1 h.2.2.1
end Pl
end Go.Proofs.YtgbpekeoegfjpaaGreatDoor
namespace Go.Proofs.YtgbpekeoegfjpaaGreatDoor
namespace Pl
section
variable {α : Type} [Inhabited α] [DecidableEq α]
theorem cu_mem (d : Array α) (x : α) : ∀ m, x ∈ Lib.compactUpTo d m ↔ ∃ j, j < m ∧ d[j]! = x
 | 0 => by simp [Lib.compactUpTo]
 | m + 1 => by
  rw [Lib.compactUpTo_succ, List.mem_append, cu_mem d x m]
  by_cases hk : Lib.keeps d m = true
  ·rw [if_pos hk, List.mem_singleton]
   constructor
   ·rintro (⟨j, hj, e⟩ | e)
    ·exact ⟨j, by omega, e⟩
    ·exact ⟨m, by omega, e.symm⟩
   ·rintro ⟨j, hj, e⟩
    by_cases h : j = m
    ·subst h; exact .inr e.symm
    ·exact .inl ⟨j, by omega, e⟩
  ·rw [if_neg hk]
   have hk' : m ≠ 0 ∧ d[m]! = d[m - 1]! := by
    unfold Lib.keeps at hk
    simpa using hk
   constructor
   ·rintro (⟨j, hj, e⟩ | e)
    ·exact ⟨j, by omega, e⟩
    ·cases e
   ·rintro ⟨j, hj, e⟩
    by_cases h : j = m
    ·subst h; exact .inl ⟨j - 1, by omega, by rw [← hk'.2]; exact e⟩
    ·exact .inl ⟨j, by omega, e⟩
theorem compact_mem (zs : List α) (x : α) : x ∈ Lib.compact zs ↔ x ∈ zs := by
 unfold Lib.compact
 rw [cu_mem]
 constructor
 ·rintro ⟨j, hj, rfl⟩
  rw [getElem!_pos zs.toArray j (by simpa using hj)]
  simp
 ·intro h
  obtain ⟨j, hj, rfl⟩ := List.getElem_of_mem h
  exact ⟨j, hj, by rw [getElem!_pos zs.toArray j (by simpa using hj)]; simp⟩
theorem cu_sorted (le : α → α → Prop) (htr : ∀ a b c, le a b → le b c → le a c) (has : ∀ a b, le a b → le b a → a = b) (d : Array α) (hs : ∀ i j, i ≤ j → j < d.size → le d[i]! d[j]!) : ∀ m, m ≤ d.size → (Lib.compactUpTo d m).Pairwise fun x y => le x y ∧ x ≠ y
 | 0, _ => by simp [Lib.compactUpTo]
 | m + 1, hm => by
  rw [Lib.compactUpTo_succ]
  by_cases hk : Lib.keeps d m = true
  ·rw [if_pos hk, List.pairwise_append]
   refine ⟨cu_sorted le htr has d hs m (by omega), by simp, fun x hx y hy => ?_⟩
   rw [List.mem_singleton] at hy
   subst hy
   obtain ⟨j, hj, rfl⟩ := (cu_mem d x m).1 hx
   refine ⟨hs j m (by omega) (by omega), fun e => ?_⟩
   have hk' : d[m]! ≠ d[m - 1]! := by
    unfold Lib.keeps at hk
    simp only [decide_eq_true_eq] at hk
    rcases hk with h | h
    ·omega
    ·exact h
   have h1 := hs j (m - 1) (by omega) (by omega)
   have h2 := hs (m - 1) m (by omega) (by omega)
   rw [e] at h1
   exact hk' (has _ _ h1 h2)
  ·rw [if_neg hk, List.append_nil]
   exact cu_sorted le htr has d hs m (by omega)
theorem compact_sorted (le : α → α → Prop) (hrf : ∀ a, le a a) (htr : ∀ a b c, le a b → le b c → le a c) (has : ∀ a b, le a b → le b a → a = b) (zs : List α) (hs : zs.Pairwise le) : (Lib.compact zs).Pairwise fun x y => le x y ∧ x ≠ y := by
 unfold Lib.compact
 refine cu_sorted le htr has _ (fun i j hij hj => ?_) _ (by simp)
 have hj' : j < zs.length := by simpa using hj
 rw [getElem!_pos zs.toArray i (by simp; omega), getElem!_pos zs.toArray j hj]
 simp only [List.getElem_toArray]
 by_cases e : i = j
 ·subst e; exact hrf _
 ·exact List.pairwise_iff_getElem.1 hs i j (by omega) hj' (by omega)
end
theorem strict_eq {α : Type} {R : α → α → Prop} (hir : ∀ a, ¬ R a a) (has : ∀ a b, R a b → ¬ R b a) : ∀ {l m : List α}, l.Pairwise R → m.Pairwise R → (∀ x, x ∈ l ↔ x ∈ m) → l = m
 | [], [], _, _, _ => rfl
 | [], b :: m, _, _, h => by have := (h b).2 List.mem_cons_self; cases this
 | a :: l, [], _, _, h => by have := (h a).1 List.mem_cons_self; cases this
 | a :: l, b :: m, hl, hm, h => by
  rw [List.pairwise_cons] at hl hm
  have e : a = b := by
   rcases List.mem_cons.1 ((h a).1 List.mem_cons_self) with e | e
   ·exact e
   ·rcases List.mem_cons.1 ((h b).2 List.mem_cons_self) with e' | e'
    ·exact e'.symm
    ·exact absurd (hm.1 a e) (has _ _ (hl.1 b e'))
  subst e
  congr 1
  refine strict_eq hir has hl.2 hm.2 fun x => ⟨fun hx => ?_, fun hx => ?_⟩
  ·rcases List.mem_cons.1 ((h x).1 (List.mem_cons_of_mem _ hx)) with e | e
   ·subst e; exact absurd (hl.1 x hx) (hir x)
   ·exact e
  ·rcases List.mem_cons.1 ((h x).2 (List.mem_cons_of_mem _ hx)) with e | e
   ·subst e; exact absurd (hm.1 x hx) (hir x)
   ·exact e
def spPts (l : List Sp) : List Int := l.flatMap fun x => [(x.fr : Int), (x.till : Int)]
end Pl
end Go.Proofs.YtgbpekeoegfjpaaGreatDoor
namespace Go.Proofs
open Go.Shelf Go.RowKit Go.Lib Go.Sort
end Go.Proofs
namespace Go.Proofs.YtgbpekeoegfjpaaGreatDoor
open Go.RowKit Go.Shelf
structure RowI (W : World) (g : Nat) (l : List Int) (c : Nat) : Prop where
 hold : Sort.Holds (Value.int .i64) W g 0 l.toArray
 lt : g < W.heap.size
 cap : l.length ≤ c
theorem putRow_grown {α : Type} [Inhabited α] (enc : α → Value) (W : World) (q g : Nat) (d : Array α) : W.grownBy (Sort.putRow enc (Sort.ahead W q) g 0 d) (some g) := by
 refine ⟨rfl, rfl, rfl, by simp [Sort.ahead], fun k hk hne => ?_⟩
 show ((W.heap).modify g _)[k]? = W.heap[k]?
 rw [Array.getElem?_modify, if_neg (fun e => hne (by rw [e]))]
theorem grow_grown {W W' : World} {r : Option Nat} (h : W.grownBy W' r) (os : Array Obj) : W.grownBy (Sort.grow W' os) r :=
 ⟨h.os, h.tape, h.output, by rw [Sort.size_grow]; exact Nat.le_trans h.size (Nat.le_add_right _ _), fun k hk hne => by
  show (W'.heap ++ os)[k]? = W.heap[k]?
  rw [Array.getElem?_append_left (Nat.lt_of_lt_of_le hk h.size)]
  exact h.block k hk hne⟩
theorem RowI.kept {W W' : World} {g : Nat} {l : List Int} {c : Nat} {r : Option Nat} (h : RowI W g l c) (hg : W.grownBy W' r) (hne : some g ≠ r) : RowI W' g l c :=
 ⟨fun j hj => ⟨(World.cell?_of_block (a := ⟨g, 0 + j, none⟩) (hg.block g h.lt hne)).trans (h.hold j hj).1, (World.frozen?_of_block (a := ⟨g, 0 + j, none⟩) (hg.block g h.lt hne)).trans (h.hold j hj).2⟩, Nat.lt_of_lt_of_le h.lt hg.size, h.cap⟩
end Go.Proofs.YtgbpekeoegfjpaaGreatDoor
namespace Go.Proofs.YtgbpekeoegfjpaaGreatDoor
open Go.RowKit Go.Deep
attribute [-go_sem] Builtin.append_
section
variable {α : Type} {enc : α → List Value} {ST ET : TypeId} {z : Value} {size bytes : Nat}
end
end Go.Proofs.YtgbpekeoegfjpaaGreatDoor
namespace Go.Proofs.YtgbpekeoegfjpaaGreatDoor
open Go.RowKit
end Go.Proofs.YtgbpekeoegfjpaaGreatDoor
namespace Go.Proofs.YtgbpekeoegfjpaaGreatDoor
open Go.RowKit
namespace Pl
end Pl
end Go.Proofs.YtgbpekeoegfjpaaGreatDoor
namespace Go.Proofs.YtgbpekeoegfjpaaGreatDoor
open Go.RowKit
end Go.Proofs.YtgbpekeoegfjpaaGreatDoor
namespace Go.Proofs.YtgbpekeoegfjpaaGreatDoor
open Go.RowKit
def Pl.vast (f : Pl.Fld) : Bool := (decide (20 < f.st.length) || decide (20 < f.li.length) || decide (60 < f.pa.length) || decide (60 < f.va.length)) || (f.st.any (fun s => decide (100 < s.1.size)) || f.li.any (fun s => decide (100 < s.size)) || f.pa.any (fun p => decide (100 < p.name.size)))
set_option maxRecDepth 100000 in
set_option maxHeartbeats 2000000 in
theorem vast_many (A1 A2 A3 A4 : Option Addr) (c1 c2 c3 c4 : Nat) (f : Pl.Fld) (w : World) (h : 20 < f.st.length ∨ 20 < f.li.length ∨ 60 < f.pa.length ∨ 60 < f.va.length) :
  Calls Tryz.prog 23 #[.agg #[.slice A1 f.st.length c1, .slice A2 f.li.length c2, .slice A3 f.pa.length c3, .slice A4 f.va.length c4]] w fun e w' => e = .returned (.bool (Pl.vast f)) ∧ Below w.heap.size w w' := by
 have hv : Hid (Pl.vast f = true) := Lib.hid (by unfold Pl.vast; simp; omega)
 by_cases h1 : 20 < f.st.length
 ·have e1 : (20 : Int) < (f.st.length : Int) := by omega
  go_enter Tryz.func23, Tryz.ntmps23
  go_wp2
  go_ret
  exact ⟨ret_bool hv.out.symm, by go_grown⟩
 have n1 : ¬ (20 : Int) < (f.st.length : Int) := by omega
 by_cases h2 : 20 < f.li.length
 ·have e1 : (20 : Int) < (f.li.length : Int) := by omega
  go_enter Tryz.func23, Tryz.ntmps23
  go_wp2
  go_ret
  exact ⟨ret_bool hv.out.symm, by go_grown⟩
 have n2 : ¬ (20 : Int) < (f.li.length : Int) := by omega
 by_cases h3 : 60 < f.pa.length
 ·have e1 : (60 : Int) < (f.pa.length : Int) := by omega
  go_enter Tryz.func23, Tryz.ntmps23
  go_wp2
  go_ret
  exact ⟨ret_bool hv.out.symm, by go_grown⟩
 have n3 : ¬ (60 : Int) < (f.pa.length : Int) := by omega
 ·have e1 : (60 : Int) < (f.va.length : Int) := by omega
  go_enter Tryz.func23, Tryz.ntmps23
  go_wp2
  go_ret
  exact ⟨ret_bool hv.out.symm, by go_grown⟩
set_option maxRecDepth 100000 in
set_option maxHeartbeats 4000000 in
theorem vast_few (A1 A2 A3 A4 : Option Addr) (c1 c2 c3 c4 : Nat) (f : Pl.Fld) (w : World) (hf : FldS w w.heap.size A1 A2 A3 A4 f) (h1 : f.st.length ≤ 20) (h2 : f.li.length ≤ 20) (h3 : f.pa.length ≤ 60) (h4 : f.va.length ≤ 60) :
  Calls Tryz.prog 23 #[.agg #[.slice A1 f.st.length c1, .slice A2 f.li.length c2, .slice A3 f.pa.length c3, .slice A4 f.va.length c4]] w fun e w' => e = .returned (.bool (Pl.vast f)) ∧ Below w.heap.size w w' := by
 have n1 : ¬ (20 : Int) < (f.st.length : Int) := by omega
 have n2 : ¬ (20 : Int) < (f.li.length : Int) := by omega
 have n3 : ¬ (60 : Int) < (f.pa.length : Int) := by omega
 have n4 : ¬ (60 : Int) < (f.va.length : Int) := by omega
 have kb := heap_alloc_new w (.cells #[.slice A1 f.st.length c1, .slice A2 f.li.length c2, .slice A3 f.pa.length c3, .slice A4 f.va.length c4] 28)
 have hall : Below w.heap.size w (w.alloc (.cells #[.slice A1 f.st.length c1, .slice A2 f.li.length c2, .slice A3 f.pa.length c3, .slice A4 f.va.length c4] 28)) := by go_grown
 go_enter Tryz.func23, Tryz.ntmps23
 go_wp2
 go_loopw [3] (fun p wr => ∃ k : Nat, k ≤ f.st.length ∧ p = .int .i64 k ∧ (∀ s ∈ f.st.take k, s.1.size ≤ 100) ∧ wr.heap[w.heap.size]? = some (.cells #[.slice A1 f.st.length c1, .slice A2 f.li.length c2, .slice A3 f.pa.length c3, .slice A4 f.va.length c4] 28 (0, 0)) ∧ Below w.heap.size w wr) (fun p _ => f.st.length - (intOf p).toNat)
 case atStart => exact ⟨0, by omega, rfl, by simp, kb, hall⟩
 clear kb hall
 case round =>
  obtain ⟨k, hk, rfl, hs, kb, hb1⟩ := hrel
  obtain ⟨hckb, hfkb⟩ := blk_cells kb
  by_cases hlt : k < f.st.length
  ·obtain ⟨b, off, rfl, hbB, q0, q1⟩ := Stas.at2 (hf.st.below hb1) hlt
   by_cases hz : 100 < f.st[k].1.size
   ·have hv : Hid (Pl.vast f = true) := Lib.hid (by unfold Pl.vast; simp only [Bool.or_eq_true, List.any_eq_true, decide_eq_true_eq]; exact .inr (.inl (.inl ⟨_, List.getElem_mem hlt, hz⟩)))
    go_wp2
    go_ret
    exact ⟨ret_bool hv.out.symm, hb1⟩
   ·go_wp2
    go_roundw
    case rel => exact ⟨k + 1, by omega, by go_num, by intro s hs'; rw [List.take_succ_eq_append_getElem hlt, List.mem_append] at hs'; rcases hs' with h | h; exact hs _ h; simp at h; subst h; omega, kb, hb1⟩
    case measure => simp [intOf]; try omega
  ·obtain rfl : k = f.st.length := by omega
   go_wp2
   go_loopw [4] (fun p wr => ∃ k : Nat, k ≤ f.li.length ∧ p = .int .i64 k ∧ (∀ s ∈ f.li.take k, s.size ≤ 100) ∧ wr.heap[w.heap.size]? = some (.cells #[.slice A1 f.st.length c1, .slice A2 f.li.length c2, .slice A3 f.pa.length c3, .slice A4 f.va.length c4] 28 (0, 0)) ∧ Below w.heap.size w wr) (fun p _ => f.li.length - (intOf p).toNat)
   case atStart => exact ⟨0, by omega, rfl, by simp, kb, hb1⟩
   case round =>
    clear hckb hfkb kb hb1
    obtain ⟨k, hk, rfl, hs2, kb, hb1⟩ := hrel
    obtain ⟨hckb, hfkb⟩ := blk_cells kb
    by_cases hlt : k < f.li.length
    ·obtain ⟨b, off, rfl, hbB, q0⟩ := Nms.at1 (hf.li.below hb1) hlt
     by_cases hz : 100 < f.li[k].size
     ·have hv : Hid (Pl.vast f = true) := Lib.hid (by unfold Pl.vast; simp only [Bool.or_eq_true, List.any_eq_true, decide_eq_true_eq]; exact .inr (.inl (.inr ⟨_, List.getElem_mem hlt, hz⟩)))
      go_wp2
      go_ret
      exact ⟨ret_bool hv.out.symm, hb1⟩
     ·go_wp2
      go_roundw
      case rel => exact ⟨k + 1, by omega, by go_num, by intro s hs'; rw [List.take_succ_eq_append_getElem hlt, List.mem_append] at hs'; rcases hs' with h | h; exact hs2 _ h; simp at h; subst h; omega, kb, hb1⟩
      case measure => simp [intOf]; try omega
    ·obtain rfl : k = f.li.length := by omega
     go_wp2
     go_loopw [5] (fun p wr => ∃ k : Nat, k ≤ f.pa.length ∧ p = .int .i64 k ∧ (∀ s ∈ f.pa.take k, s.name.size ≤ 100) ∧ wr.heap[w.heap.size]? = some (.cells #[.slice A1 f.st.length c1, .slice A2 f.li.length c2, .slice A3 f.pa.length c3, .slice A4 f.va.length c4] 28 (0, 0)) ∧ Below w.heap.size w wr) (fun p _ => f.pa.length - (intOf p).toNat)
     case atStart => exact ⟨0, by omega, rfl, by simp, kb, hb1⟩
     case round =>
      clear hckb hfkb kb hb1
      obtain ⟨k, hk, rfl, hs3, kb, hb1⟩ := hrel
      obtain ⟨hckb, hfkb⟩ := blk_cells kb
      by_cases hlt : k < f.pa.length
      ·obtain ⟨b, off, rfl, hbB, q0, q1, q2, q3⟩ := Pars.at4 (hf.pa.below hb1) hlt
       by_cases hz : 100 < f.pa[k].name.size
       ·have hv : Hid (Pl.vast f = true) := Lib.hid (by unfold Pl.vast; simp only [Bool.or_eq_true, List.any_eq_true, decide_eq_true_eq]; exact .inr (.inr ⟨_, List.getElem_mem hlt, hz⟩))
        go_wp2
        go_ret
        exact ⟨ret_bool hv.out.symm, hb1⟩
       ·go_wp2
        go_roundw
        case rel => exact ⟨k + 1, by omega, by go_num, by intro s hs'; rw [List.take_succ_eq_append_getElem hlt, List.mem_append] at hs'; rcases hs' with h | h; exact hs3 _ h; simp at h; subst h; omega, kb, hb1⟩
        case measure => simp [intOf]; try omega
      ·obtain rfl : k = f.pa.length := by omega
       rw [List.take_length] at hs hs2 hs3
       have hv : Hid (Pl.vast f = false) := Lib.hid (by
        unfold Pl.vast
        simp only [Bool.or_eq_false_iff, List.any_eq_false, decide_eq_true_eq, decide_eq_false_iff_not]
        exact ⟨⟨⟨⟨by omega, by omega⟩, by omega⟩, by omega⟩, ⟨fun s hs' => by have := hs s hs'; omega, fun s hs' => by have := hs2 s hs'; omega⟩, fun s hs' => by have := hs3 s hs'; omega⟩)
       go_wp2
       go_ret
       exact ⟨ret_bool hv.out.symm, hb1⟩
end Go.Proofs.YtgbpekeoegfjpaaGreatDoor
namespace Go.Proofs.YtgbpekeoegfjpaaGreatDoor
open Go.RowKit
attribute [-go_sem] run_equalIn_agg storeVar loadVar
attribute [local go_sem] lv_int lv_bool lv_u8 lv_string lv_strings lv_stas lv_pars lv_vars
end Go.Proofs.YtgbpekeoegfjpaaGreatDoor
namespace Go.Proofs.YtgbpekeoegfjpaaGreatDoor
open Go.RowKit
attribute [-go_sem] run_equalIn_agg storeVar loadVar
attribute [local go_sem] lv_int lv_bool lv_u8 lv_string lv_strings lv_stas lv_pars lv_vars
theorem Pl.vast_few {f : Pl.Fld} (h : Pl.vast f = false) : f.st.length ≤ 20 ∧ f.li.length ≤ 20 ∧ f.pa.length ≤ 60 ∧ f.va.length ≤ 60 ∧ (∀ s ∈ f.st, s.1.size ≤ 100) ∧ (∀ s ∈ f.li, s.size ≤ 100) ∧ ∀ p ∈ f.pa, p.name.size ≤ 100 := by
 unfold Pl.vast at h
 simp only [Bool.or_eq_false_iff, List.any_eq_false, decide_eq_true_eq, decide_eq_false_iff_not] at h
 obtain ⟨⟨⟨⟨a, b⟩, c⟩, d⟩, ⟨e, g⟩, k⟩ := h
 exact ⟨by omega, by omega, by omega, by omega, fun s hs => by have := e s hs; omega, fun s hs => by have := g s hs; omega, fun s hs => by have := k s hs; omega⟩
theorem Pl.vast_small {f : Pl.Fld} (h : Pl.vast f = false) : Small f := by
 obtain ⟨a, b, c, d, e, g, k⟩ := Pl.vast_few h
 exact ⟨by omega, by omega, by omega, by omega, fun s hs => by have := e s hs; omega, fun s hs => by have := g s hs; omega, fun s hs => by have := k s hs; omega⟩
theorem vast_a (A1 A2 A3 A4 : Option Addr) (c1 c2 c3 c4 : Nat) (f : Pl.Fld) (w : World) (hf : FldS w w.heap.size A1 A2 A3 A4 f) (b : Bool) (hb : Hid (Pl.vast f = b)) :
  Calls Tryz.prog 23 #[.agg #[.slice A1 f.st.length c1, .slice A2 f.li.length c2, .slice A3 f.pa.length c3, .slice A4 f.va.length c4]] w fun e w' => e = .returned (.bool b) ∧ Below w.heap.size w w' := by
 rw [← hb.out]
 by_cases h : f.st.length ≤ 20 ∧ f.li.length ≤ 20 ∧ f.pa.length ≤ 60 ∧ f.va.length ≤ 60
 ·exact vast_few A1 A2 A3 A4 c1 c2 c3 c4 f w hf h.1 h.2.1 h.2.2.1 h.2.2.2
 ·exact vast_many A1 A2 A3 A4 c1 c2 c3 c4 f w (by omega)
end Go.Proofs.YtgbpekeoegfjpaaGreatDoor
namespace Go.Proofs.YtgbpekeoegfjpaaGreatDoor
open Go.RowKit
attribute [-go_sem] run_equalIn_agg storeVar loadVar
attribute [local go_sem] lv_int lv_bool lv_u8 lv_string lv_strings lv_stas lv_pars lv_vars
end Go.Proofs.YtgbpekeoegfjpaaGreatDoor
namespace Go.Proofs.YtgbpekeoegfjpaaGreatDoor
open Go.RowKit
end Go.Proofs.YtgbpekeoegfjpaaGreatDoor
namespace Go.Proofs.YtgbpekeoegfjpaaGreatDoor
open Go.RowKit
namespace Pl
end Pl
end Go.Proofs.YtgbpekeoegfjpaaGreatDoor
namespace Go.Proofs.YtgbpekeoegfjpaaGreatDoor
open Go.RowKit
end Go.Proofs.YtgbpekeoegfjpaaGreatDoor
namespace Go.Proofs.YtgbpekeoegfjpaaGreatDoor
open Go.RowKit
end Go.Proofs.YtgbpekeoegfjpaaGreatDoor
namespace Go.Proofs.YtgbpekeoegfjpaaGreatDoor
open Go.RowKit
attribute [-go_sem] Builtin.append_
end Go.Proofs.YtgbpekeoegfjpaaGreatDoor
namespace Go.Proofs.YtgbpekeoegfjpaaGreatDoor
open Go.RowKit Go.Shelf
attribute [local go_sem] Oper.semAt_some
attribute [-go_sem] Builtin.append_
structure CI (A1 A2 A3 A4 : Option Addr) (c1 c2 c3 c4 : Nat) (f : Pl.Fld) (c : Pl.Cal) (N : Nat) (w : World) (k : Nat) (W : World) : Prop where
 below : Below w.heap.size w W
 lo : w.heap.size ≤ N
 sz : N + 4 ≤ W.heap.size
 own : ∃ v, Boxed W N 62 v ∧ W.ownsRow (N + 4) 3 1 v (2 * k) ((Pl.spPts ((Pl.spans f c).take k)).flatMap encInt)
 box : W.heap[N + 1]? = some (.cells #[.slice A1 f.st.length c1, .slice A2 f.li.length c2, .slice A3 f.pa.length c3, .slice A4 f.va.length c4, .int .u8 (c.kind : Int), .int .i64 c.lim, .int .i64 c.oth, .int .i64 c.fr, .int .i64 c.till, .int .i64 c.size, .int .i64 c.er, .int .i64 c.crs.b, .int .i64 c.crs.n, .int .i64 c.crs.l, .int .i64 c.crs.y, .int .i64 c.crs.x, .int .i64 c.crs.s] 128 (0, 0))
section
variable {A1 A2 A3 A4 : Option Addr} {c1 c2 c3 c4 : Nat} {f : Pl.Fld} {c : Pl.Cal} {N : Nat} {w : World} {k : Nat} {W W' : World}
theorem CI.kept (h : CI A1 A2 A3 A4 c1 c2 c3 c4 f c N w k W) (hb : Below W.heap.size W W') : CI A1 A2 A3 A4 c1 c2 c3 c4 f c N w k W' := by
 obtain ⟨h1, h0, h2, ⟨v, hv, hr⟩, h4⟩ := h
 have hg := grownBy_of_belowF hb
 exact ⟨h1.trans (hb.mono h1.size), h0, Nat.le_trans h2 hb.size, ⟨v, hv.kept hg (by simp), hr.kept hg (by cases v.ownBlock <;> simp)⟩, (hb.block _ (by omega)).trans h4⟩
theorem CI.putObj {l : Nat} {o : Obj} (o' : Obj) (h : CI A1 A2 A3 A4 c1 c2 c3 c4 f c N w k W) (hl : W.heap[l]? = some o) (ho : o.isCells = false) (hle : N + 1 < l) : CI A1 A2 A3 A4 c1 c2 c3 c4 f c N w k (W.putObj l o') := by
 obtain ⟨h1, h0, h2, ⟨v, hv, hr⟩, h4⟩ := h
 have hg := grownBy_putObj' W l o'
 exact ⟨h1.grown hg h1.size (fun k e => by cases e; omega), h0, by have := hg.size; omega, ⟨v, hv.kept hg (by simp; omega), ownsRow_putObj hr _ hl ho⟩, (World.putObj_heap_other (by omega)).trans h4⟩
end
attribute [-go_sem] storeVar loadVar
attribute [local go_sem] lv_int lv_ints lv_bool lv_u8
theorem info_ints : (Tryz.prog.info? 62).map (·.size) = some 1 := by kernel_rfl
theorem info_span : (Tryz.prog.info? 170).map (·.size) = some 4 := by kernel_rfl
theorem sv_ints (g i : Nat) (A : Option Addr) (n c : Nat) (w : World) : (storeVar 62 ⟨g, i, none⟩ (.slice A n c)).run Tryz.prog w = (store ⟨g, i, none⟩ (.slice A n c)).run Tryz.prog w := by
 simp [storeVar, Sem.run_bind, size_of info_ints, Value.cells, storeCells, Addr.add]
theorem sv_span (g i : Nat) (a b l h : Int) (w : World) : (storeVar 170 ⟨g, i, none⟩ (.agg #[.int .i64 a, .int .i64 b, .int .i64 l, .int .i64 h])).run Tryz.prog w =
  (do store ⟨g, i, none⟩ (.int .i64 a); store ⟨g, i + 1, none⟩ (.int .i64 b); store ⟨g, i + 2, none⟩ (.int .i64 l); store ⟨g, i + 3, none⟩ (.int .i64 h) : Sem Unit).run Tryz.prog w := by
 simp [storeVar, Sem.run_bind, size_of info_span, Value.cells, storeCells, Addr.add]
attribute [local go_sem] sv_ints sv_span
theorem spans_few {f : Pl.Fld} {c : Pl.Cal} {S L : Nat} (ht : c.tab S L) (hS : S ≤ 12) : 1 ≤ (Pl.spans f c).length ∧ (Pl.spans f c).length ≤ 13 := by
 obtain ⟨_, ⟨f0, f1⟩, h⟩ := ht
 unfold Pl.spans
 split <;> rename_i hk2
 ·simp
 ·simp
 ·simp
 ·simp only [List.length_map, List.length_range]; rcases h with h | h | h | h | h <;> omega
 ·simp
 ·exfalso; rcases h with h | h | h | h | h <;> (have := h.1; simp_all)
end Go.Proofs.YtgbpekeoegfjpaaGreatDoor
namespace Go.Proofs
open Go.Shelf
def Tryz.sortBd_ren : Go.Shelf.Ren := ⟨fun | 6 => 196 | 15 => 193 | 14 => 261 | 28 => 257 | 29 => 258 | 20 => 304 | 21 => 305 | 22 => 306 | 23 => 307 | 24 => 308 | 25 => 309 | 26 => 310 | 27 => 311 | 46 => 343 | 47 => 299 | 48 => 300 | 49 => 344 | 50 => 345 | 57 => 364 | n => n, fun | 22 => 51 | 24 => 99 | 25 => 244 | 3 => 3 | 39 => 238 | 0 => 0 | 53 => 269 | 55 => 271 | 4 => 4 | 46 => 263 | 45 => 262 | 50 => 189 | 5 => 5 | 9 => 9 | 66 => 294 | 70 => 298 | 76 => 328 | 77 => 326 | n => n, fun | n => n⟩
theorem Tryz.sortBd : Go.Proofs.SlLaysF0.n6 Tryz.prog Tryz.sortBd_ren := {
 mixed := by kernel_rfl
 f6 := ⟨Tryz.f196.name, by decide, Tryz.func196.trans (congrArg some (by kernel_rfl))⟩
 f14 := ⟨Tryz.f261.name, by decide, Tryz.func261.trans (congrArg some (by kernel_rfl))⟩
 f15 := Tryz.func193.trans (congrArg some (by kernel_rfl))
 f20 := ⟨Tryz.f304.name, by decide, Tryz.func304.trans (congrArg some (by kernel_rfl))⟩
 f21 := ⟨Tryz.f305.name, by decide, Tryz.func305.trans (congrArg some (by kernel_rfl))⟩
 f22 := ⟨Tryz.f306.name, by decide, Tryz.func306.trans (congrArg some (by kernel_rfl))⟩
 f23 := ⟨Tryz.f307.name, by decide, Tryz.func307.trans (congrArg some (by kernel_rfl))⟩
 f24 := ⟨Tryz.f308.name, by decide, Tryz.func308.trans (congrArg some (by kernel_rfl))⟩
 f25 := ⟨Tryz.f309.name, by decide, Tryz.func309.trans (congrArg some (by kernel_rfl))⟩
 f26 := ⟨Tryz.f310.name, by decide, Tryz.func310.trans (congrArg some (by kernel_rfl))⟩
 f27 := ⟨Tryz.f311.name, by decide, Tryz.func311.trans (congrArg some (by kernel_rfl))⟩
 f28 := Tryz.func257.trans (congrArg some (by kernel_rfl))
 f29 := Tryz.func258.trans (congrArg some (by kernel_rfl))
 f46 := ⟨Tryz.f343.name, by decide, Tryz.func343.trans (congrArg some (by kernel_rfl))⟩
 f47 := Tryz.func299.trans (congrArg some (by kernel_rfl))
 f48 := Tryz.func300.trans (congrArg some (by kernel_rfl))
 f49 := ⟨Tryz.f344.name, by decide, Tryz.func344.trans (congrArg some (by kernel_rfl))⟩
 f50 := ⟨Tryz.f345.name, by decide, Tryz.func345.trans (congrArg some (by kernel_rfl))⟩
 f57 := ⟨Tryz.f364.name, by decide, Tryz.func364.trans (congrArg some (by kernel_rfl))⟩
 t0 := Tryz.underlying0
 a0 := Tryz.isAgg0
 z0 := Tryz.sizeOf0
 v0 := Tryz.zeroValue0
 t3 := Tryz.underlying3
 a3 := Tryz.isAgg3
 z3 := Tryz.sizeOf3
 v3 := Tryz.zeroValue3
 t4 := Tryz.underlying4
 a4 := Tryz.isAgg4
 z4 := Tryz.sizeOf4
 v4 := Tryz.zeroValue4
 t5 := Tryz.underlying5
 a5 := Tryz.isAgg5
 z5 := Tryz.sizeOf5
 v5 := Tryz.zeroValue5
 t9 := Tryz.underlying9
 a9 := Tryz.isAgg9
 z9 := Tryz.sizeOf9
 v9 := Tryz.zeroValue9
 t22 := Tryz.underlying51
 a22 := Tryz.isAgg51
 z22 := Tryz.sizeOf51
 v22 := Tryz.zeroValue51
 t25 := Tryz.underlying244
 a25 := Tryz.isAgg244
 z25 := Tryz.sizeOf244
 v25 := Tryz.zeroValue244
 t39 := Tryz.underlying238
 a39 := Tryz.isAgg238
 z39 := Tryz.sizeOf238
 v39 := Tryz.zeroValue238
 t45 := Tryz.underlying262
 a45 := Tryz.isAgg262
 z45 := Tryz.sizeOf262
 v45 := Tryz.zeroValue262
 t46 := Tryz.underlying263
 a46 := Tryz.isAgg263
 z46 := Tryz.sizeOf263
 v46 := Tryz.zeroValue263
 t50 := Tryz.underlying189
 a50 := Tryz.isAgg189
 z50 := Tryz.sizeOf189
 v50 := Tryz.zeroValue189
 t53 := Tryz.underlying269
 a53 := Tryz.isAgg269
 z53 := Tryz.sizeOf269
 v53 := Tryz.zeroValue269
 t55 := Tryz.underlying271
 a55 := Tryz.isAgg271
 z55 := Tryz.sizeOf271
 v55 := Tryz.zeroValue271
 t66 := Tryz.underlying294
 a66 := Tryz.isAgg294
 z66 := Tryz.sizeOf294
 v66 := Tryz.zeroValue294
 t70 := Tryz.underlying298
 a70 := Tryz.isAgg298
 z70 := Tryz.sizeOf298
 v70 := Tryz.zeroValue298
 t76 := Tryz.underlying328
 a76 := Tryz.isAgg328
 z76 := Tryz.sizeOf328
 v76 := Tryz.zeroValue328
 t77 := Tryz.underlying326
 a77 := Tryz.isAgg326
 z77 := Tryz.sizeOf326
 v77 := Tryz.zeroValue326 }
def Tryz.cmpInt_ren : Go.Shelf.Ren := ⟨fun | 5 => 199 | 7 => 262 | n => n, fun | 22 => 3 | 3 => 3 | 4 => 4 | n => n, fun | n => n⟩
theorem Tryz.cmpInt : Go.Proofs.SlLaysC2.n5 Tryz.prog Tryz.cmpInt_ren := {
 mixed := by kernel_rfl
 f5 := ⟨Tryz.f199.name, by decide, Tryz.func199.trans (congrArg some (by kernel_rfl))⟩
 f7 := ⟨Tryz.f262.name, by decide, Tryz.func262.trans (congrArg some (by kernel_rfl))⟩
 t3 := Tryz.underlying3
 a3 := Tryz.isAgg3
 z3 := Tryz.sizeOf3
 v3 := Tryz.zeroValue3
 t4 := Tryz.underlying4
 a4 := Tryz.isAgg4
 z4 := Tryz.sizeOf4
 v4 := Tryz.zeroValue4
 t22 := Tryz.underlying3
 a22 := Tryz.isAgg3
 z22 := Tryz.sizeOf3
 v22 := Tryz.zeroValue3 }
def Tryz.equalBd_ren : Go.Shelf.Ren := ⟨fun | 8 => 141 | n => n, fun | 22 => 51 | 24 => 99 | 4 => 4 | 3 => 3 | 0 => 0 | n => n, fun | n => n⟩
theorem Tryz.equalBd : Go.Proofs.SlLaysQ.n8 Tryz.prog Tryz.equalBd_ren := {
 mixed := by kernel_rfl
 f8 := ⟨Tryz.f141.name, by decide, Tryz.func141.trans (congrArg some (by kernel_rfl))⟩
 t0 := Tryz.underlying0
 a0 := Tryz.isAgg0
 z0 := Tryz.sizeOf0
 v0 := Tryz.zeroValue0
 t3 := Tryz.underlying3
 a3 := Tryz.isAgg3
 z3 := Tryz.sizeOf3
 v3 := Tryz.zeroValue3
 t4 := Tryz.underlying4
 a4 := Tryz.isAgg4
 z4 := Tryz.sizeOf4
 v4 := Tryz.zeroValue4
 t22 := Tryz.underlying51
 a22 := Tryz.isAgg51
 z22 := Tryz.sizeOf51
 v22 := Tryz.zeroValue51 }
end Go.Proofs
namespace Go.Proofs.YtgbpekeoegfjpaaGreatDoor
namespace Pl
instance : Inhabited Bd := ⟨⟨0, 0, 0, 0⟩⟩
def le4 (a b : Bd) : Prop := a.fr < b.fr ∨ (a.fr = b.fr ∧ (a.till < b.till ∨ (a.till = b.till ∧ (a.most < b.most ∨ (a.most = b.most ∧ a.record ≤ b.record)))))
theorem le4_refl (a : Bd) : le4 a a := .inr ⟨rfl, .inr ⟨rfl, .inr ⟨rfl, Int.le_refl _⟩⟩⟩
theorem le4_trans (a b c : Bd) (h : le4 a b) (k : le4 b c) : le4 a c := by unfold le4 at *; omega
theorem le4_anti (a b : Bd) (h : le4 a b) (k : le4 b a) : a = b := by
  unfold le4 at *
  obtain ⟨a1, a2, a3, a4⟩ := a
  obtain ⟨b1, b2, b3, b4⟩ := b
  simp only at h k
  simp only [Bd.mk.injEq]
  omega
theorem sorted_same {l l' m m' : List Bd} (hp : l'.Perm l) (hs : l'.Pairwise le4) (hq : m'.Perm m) (ht : m'.Pairwise le4) : Lib.compact l' = Lib.compact m' ↔ ∀ x, x ∈ l ↔ x ∈ m := by
  constructor
  · intro h x
    rw [← hp.mem_iff, ← hq.mem_iff, ← compact_mem l', ← compact_mem m', h]
  · intro h
    refine strict_eq (R := fun x y => le4 x y ∧ x ≠ y) (fun a h => h.2 rfl) (fun a b h k => h.2 (le4_anti a b h.1 k.1)) (compact_sorted le4 le4_refl le4_trans le4_anti _ hs) (compact_sorted le4 le4_refl le4_trans le4_anti _ ht) fun x => ?_
    rw [compact_mem, compact_mem, hp.mem_iff, hq.mem_iff]
    exact h x
def partB (a b : List Bd) : Bool := a.all fun x => b.any fun y => decide (x = y)
def sameL (a b : List Bd) : Bool := partB a b && partB b a
theorem partB_iff {a b : List Bd} : partB a b = true ↔ ∀ x ∈ a, x ∈ b := by
  unfold partB
  rw [List.all_eq_true]
  constructor
  · intro h x hx
    have := h x hx
    rw [List.any_eq_true] at this
    obtain ⟨y, hy, e⟩ := this
    rw [of_decide_eq_true e]; exact hy
  · intro h x hx
    rw [List.any_eq_true]
    exact ⟨x, h x hx, by simp⟩
theorem sameL_iff {a b : List Bd} : sameL a b = true ↔ ∀ x, x ∈ a ↔ x ∈ b := by
  unfold sameL
  rw [Bool.and_eq_true, partB_iff, partB_iff]
  exact ⟨fun h x => ⟨h.1 x, h.2 x⟩, fun h => ⟨fun x hx => (h x).1 hx, fun x hx => (h x).2 hx⟩⟩
theorem sorted_sameL {l l' m m' : List Bd} (hp : l'.Perm l) (hs : l'.Pairwise le4) (hq : m'.Perm m) (ht : m'.Pairwise le4) : decide (Lib.compact l' = Lib.compact m') = sameL l m := by
  rw [Bool.eq_iff_iff, decide_eq_true_eq, sameL_iff]
  exact sorted_same hp hs hq ht
def cmp3 (a b : Bd) : Int := if Lib.compareInt a.fr b.fr ≠ 0 then Lib.compareInt a.fr b.fr else if Lib.compareInt a.till b.till ≠ 0 then Lib.compareInt a.till b.till else Lib.compareInt a.most b.most
theorem cmp3_lt (a b : Bd) : cmp3 a b < 0 ↔ (a.fr < b.fr ∨ (a.fr = b.fr ∧ (a.till < b.till ∨ (a.till = b.till ∧ a.most < b.most)))) := by
  unfold cmp3 Lib.compareInt
  repeat' split
  all_goals omega
theorem cmp3_le {a b : Bd} (h : ¬ cmp3 b a < 0) (ha : a.record = b.record) : le4 a b := by
  rw [cmp3_lt] at h
  unfold le4
  omega
theorem boundsC_rec {f : Fld} {c : Cal} {r : Int} : ∀ b ∈ boundsC f c r, b.record = r := by
  intro b hb
  unfold boundsC at hb
  obtain ⟨x, _, hb⟩ := List.mem_flatMap.1 hb
  simp only [spB, List.mem_cons, List.not_mem_nil, or_false] at hb
  rcases hb with rfl | rfl <;> rfl
theorem keepsB_same {l m : List Bd} {y : List Int} (h : ∀ x, x ∈ l ↔ x ∈ m) : keepsB l y = keepsB m y := by
  rw [Bool.eq_iff_iff, keepsB_iff, keepsB_iff]
  unfold keeps
  exact ⟨fun k b hb => k b ((h b).2 hb), fun k b hb => k b ((h b).1 hb)⟩
/-! ### The way back -/
theorem callE_three {f : Fld} {c : Cal} (h : callE f c = 0) (hk : c.kind = 3) : c.crs.ok = true ∧ comE f.va [c.crs] (runC f.st c) = 0 ∧ (com f.va [c.crs] (runC f.st c)).2.2 = true := by
  unfold callE at h
  split at h
  · cases h
  rename_i ht
  rw [if_neg (by simpa using hk)] at h
  split at h
  · cases h
  rename_i h1
  split at h
  · exact absurd h ‹_›
  rename_i h2
  split at h
  · rename_i h3
    exact ⟨by simpa using h1, by simpa using h2, h3⟩
  · cases h
theorem callE_tab {f : Fld} {c : Cal} (h : callE f c = 0) : c.tab f.st.length f.li.length := by
  unfold callE at h
  split at h
  · cases h
  · rename_i h1; exact Classical.not_not.1 h1
theorem callE_mk {f : Fld} {c : Cal} (ht : c.tab f.st.length f.li.length) (h : c.kind = 3 → c.crs.ok = true ∧ comE f.va [c.crs] (runC f.st c) = 0 ∧ (com f.va [c.crs] (runC f.st c)).2.2 = true) : callE f c = 0 := by
  unfold callE
  rw [if_neg (Classical.not_not.2 ht)]
  by_cases hk : c.kind = 3
  · obtain ⟨h1, h2, h3⟩ := h hk
    rw [if_neg (by simpa using hk), if_neg (by rw [h1]; decide), if_neg (by simpa using h2), if_pos h3]
  · rw [if_pos hk]
theorem back_kind (c : Cal) : c.back.kind = c.kind := by unfold Cal.back; split; · rfl
                                                         split <;> rfl
theorem back_tab {S L : Nat} {c : Cal} (h : c.tab S L) : c.back.tab S L := by
  unfold Cal.back
  obtain ⟨h1, h2, h3⟩ := h
  by_cases h5 : c.kind = 5
  · rw [if_pos h5]
    unfold Cal.tab inN at *
    simp only at *
    rcases h3 with h | h | h | h | h
    · omega
    · omega
    · omega
    · omega
    · refine ⟨h1, h.2.2.2.1, .inr (.inr (.inr (.inr ⟨h5, h.2.1, h.2.2.1, h2, fun e => h.2.2.2.2.1 e.symm, ?_, h.2.2.2.2.2.2⟩)))⟩
      omega
  · rw [if_neg h5]
    by_cases hk : c.kind = 3
    · rw [if_pos hk]
      unfold Cal.tab inN at *
      simp only at *
      rcases h3 with h | h | h | h | h
      · omega
      · omega
      · exact ⟨h1, h.2.2.2.2.1, .inr (.inr (.inl ⟨hk, h.2.1, h.2.2.1, h.2.2.2.1, h2, fun e => h.2.2.2.2.2 e.symm⟩))⟩
      · omega
      · omega
    · rw [if_neg hk]
      exact ⟨h1, h2, h3⟩
theorem back_crs {c : Cal} (h : c.kind = 3) : c.back.crs = c.crs.back := by unfold Cal.back; rw [if_neg (by omega), if_pos h]
theorem back_com {f : Fld} {c : Cal} (h : callE f c = 0) (hk : c.kind = 3) : comE f.va [c.back.crs] (runC f.st c.back) = 0 ∧ com f.va [c.back.crs] (runC f.st c.back) = (-(com f.va [c.crs] (runC f.st c)).2.1, -(com f.va [c.crs] (runC f.st c)).1, true) := by
  obtain ⟨h1, h2, h3⟩ := callE_three h hk
  rw [back_crs hk, run_back f c hk]
  have hz : stepE f.va c.crs (runC f.st c) 0 = 0 := by rw [← comE_one]; exact h2
  refine ⟨?_, ?_⟩
  · rw [comE_one]
    have := stepE_back (v := f.va) (dx := runC f.st c) (dy := 0) h1
    rw [Int.neg_zero] at this
    rw [this]; exact hz
  · rw [com_back h1 hz, h3]
theorem back_call {f : Fld} {c : Cal} (h : callE f c = 0) : callE f c.back = 0 := by
  refine callE_mk (back_tab (callE_tab h)) fun hk => ?_
  rw [back_kind] at hk
  obtain ⟨h1, h2, h3⟩ := callE_three h hk
  obtain ⟨e1, e2⟩ := back_com h hk
  exact ⟨by rw [back_crs hk]; exact Crs.back_ok h1, e1, by rw [e2]⟩
theorem back_bounds {f : Fld} {c : Cal} (h : callE f c = 0) (r : Int) : ∀ x, x ∈ boundsC f c r ↔ x ∈ boundsC f c.back r := by
  by_cases h3 : c.kind = 3
  · obtain ⟨_, e⟩ := back_com h h3
    have hk : c.back.kind = 3 := by rw [back_kind]; exact h3
    have hs : spans f c.back = [⟨ptC f c.lim c.till, ptC f c.lim c.fr, -(com f.va [c.crs] (runC f.st c)).2.1, -(com f.va [c.crs] (runC f.st c)).1⟩] := by
      unfold spans
      simp only [hk, e]
      unfold Cal.back
      rw [if_neg (by omega), if_pos h3]
    have hs' : spans f c = [⟨ptC f c.lim c.fr, ptC f c.lim c.till, (com f.va [c.crs] (runC f.st c)).1, (com f.va [c.crs] (runC f.st c)).2.1⟩] := by unfold spans; simp only [h3]
    intro x
    unfold boundsC
    rw [hs, hs']
    simp only [List.flatMap_cons, List.flatMap_nil, List.append_nil, spB, List.mem_cons, List.not_mem_nil, or_false, Int.neg_neg]
    exact Or.comm
  · by_cases h5 : c.kind = 5
    · have hb : c.back = { c with fr := c.till, till := c.fr, size := -c.size } := by unfold Cal.back; rw [if_pos h5]
      have hs : spans f c.back = [⟨ptC f c.lim c.till, ptC f c.lim c.fr, -c.size - c.er, -c.size + c.er⟩] := by rw [hb]; unfold spans; simp only [h5]
      have hs' : spans f c = [⟨ptC f c.lim c.fr, ptC f c.lim c.till, c.size - c.er, c.size + c.er⟩] := by unfold spans; simp only [h5]
      intro x
      unfold boundsC
      rw [hs, hs']
      simp only [List.flatMap_cons, List.flatMap_nil, List.append_nil, spB, List.mem_cons, List.not_mem_nil, or_false]
      rw [show -(-c.size - c.er) = c.size + c.er by omega, show -c.size + c.er = -(c.size - c.er) by omega]
      exact Or.comm
    · have hb : c.back = c := by unfold Cal.back; rw [if_neg h5, if_neg h3]
      rw [hb]
      exact fun x => Iff.rfl
end Pl
end Go.Proofs.YtgbpekeoegfjpaaGreatDoor
namespace Go.Proofs.YtgbpekeoegfjpaaGreatDoor
namespace Pl
theorem ptC_inj {f : Fld} {l s m t : Int} (hl : inN l f.li.length) (hs : inN s f.st.length) (hm : inN m f.li.length) (ht : inN t f.st.length) (h : ptC f l s = ptC f m t) : l = m ∧ s = t := by
 unfold inN at *
 unfold ptC at h
 obtain ⟨e1, e2⟩ := point_inj (by omega) (by omega) h
 omega
theorem ptC_pos (f : Fld) (l s : Int) : 0 < ptC f l s := by unfold ptC pointN; omega
theorem pair_nodup {p q : Nat} {a b r : Int} (h : p ≠ q) : ([⟨p, q, a, r⟩, ⟨q, p, b, r⟩] : List Bd).Nodup := by
 simp
 intro h1 h2
 exact absurd h1 h
theorem boundsC_nodup {f : Fld} {c : Cal} (ht : c.tab f.st.length f.li.length) (r : Int) : (boundsC f c r).Nodup := by
 obtain ⟨hl, hs, h⟩ := ht
 unfold boundsC spans
 split <;> rename_i hk
 ·simp only [List.flatMap_cons, List.flatMap_nil, List.append_nil, spB]
  exact pair_nodup (Nat.ne_of_lt (ptC_pos f _ _))
 ·simp only [List.flatMap_cons, List.flatMap_nil, List.append_nil, spB]
  refine pair_nodup fun e => ?_
  have ho : inN c.oth f.li.length := by unfold inN at *; rcases h with h | h | h | h | h <;> omega
  have := (ptC_inj hl hs ho hs e).1
  rcases h with h | h | h | h | h <;> omega
 ·simp only [List.flatMap_cons, List.flatMap_nil, List.append_nil, spB]
  have ho : inN c.till f.st.length := by rcases h with h | h | h | h | h <;> first | omega | exact h.2.2.2.2.1
  refine pair_nodup fun e => ?_
  have := (ptC_inj hl hs hl ho e).2
  rcases h with h | h | h | h | h <;> omega
 ·have ho : inN c.oth f.li.length := by unfold inN at *; rcases h with h | h | h | h | h <;> omega
  have hlt : c.lim < c.oth ∧ c.fr < c.till ∧ c.till < f.st.length := by rcases h with h | h | h | h | h <;> omega
  have hst : ∀ k : Nat, k < (c.till - c.fr + 1).toNat → inN (c.fr + (k : Int)) f.st.length := fun k hk => by unfold inN at *; omega
  rw [List.flatMap_map]
  unfold List.Nodup
  rw [List.pairwise_flatMap]
  refine ⟨fun k hk => ?_, ?_⟩
  ·rw [List.mem_range] at hk
   exact pair_nodup fun e => by
    have := (ptC_inj hl (hst k hk) ho (hst k hk) e).1
    omega
  ·refine List.Pairwise.imp_of_mem ?_ List.pairwise_lt_range
   intro a b ha hb hab x hx y hy e
   rw [List.mem_range] at ha hb
   simp only [spB, List.mem_cons, List.not_mem_nil, or_false] at hx hy
   rcases hx with rfl | rfl <;> rcases hy with rfl | rfl <;> simp only [Bd.mk.injEq] at e
   ·have := (ptC_inj hl (hst a ha) hl (hst b hb) e.1).2; omega
   ·have := (ptC_inj hl (hst a ha) ho (hst b hb) e.1).1; omega
   ·have := (ptC_inj ho (hst a ha) hl (hst b hb) e.1).1; omega
   ·have := (ptC_inj ho (hst a ha) ho (hst b hb) e.1).2; omega
 ·simp only [List.flatMap_cons, List.flatMap_nil, List.append_nil, spB]
  have ho : inN c.till f.st.length := by rcases h with h | h | h | h | h <;> first | omega | exact h.2.2.2.1
  refine pair_nodup fun e => ?_
  have := (ptC_inj hl hs hl ho e).2
  rcases h with h | h | h | h | h <;> omega
 ·exact List.nodup_nil
theorem compact_nodup {α : Type} [Inhabited α] [DecidableEq α] {l : List α} (h : l.Nodup) : Lib.compact l = l := by
 refine Lib.compact_all l fun j hj => ?_
 unfold Lib.keeps
 rw [decide_eq_true_eq]
 by_cases h0 : j = 0
 ·exact .inl h0
 ·refine .inr ?_
  rw [getElem!_pos l.toArray j (by simpa using hj), getElem!_pos l.toArray (j - 1) (by simp; omega)]
  simp only [List.getElem_toArray]
  intro e
  have := List.pairwise_iff_getElem.1 h (j - 1) j (by omega) hj (by omega)
  exact this e.symm
theorem perm_of {l : List Bd} {d : Array Bd} (h : Sort.PermIn 0 l.toArray.size l.toArray d) : d.toList.Perm l := by
 obtain ⟨h1, _, h3⟩ := h
 have e1 : l.toArray.extract 0 l.toArray.size = l.toArray := by simp
 have e2 : d.extract 0 l.toArray.size = d := by rw [← h1]; simp
 rw [e1, e2] at h3
 simpa using h3
theorem sorted_of {l : List Bd} {d : Array Bd} {r : Int} (hp : d.toList.Perm l) (hr : ∀ b ∈ l, b.record = r) (h : Sort.SortedIn (fun x y => decide (cmp3 x y < 0)) 0 l.length d) : d.toList.Pairwise le4 := by
 have hlen : d.size = l.length := by have := hp.length_eq; simpa using this
 rw [List.pairwise_iff_getElem]
 intro i j hi hj hij
 have hi' : i < d.size := by simpa using hi
 have hj' : j < d.size := by simpa using hj
 have := h i j (Nat.zero_le _) hij (by omega)
 rw [getElem!_pos d i hi', getElem!_pos d j hj', decide_eq_false_iff_not] at this
 simp only [Array.getElem_toList]
 refine cmp3_le this ?_
 rw [hr _ (hp.mem_iff.1 (by simp)), hr _ (hp.mem_iff.1 (by simp))]
end Pl
end Go.Proofs.YtgbpekeoegfjpaaGreatDoor
namespace Go.Proofs.YtgbpekeoegfjpaaGreatDoor
open Go.RowKit Go.Shelf
theorem eq_bd (a b : Pl.Bd) (W : World) : (Op.equalIn 10000 99 (.agg #[.int .i64 (a.fr : Int), .int .i64 (a.till : Int), .int .i64 a.most, .int .i64 a.record]) (.agg #[.int .i64 (b.fr : Int), .int .i64 (b.till : Int), .int .i64 b.most, .int .i64 b.record])).run Tryz.prog W = .ok (decide (a = b)) W := by
 obtain ⟨a1, a2, a3, a4⟩ := a
 obtain ⟨b1, b2, b3, b4⟩ := b
 simp only [Pl.Bd.mk.injEq]
 simp [go_sem]
 repeat' split
 all_goals simp_all
 all_goals omega
theorem orI_a (A : Option Addr) (cp : Nat) (l : List Int) (w : World) (hl : Ints w w.heap.size A l) (hn : l.length ≤ 1000) :
  Calls Tryz.prog 198 #[.slice A l.length cp] w fun e w' => e = .returned (.int .i64 ((l.find? fun x => x != 0).getD 0)) ∧ w = w' := by
 go_enter Tryz.func198, Tryz.ntmps198
 go_wp2
 go_loop [8] (fun i => ∃ (k : Nat), k ≤ l.length ∧ i = .int .i64 k ∧ Hid (∀ j (h : j < l.length), j < k → l[j] = 0)) (fun i => l.length - (intOf i).toNat)
 case atStart => exact ⟨0, by omega, rfl, Lib.hid fun j _ h => by omega⟩
 case round =>
  obtain ⟨k, hk, rfl, hz⟩ := hrel
  by_cases hlt : k < l.length
  ·obtain ⟨b, off, rfl, hb, q0⟩ := Ints.at1 hl hlt
   have e1 : (0 : Int) ≤ (k : Int) := by omega
   have e2 : (k : Int) < (l.length : Int) := by omega
   by_cases h0 : l[k] = 0
   ·have HN : Hid (∀ j (h : j < l.length), j < k + 1 → l[j] = 0) := Lib.hid fun j h hj => by
     by_cases e : j = k
     ·subst e; exact h0
     ·exact hz.out j h (by omega)
    rw [h0] at q0
    clear hz h0
    go_wp2
    go_round
    case rel => exact ⟨k + 1, by omega, by go_num, HN⟩
    case measure => simp [intOf]; try omega
   ·have HF : Hid ((l.find? fun x => x != 0).getD 0 = l[k]) := Lib.hid (by
     have h1 : l = l.take k ++ l[k] :: l.drop (k + 1) := by rw [← List.drop_eq_getElem_cons hlt, List.take_append_drop]
     have h2 : (l.take k).find? (fun x => x != 0) = none := by
      rw [List.find?_eq_none]
      intro x hx
      obtain ⟨j, hj, rfl⟩ := List.mem_take_iff_getElem.1 hx
      rw [hz.out j (by omega) (by omega)]
      decide
     conv => lhs; rw [h1]
     rw [List.find?_append, h2, Option.none_or, List.find?_cons_of_pos (by simpa using h0)]
     rfl)
    obtain ⟨x, hx⟩ : ∃ x, l[k] = x := ⟨_, rfl⟩
    rw [hx] at q0 h0 HF
    have q1 : (x != 0) = true := by simpa using h0
    clear hz hx h0
    go_wp2
    go_ret
    exact ⟨by rw [HF.out]; rfl, rfl⟩
  ·have HF : Hid ((l.find? fun x => x != 0).getD 0 = 0) := Lib.hid (by
    rw [List.find?_eq_none.2]
    ·rfl
    ·intro x hx
     obtain ⟨j, hj, rfl⟩ := List.getElem_of_mem hx
     rw [hz.out j hj (by omega)]
     decide)
   clear hz
   go_wp2
   go_ret
   exact ⟨by rw [HF.out]; rfl, rfl⟩
theorem cmp3_find (a b : Pl.Bd) : (([Lib.compareInt a.fr b.fr, Lib.compareInt a.till b.till, Lib.compareInt a.most b.most] : List Int).find? fun x => x != 0).getD 0 = Pl.cmp3 a b := by
 unfold Pl.cmp3
 by_cases h1 : Lib.compareInt a.fr b.fr = 0
 ·by_cases h2 : Lib.compareInt a.till b.till = 0
  ·by_cases h3 : Lib.compareInt a.most b.most = 0
   ·simp [h1, h2, h3]
   ·simp [h1, h2, h3]
  ·simp [h1, h2]
 ·simp [h1]
theorem swo3 : Sort.SWO (ltOf Pl.cmp3) where
 irrefl x := by unfold ltOf; rw [decide_eq_false_iff_not, Pl.cmp3_lt]; omega
 trans x y z h1 h2 := by unfold ltOf at *; rw [decide_eq_true_eq, Pl.cmp3_lt] at *; omega
 ntrans x y z h1 h2 := by unfold ltOf at *; rw [decide_eq_false_iff_not, Pl.cmp3_lt] at *; omega
set_option maxRecDepth 100000 in
set_option maxHeartbeats 4000000 in
theorem cmp3_a (x y : Pl.Bd) (W : World) : Calls Tryz.prog 197 #[.agg #[.int .i64 (x.fr : Int), .int .i64 (x.till : Int), .int .i64 x.most, .int .i64 x.record], .agg #[.int .i64 (y.fr : Int), .int .i64 (y.till : Int), .int .i64 y.most, .int .i64 y.record]] W fun e w' => e = .returned (.int .i64 (Pl.cmp3 x y)) ∧ ∃ q os', w' = Sort.grow (W.drewN q) os' := by
 have hcmp : ∀ (a b : Int) (V : World), Calls Tryz.prog 199 #[.int .i64 a, .int .i64 b] V fun e w' => e = .returned (.int .i64 (Lib.compareInt a b)) ∧ w' = V := fun a b V => AnyG.cmp_Compare_int Tryz.cmpInt a b V
 have HR := Lib.hid (cmp3_find x y)
 have c1 := hcmp x.fr y.fr
 have c2 := hcmp x.till y.till
 have c3 := hcmp x.most y.most
 obtain ⟨r1, hr1⟩ : ∃ r, Lib.compareInt x.fr y.fr = r := ⟨_, rfl⟩
 obtain ⟨r2, hr2⟩ : ∃ r, Lib.compareInt x.till y.till = r := ⟨_, rfl⟩
 obtain ⟨r3, hr3⟩ : ∃ r, Lib.compareInt x.most y.most = r := ⟨_, rfl⟩
 rw [hr1] at c1 HR
 rw [hr2] at c2 HR
 rw [hr3] at c3 HR
 clear hcmp hr1 hr2 hr3
 have k1 := heap_alloc2_old W (.cells #[.int .i64 (x.fr : Int), .int .i64 (x.till : Int), .int .i64 x.most, .int .i64 x.record] 99) (.cells #[.int .i64 (y.fr : Int), .int .i64 (y.till : Int), .int .i64 y.most, .int .i64 y.record] 99)
 have k2 := heap_alloc2_new W (.cells #[.int .i64 (x.fr : Int), .int .i64 (x.till : Int), .int .i64 x.most, .int .i64 x.record] 99) (.cells #[.int .i64 (y.fr : Int), .int .i64 (y.till : Int), .int .i64 y.most, .int .i64 y.record] 99)
 obtain ⟨V0, hV0⟩ : ∃ V0, (W.alloc (.cells #[.int .i64 (x.fr : Int), .int .i64 (x.till : Int), .int .i64 x.most, .int .i64 x.record] 99)).alloc (.cells #[.int .i64 (y.fr : Int), .int .i64 (y.till : Int), .int .i64 y.most, .int .i64 y.record] 99) = V0 := ⟨_, rfl⟩
 have HV : Hid (∃ os, V0 = Sort.grow W os) := Lib.hid ⟨_, by rw [← hV0, Sort.alloc_eq_grow, Sort.alloc_eq_grow, Sort.grow_grow]⟩
 rw [hV0] at k1 k2
 have hV1 : W.heap.size + 1 < V0.heap.size := (lO k2)
 have hor := orI_a (some ⟨V0.heap.size, 0, none⟩) 3 [r1, r2, r3] (V0.alloc (.cells #[.int .i64 r1, .int .i64 r2, .int .i64 r3] 3)).drew (row_seg (enc := encInt) (fun _ => rfl) (show V0.heap.size < (V0.alloc (.cells #[.int .i64 r1, .int .i64 r2, .int .i64 r3] 3)).heap.size by rw [World.size_alloc]; exact Nat.lt_succ_self _) (heap_alloc_new V0 _) rfl) (by simp)
 rw [HR.out] at hor
 clear HR
 have hA := ((Below.refl V0.heap.size V0).alloc (Nat.le_refl _) (.cells #[.int .i64 r1, .int .i64 r2, .int .i64 r3] 3)).drew
 obtain ⟨hc1, hf1⟩ := blk_cells k1
 obtain ⟨hc2, hf2⟩ := blk_cells k2
 have d1 := hc1 0
 have d2 := hc1 1
 have d3 := hc1 2
 have d4 := hc2 0
 have d5 := hc2 1
 have d6 := hc2 2
 clear hc1 hc2 hf1 hf2 k1 k2
 go_enter Tryz.func197, Tryz.ntmps197
 go_wp2
 clear hV0
 go_region_held3 (fun V => V.cell? ⟨W.heap.size, 0, none⟩ = some (.int .i64 (x.fr : Int)) ∧ V.cell? ⟨W.heap.size, 1, none⟩ = some (.int .i64 (x.till : Int)) ∧ V.cell? ⟨W.heap.size, 2, none⟩ = some (.int .i64 x.most) ∧ V.cell? ⟨W.heap.size + 1, 0, none⟩ = some (.int .i64 (y.fr : Int)) ∧ V.cell? ⟨W.heap.size + 1, 1, none⟩ = some (.int .i64 (y.till : Int)) ∧ V.cell? ⟨W.heap.size + 1, 2, none⟩ = some (.int .i64 y.most)) (first | exact ⟨d1, d2, d3, d4, d5, d6⟩ | exact ⟨(hA.cell (p := ⟨W.heap.size, 0, none⟩) (show W.heap.size < V0.heap.size by omega)).trans d1, (hA.cell (p := ⟨W.heap.size, 1, none⟩) (show W.heap.size < V0.heap.size by omega)).trans d2, (hA.cell (p := ⟨W.heap.size, 2, none⟩) (show W.heap.size < V0.heap.size by omega)).trans d3, (hA.cell (p := ⟨W.heap.size + 1, 0, none⟩) (show W.heap.size + 1 < V0.heap.size by omega)).trans d4, (hA.cell (p := ⟨W.heap.size + 1, 1, none⟩) (show W.heap.size + 1 < V0.heap.size by omega)).trans d5, (hA.cell (p := ⟨W.heap.size + 1, 2, none⟩) (show W.heap.size + 1 < V0.heap.size by omega)).trans d6⟩) (first
  | (go_at_call 199; refine (c1 _).mono ?_; rintro e w' ⟨rfl, rfl⟩; clear c1)
  | (go_at_call 199; refine (c2 _).mono ?_; rintro e w' ⟨rfl, rfl⟩; clear c2)
  | (go_at_call 199; refine (c3 _).mono ?_; rintro e w' ⟨rfl, rfl⟩; clear c3)
  | (go_at_call 198; refine hor.mono ?_; rintro e w' ⟨rfl, rfl⟩))
 all_goals go_wp2
 all_goals go_ret
 all_goals (
  obtain ⟨os, hos⟩ := HV.out
  exact ⟨rfl, 1, _, by rw [hos, Sort.alloc_eq_grow, Sort.grow_grow]; rfl⟩)
attribute [-go_sem] run_equalIn_agg
set_option maxRecDepth 100000 in
set_option maxHeartbeats 4000000 in
theorem compactBd_a (A : Option Addr) (cp : Nat) (l : List Pl.Bd) (w : World) (hl : Bds w w.heap.size A l) (hn : l.length ≤ 1000) (hd : l.Nodup) :
  Calls Tryz.prog 200 #[.slice A l.length cp] w fun e w' => e = .returned (.slice A l.length cp) ∧ ∃ q, w' = w.drewN q := by
 by_cases h2 : l.length < 2
 ·have e1 : (l.length : Int) < 2 := by omega
  go_enter Tryz.func200, Tryz.ntmps200
  go_wp2
  go_ret
  exact ⟨rfl, 0, rfl⟩
 ·have e1 : ¬ (l.length : Int) < 2 := by omega
  have HD := Lib.hid (List.pairwise_iff_getElem.1 hd)
  clear hd
  go_enter Tryz.func200, Tryz.ntmps200
  go_wp2
  go_loopw [3] (fun i wr => ∃ (k q : Nat), 1 ≤ k ∧ k ≤ l.length ∧ i = .int .i64 k ∧ wr = w.drewN q) (fun i _ => l.length - (intOf i).toNat)
  case atStart => exact ⟨1, 0, by omega, by omega, rfl, rfl⟩
  case round =>
   obtain ⟨k, q, hk1, hk, rfl, rfl⟩ := hrel
   by_cases hlt : k < l.length
   ·obtain ⟨j, hj⟩ : ∃ j, k - 1 = j := ⟨_, rfl⟩
    have hjl : j < l.length := by omega
    have hw : IntKind.i64.wrap ((k : Int) - 1) = ((j : Nat) : Int) := by rw [IntWalk.i64_in _ (by omega)]; omega
    have hne := HD.out j k hjl hlt (by omega)
    clear hj
    obtain ⟨b, off, hA, hbB, q0, q1, q2, q3⟩ := Bds.at4 hl hlt
    obtain ⟨b', off', hA', hbB', r0, r1, r2, r3⟩ := Bds.at4 hl hjl
    rw [hA] at hA'
    obtain ⟨rfl, rfl⟩ : b = b' ∧ off = off' := by simpa using hA'
    clear hA'
    obtain ⟨x, hx⟩ : ∃ x, l[k] = x := ⟨_, rfl⟩
    obtain ⟨y, hy⟩ : ∃ y, l[j] = y := ⟨_, rfl⟩
    rw [hx] at q0 q1 q2 q3 hne
    rw [hy] at r0 r1 r2 r3 hne
    have hEq : ∀ W, (Op.equalIn 10000 99 (.agg #[.int .i64 (x.fr : Int), .int .i64 (x.till : Int), .int .i64 x.most, .int .i64 x.record]) (.agg #[.int .i64 (y.fr : Int), .int .i64 (y.till : Int), .int .i64 y.most, .int .i64 y.record])).run Tryz.prog W = .ok false W := fun W => (eq_bd x y W).trans (by rw [decide_eq_false (fun e => hne e.symm)])
    clear hx hy hne
    subst hA
    have f1 : (0 : Int) ≤ (k : Int) := by omega
    have f2 : (k : Int) < (l.length : Int) := by omega
    have f3 : (0 : Int) ≤ (j : Int) := by omega
    have f4 : (j : Int) < (l.length : Int) := by omega
    have q0 := (World.cell?_drewN w q ⟨b, off + k * 4, none⟩).trans q0
    have q1 := (World.cell?_drewN w q ⟨b, off + k * 4 + 1, none⟩).trans q1
    have q2 := (World.cell?_drewN w q ⟨b, off + k * 4 + 2, none⟩).trans q2
    have q3 := (World.cell?_drewN w q ⟨b, off + k * 4 + 3, none⟩).trans q3
    have r0 := (World.cell?_drewN w q ⟨b, off + j * 4, none⟩).trans r0
    have r1 := (World.cell?_drewN w q ⟨b, off + j * 4 + 1, none⟩).trans r1
    have r2 := (World.cell?_drewN w q ⟨b, off + j * 4 + 2, none⟩).trans r2
    have r3 := (World.cell?_drewN w q ⟨b, off + j * 4 + 3, none⟩).trans r3
    have hnext : Hid (∀ n, ∃ q', (w.drewN q).drewN n = w.drewN q') := Lib.hid fun n => ⟨q + n, by rw [World.drewN_drewN]⟩
    generalize w.drewN q = V at *
    go_wp2
    go_region_held3 (fun W => W.cell? ⟨b, off + k * 4, none⟩ = some (.int .i64 (x.fr : Int)) ∧ W.cell? ⟨b, off + k * 4 + 1, none⟩ = some (.int .i64 (x.till : Int)) ∧ W.cell? ⟨b, off + k * 4 + 2, none⟩ = some (.int .i64 x.most) ∧ W.cell? ⟨b, off + k * 4 + 3, none⟩ = some (.int .i64 x.record) ∧ W.cell? ⟨b, off + j * 4, none⟩ = some (.int .i64 (y.fr : Int)) ∧ W.cell? ⟨b, off + j * 4 + 1, none⟩ = some (.int .i64 (y.till : Int)) ∧ W.cell? ⟨b, off + j * 4 + 2, none⟩ = some (.int .i64 y.most) ∧ W.cell? ⟨b, off + j * 4 + 3, none⟩ = some (.int .i64 y.record)) (exact ⟨q0, q1, q2, q3, r0, r1, r2, r3⟩) (fail)
    all_goals go_wp2
    all_goals (
     go_roundw
     case rel => obtain ⟨q', hq'⟩ := hnext.out 1; exact ⟨k + 1, q', by omega, by omega, by go_num, hq'⟩
     case measure => simp [intOf]; try omega)
   ·obtain rfl : k = l.length := by omega
    go_wp2
    go_ret
    exact ⟨rfl, q, rfl⟩
structure RowB (W : World) (g : Nat) (l : List Pl.Bd) : Prop where
 hold : Sort.HoldsK encBd 4 W g 0 l.toArray
 lt : g < W.heap.size
theorem RowB.bds {W : World} {g : Nat} {l : List Pl.Bd} (h : RowB W g l) : Bds W W.heap.size (some ⟨g, 0, none⟩) l := by
 refine .inr ⟨g, 0, rfl, h.lt, fun k x hx j v hv => ?_⟩
 have hk : k < l.length := (List.getElem?_eq_some_iff.1 hx).1
 have hj : j < 4 := by have := (List.getElem?_eq_some_iff.1 hv).1; simpa [encBd] using this
 have := (h.hold.cell (i := k) (c := j) (by simpa using hk) hj).1
 rw [this]
 have e1 : (l.toArray[k]!) = x := by
  rw [getElem!_pos l.toArray k (by simpa using hk)]
  simp only [List.getElem_toArray]
  exact (List.getElem?_eq_some_iff.1 hx).2
 rw [e1]
 have e2 := List.getElem?_eq_some_iff.1 hv
 rw [getElem!_pos (encBd x) j e2.1, e2.2]
theorem RowB.kept {W W' : World} {g : Nat} {l : List Pl.Bd} {r : Option Nat} (h : RowB W g l) (hg : W.grownBy W' r) (hne : some g ≠ r) : RowB W' g l :=
 ⟨fun j hj => ⟨(World.cell?_of_block (a := ⟨g, 0 + j, none⟩) (hg.block g h.lt hne)).trans (h.hold j hj).1, (World.frozen?_of_block (a := ⟨g, 0 + j, none⟩) (hg.block g h.lt hne)).trans (h.hold j hj).2⟩, Nat.lt_of_lt_of_le h.lt hg.size⟩
theorem rowB_of_own {W : World} {n₀ n : Nat} {v : Value} {l : List Pl.Bd} (h : W.ownsRow n₀ 99 4 v n (l.flatMap encBd)) (h0 : 0 < n) : ∃ g c, v = .slice (some ⟨g, 0, none⟩) l.length c ∧ n₀ ≤ g ∧ RowB W g l := by
 have hn := own_count lay_bd h
 rcases h.2 with ⟨_, h⟩ | ⟨g, cap, cur, rfl, hb, hg, hle, _, hcs, htk⟩
 ·omega
 ·refine ⟨g, cap, by rw [← hn], hb, ⟨fun t ht => ?_, (lO hg)⟩⟩
  obtain ⟨hc, hf⟩ := blk_cells hg
  have ht' : t < l.length * 4 := by simpa using ht
  refine ⟨?_, hf _⟩
  rw [Nat.zero_add, hc, ← Array.getElem?_toList, Sort.get_flatK _ _ _ _ (by simpa using ht')]
  have h1 : (cur.toList.take (n * 4))[t]? = cur.toList[t]? := by rw [List.getElem?_take, if_pos (by omega)]
  rw [← h1, htk]
  have hd : t / 4 < l.length := by omega
  have hm : t % 4 < (encBd l[t / 4]).length := by simp [encBd]; omega
  have h2 := flat_at encBd 4 (fun _ => rfl) (l := l) (k := t / 4) (x := l[t / 4]) (List.getElem?_eq_getElem hd) (j := t % 4) (v := (encBd l[t / 4])[t % 4]) (List.getElem?_eq_getElem hm)
  rw [show t / 4 * 4 + t % 4 = t by omega] at h2
  rw [h2, getElem!_pos l.toArray (t / 4) (by simpa using hd)]
  simp only [List.getElem_toArray, id]
  rw [getElem!_pos (encBd l[t / 4]) (t % 4) hm]
theorem sortB_a (W : World) (g c : Nat) (l : List Pl.Bd) (r : Int) (h : RowB W g l) (hr : ∀ b ∈ l, b.record = r) (hn : l.length ≤ 1000) :
  Calls Tryz.prog 196 #[.slice (some ⟨g, 0, none⟩) l.length c, .func (.func 197) #[] #[]] W fun e w' => e = .returned (.tuple #[]) ∧ ∃ l', l'.Perm l ∧ l'.Pairwise Pl.le4 ∧ RowB w' g l' ∧ W.grownBy w' (some g) := by
 have eg : ∀ args w, (callFunc 197 args).run Tryz.prog w = .ok (.enter 197 args) w := enters_of Tryz.func197 (by kernel_rfl) rfl
 have hcmp : CmpLays Tryz.prog 197 #[] encBd 4 Pl.cmp3 g 0 l.toArray.size W := fun _ _ _ _ x y => cmp3_a x y _
 have hcon := AnyQ.slices_SortFunc Tryz.sortBd 4 Tryz.isAgg99 Tryz.sizeOf99 encBd (fun _ => rfl) (fun x v hv => by simp [encBd] at hv; rcases hv with rfl | rfl | rfl | rfl <;> rfl) Pl.cmp3 swo3 197 #[] g 0 c l.toArray W eg hcmp h.hold h.lt (by simp; omega)
 simp only [List.size_toArray] at hcon
 refine hcon.mono ?_
 rintro e w' ⟨rfl, d', n, os, hp, hs, rfl⟩
 have hperm := Pl.perm_of (by simpa using hp)
 have hlen : d'.size = l.length := by have := hperm.length_eq; simpa using this
 refine ⟨rfl, d'.toList, hperm, Pl.sorted_of hperm hr hs, ⟨?_, ?_⟩, grow_grown (putRow_grown _ _ _ _ _) _⟩
 ·rw [Array.toArray_toList]
  exact holdsK_sortWorldK_c encBd 4 W g 0 l.toArray d' n os h.hold h.lt (by simpa using hlen)
 ·exact Nat.lt_of_lt_of_le h.lt (size_sortWorldK_c encBd 4 W g 0 n d' os)
set_option maxHeartbeats 1000000 in
theorem sorted_a (W : World) (g c : Nat) (l : List Pl.Bd) (r : Int) (h : RowB W g l) (hr : ∀ b ∈ l, b.record = r) (hn : l.length ≤ 1000) (hd : l.Nodup) :
  Calls Tryz.prog 142 #[.slice (some ⟨g, 0, none⟩) l.length c] W fun e w' => e = .returned (.slice (some ⟨g, 0, none⟩) l.length c) ∧ ∃ l', l'.Perm l ∧ l'.Pairwise Pl.le4 ∧ RowB w' g l' ∧ W.grownBy w' (some g) := by
 have hs := sortB_a W g c l r h hr hn
 go_enter Tryz.func142, Tryz.ntmps142
 go_wp2_with fail
 refine hs.mono ?_
 rintro e w1 ⟨rfl, l', hp, ho, hB, hg⟩
 have hlen := hp.length_eq
 have hcp := compactBd_a (some ⟨g, 0, none⟩) c l' w1 hB.bds (by omega) (hp.nodup_iff.2 hd)
 rw [hlen] at hcp
 go_wp2_with fail
 refine hcp.mono ?_
 rintro e w2 ⟨rfl, q, rfl⟩
 go_wp2_with fail
 go_ret
 exact ⟨rfl, l', hp, ho, ⟨hB.hold, hB.lt⟩, ⟨hg.os, hg.tape, hg.output, hg.size, hg.block⟩⟩
end Go.Proofs.YtgbpekeoegfjpaaGreatDoor
namespace Go.Proofs.YtgbpekeoegfjpaaGreatDoor
open Go.RowKit Go.Shelf
section
attribute [local go_sem] Oper.semAt_some
attribute [-go_sem] Builtin.append_
set_option maxRecDepth 100000 in
set_option maxHeartbeats 2000000 in
theorem bounds_own (A1 A2 A3 A4 : Option Addr) (c1 c2 c3 c4 : Nat) (f : Pl.Fld) (c : Pl.Cal) (r : Int) (w : World) (ht : c.tab f.st.length f.li.length) (hL : f.li.length ≤ 1000) (hS : f.st.length ≤ 100000) (hf : FldS w w.heap.size A1 A2 A3 A4 f) (hva : f.va.length ≤ 100000) (hx : ∀ s ∈ f.st, 0 ≤ s.2 ∧ s.2 ≤ 100000)
  (hlo : ∀ x ∈ Pl.spans f c, -1000000000000000 ≤ x.lo ∧ x.lo ≤ 1000000000000000) (hlen : (Pl.spans f c).length ≤ 100001) (hlen1 : 1 ≤ (Pl.spans f c).length) :
  Calls Tryz.prog 90 #[.agg #[.slice A1 f.st.length c1, .slice A2 f.li.length c2, .slice A3 f.pa.length c3, .slice A4 f.va.length c4, .int .u8 (c.kind : Int), .int .i64 c.lim, .int .i64 c.oth, .int .i64 c.fr, .int .i64 c.till, .int .i64 c.size, .int .i64 c.er, .int .i64 c.crs.b, .int .i64 c.crs.n, .int .i64 c.crs.l, .int .i64 c.crs.y, .int .i64 c.crs.x, .int .i64 c.crs.s], .int .i64 r] w fun e w' => ∃ g cp, e = .returned (.slice (some ⟨g, 0, none⟩) (Pl.boundsC f c r).length cp) ∧ w.heap.size ≤ g ∧ RowB w' g (Pl.boundsC f c r) ∧ Below w.heap.size w w' := by
 refine (callsIn_wide (n := 3)).1 ?_
 refine callsIn_of_wp_marks Tryz.func90 rfl trivial ?_ rfl
 simp only [Tryz.ntmps90, List.size_toArray, List.length_cons, List.length_nil, Nat.reduceAdd, Nat.reduceSub, Array.replicate_succ, Array.replicate_zero, List.push_toArray, List.append_toArray, List.nil_append, List.cons_append]
 gi_wp2_with (refine ⟨trivial, ?_⟩; gi_at_call 131; refine (callsIn_wide.2 (spansF_a A1 A2 A3 A4 c1 c2 c3 c4 f c _)).mono ?_; rintro e w' ⟨rfl, rfl⟩)
 obtain ⟨W0, hW0⟩ : ∃ W0, ((((w.alloc (.cells #[.slice A1 f.st.length c1, .slice A2 f.li.length c2, .slice A3 f.pa.length c3, .slice A4 f.va.length c4, .int .u8 (c.kind : Int), .int .i64 c.lim, .int .i64 c.oth, .int .i64 c.fr, .int .i64 c.till, .int .i64 c.size, .int .i64 c.er, .int .i64 c.crs.b, .int .i64 c.crs.n, .int .i64 c.crs.l, .int .i64 c.crs.y, .int .i64 c.crs.x, .int .i64 c.crs.s] 128)).alloc (.cells #[.int .i64 r] 3)).alloc (.cells #[.slice none 0 0] 51)).alloc (.cells #[.slice A1 f.st.length c1, .slice A2 f.li.length c2, .slice A3 f.pa.length c3, .slice A4 f.va.length c4, .int .u8 (c.kind : Int), .int .i64 c.lim, .int .i64 c.oth, .int .i64 c.fr, .int .i64 c.till, .int .i64 c.size, .int .i64 c.er, .int .i64 c.crs.b, .int .i64 c.crs.n, .int .i64 c.crs.l, .int .i64 c.crs.y, .int .i64 c.crs.x, .int .i64 c.crs.s] 128)) = W0 := ⟨_, rfl⟩
 have hs0 : W0.heap.size = w.heap.size + 4 := by rw [← hW0]; simp
 have hN0 : ∀ W, Below W0.heap.size W0 W → w.heap.size + 6 ≤ W.heap.size → BI A1 A2 A3 A4 c1 c2 c3 c4 f c r w 0 W := by
  intro W hb hs
  have e1 := hb.block (w.heap.size + 1) (by omega)
  have e2 := hb.block (w.heap.size + 2) (by omega)
  have e3 := hb.block (w.heap.size + 3) (by omega)
  have hbw : Below w.heap.size w W := by
   refine Below.trans ?_ (hb.mono (show w.heap.size ≤ W0.heap.size by omega))
   rw [← hW0]
   exact (((((Below.refl _ w).alloc (Nat.le_refl _) _).alloc (by simp) _).alloc (by simp; omega) _).alloc (by simp; omega) _)
  refine ⟨hbw, hs, ⟨_, e2.trans ?_, World.ownsRow_nil _ _ _ _⟩, e1.trans ?_, e3.trans ?_⟩
  ·rw [← hW0]; have := (Boxed.new ((w.alloc (.cells #[.slice A1 f.st.length c1, .slice A2 f.li.length c2, .slice A3 f.pa.length c3, .slice A4 f.va.length c4, .int .u8 (c.kind : Int), .int .i64 c.lim, .int .i64 c.oth, .int .i64 c.fr, .int .i64 c.till, .int .i64 c.size, .int .i64 c.er, .int .i64 c.crs.b, .int .i64 c.crs.n, .int .i64 c.crs.l, .int .i64 c.crs.y, .int .i64 c.crs.x, .int .i64 c.crs.s] 128)).alloc (.cells #[.int .i64 r] 3)) 51 (.slice none 0 0)).alloc (.cells #[.slice A1 f.st.length c1, .slice A2 f.li.length c2, .slice A3 f.pa.length c3, .slice A4 f.va.length c4, .int .u8 (c.kind : Int), .int .i64 c.lim, .int .i64 c.oth, .int .i64 c.fr, .int .i64 c.till, .int .i64 c.size, .int .i64 c.er, .int .i64 c.crs.b, .int .i64 c.crs.n, .int .i64 c.crs.l, .int .i64 c.crs.y, .int .i64 c.crs.x, .int .i64 c.crs.s] 128); simp only [World.size_alloc] at this; exact this
  ·rw [← hW0]; have := ((Boxed.new (w.alloc (.cells #[.slice A1 f.st.length c1, .slice A2 f.li.length c2, .slice A3 f.pa.length c3, .slice A4 f.va.length c4, .int .u8 (c.kind : Int), .int .i64 c.lim, .int .i64 c.oth, .int .i64 c.fr, .int .i64 c.till, .int .i64 c.size, .int .i64 c.er, .int .i64 c.crs.b, .int .i64 c.crs.n, .int .i64 c.crs.l, .int .i64 c.crs.y, .int .i64 c.crs.x, .int .i64 c.crs.s] 128)) 3 (.int .i64 r)).alloc (.cells #[.slice none 0 0] 51)).alloc (.cells #[.slice A1 f.st.length c1, .slice A2 f.li.length c2, .slice A3 f.pa.length c3, .slice A4 f.va.length c4, .int .u8 (c.kind : Int), .int .i64 c.lim, .int .i64 c.oth, .int .i64 c.fr, .int .i64 c.till, .int .i64 c.size, .int .i64 c.er, .int .i64 c.crs.b, .int .i64 c.crs.n, .int .i64 c.crs.l, .int .i64 c.crs.y, .int .i64 c.crs.x, .int .i64 c.crs.s] 128); simp only [World.size_alloc] at this; exact this
  ·rw [← hW0]; have := World.alloc_heap_new (((w.alloc (.cells #[.slice A1 f.st.length c1, .slice A2 f.li.length c2, .slice A3 f.pa.length c3, .slice A4 f.va.length c4, .int .u8 (c.kind : Int), .int .i64 c.lim, .int .i64 c.oth, .int .i64 c.fr, .int .i64 c.till, .int .i64 c.size, .int .i64 c.er, .int .i64 c.crs.b, .int .i64 c.crs.n, .int .i64 c.crs.l, .int .i64 c.crs.y, .int .i64 c.crs.x, .int .i64 c.crs.s] 128)).alloc (.cells #[.int .i64 r] 3)).alloc (.cells #[.slice none 0 0] 51)) (.cells #[.slice A1 f.st.length c1, .slice A2 f.li.length c2, .slice A3 f.pa.length c3, .slice A4 f.va.length c4, .int .u8 (c.kind : Int), .int .i64 c.lim, .int .i64 c.oth, .int .i64 c.fr, .int .i64 c.till, .int .i64 c.size, .int .i64 c.er, .int .i64 c.crs.b, .int .i64 c.crs.n, .int .i64 c.crs.l, .int .i64 c.crs.y, .int .i64 c.crs.x, .int .i64 c.crs.s] 128); simp only [World.size_alloc] at this; exact this
 rw [hW0]
 refine wpIn_rangeFunc_st (F := Fence.wide) (encs := encSp) rfl (by omega) (gf := 189) (lb := #[.pointer (some ⟨w.heap.size + 3, 0, none⟩)]) (by simp [go_sem]) trivial (enters_of Tryz.func189 (by kernel_rfl) rfl) (fun _ => rfl)
  (fun k (_ : Pl.Sp) => k + 1) 0 (Pl.spans f c).length (fun k x => (Pl.spans f c)[k]? = some x) (BI A1 A2 A3 A4 c1 c2 c3 c4 f c r w) (AxB A1 A2 A3 A4 c1 c2 c3 c4 f c r w) ?put ?aput ?start ?seq ?assign ?body ?done
 case put =>
  intro s W r r' hl h
  exact h.putObj _ hl rfl (by omega)
 case aput =>
  rintro x a' W r r' hl ⟨Bx, hB, hb, rfl⟩
  exact ⟨Bx, hB, (World.putObj_heap_other (by omega)).trans hb, rfl⟩
 case start =>
  intro r
  refine hN0 _ (((Below.refl _ W0).alloc (Nat.le_refl _) _).alloc (by simp) _) (by simp; omega)
 case seq =>
  rintro rec W1 hY hI hl hk
  rw [hs0] at hY hl hk ⊢
  have hJ : SpJ A1 A2 A3 A4 c1 c2 c3 c4 f c (w.heap.size + 3) (w.heap.size + 4 + 1) (3 - 1) w (fun k W => BI A1 A2 A3 A4 c1 c2 c3 c4 f c r w k W ∧ W.heap[w.heap.size + 4 + 1]? = some (.loop rec) ∧ W.heap[w.heap.size + 4]? = some (.deferred (some []))) :=
   ⟨fun k W h => h.1.box, fun k W h => h.1.below, fun k W W' h hb => ⟨h.1.kept hb, (hb.block _ (by have := h.1.sz; omega)).trans h.2.1, (hb.block _ (by have := h.1.sz; omega)).trans h.2.2⟩, fun k x W hx h => hY k x W hx h.1 h.2.1 h.2.2⟩
  exact spans_a A1 A2 A3 A4 c1 c2 c3 c4 f c (w.heap.size + 3) (w.heap.size + 4 + 1) (3 - 1) w W1 _ hJ ⟨hI, hl, hk⟩ ht hL hS hf hva hx
 case assign =>
  rintro s x W K rr hp hi hl hk hK
  rw [hs0] at hl hk hK ⊢
  unfold encSp
  gi_wp2
  exact hK _ _ (hi.kept ((Below.refl _ W).alloc (Nat.le_refl _) _)) ⟨W.heap.size, hi.sz, World.alloc_heap_new W _, rfl⟩ ((Below.heap_alloc _ _ _ (lO hl)).trans hl) ((Below.heap_alloc _ _ _ (lO hk)).trans hk)
 case body =>
  rintro k x a' W rr hp hi ⟨Bx, hB, hb, rfl⟩ hl hk
  rw [hs0] at hl hk ⊢
  have hxm : x ∈ Pl.spans f c := List.mem_of_getElem? hp
  obtain ⟨l0, l1⟩ := hlo x hxm
  have hkl : k < (Pl.spans f c).length := (List.getElem?_eq_some_iff.1 hp).1
  obtain ⟨v, hv, hr⟩ := hi.own
  have hc := hv.cell
  have hf1 := hv.frozen
  have hrc := hi.rcd.cell
  have b0 : W.cell? ⟨Bx, 0, none⟩ = some (.int .i64 (x.fr : Int)) := by simp [World.cell?, hb]
  have b1 : W.cell? ⟨Bx, 1, none⟩ = some (.int .i64 (x.till : Int)) := by simp [World.cell?, hb]
  have b2 : W.cell? ⟨Bx, 2, none⟩ = some (.int .i64 x.lo) := by simp [World.cell?, hb]
  have b3 : W.cell? ⟨Bx, 3, none⟩ = some (.int .i64 x.hi) := by simp [World.cell?, hb]
  have hng : IntKind.i64.wrap (-x.lo) = -x.lo := IntWalk.i64_in _ (by omega)
  obtain ⟨g', cap', w2, hrun, hown2, hv2, hb2⟩ := app_sp x r hv hr (by omega) hi.sz
  have hc2 := hv2.cell
  have hf2 := hv2.frozen
  gi_wp2
  have hsz := hi.sz
  have key : ∀ j, j < w.heap.size + 6 → j ≠ w.heap.size + 2 → (w2.setCell ⟨w.heap.size + 2, 0, none⟩ (.slice (some ⟨g', 0, none⟩) (2 * k + 2) cap')).heap[j]? = W.heap[j]? := fun j hj hne =>
   (Below.heap_setCell _ _ _ _ hne).trans (hb2.block j hj)
  have hgs := grownBy_setCell' w2 (w.heap.size + 2) (.slice (some ⟨g', 0, none⟩) (2 * k + 2) cap')
  refine ⟨⟨hi.below.trans ((hb2.mono (show w.heap.size ≤ w.heap.size + 6 by omega)).setCell (p := ⟨w.heap.size + 2, 0, none⟩) (by show w.heap.size ≤ w.heap.size + 2; omega) _), by have := hb2.size; have := hgs.size; omega, ⟨_, hv2.set _, ?_⟩, (key _ (by omega) (by omega)).trans hi.rcd, (key _ (by omega) (by omega)).trans hi.box⟩, (key _ (by omega) (by omega)).trans hl, (key _ (by omega) (by omega)).trans hk⟩
  rw [take_succ' hp, List.flatMap_append, show 2 * (k + 1) = 2 * k + 2 by omega]
  have := hown2.kept hgs (.inr (hv2.not_row (by decide) hown2).symm)
  simpa using this
 case done =>
  rintro W hi hk
  rw [hs0] at hk
  obtain ⟨v, hv, hr⟩ := hi.own
  have hc := hv.cell
  have hf1 := hv.frozen
  gi_wp2
  rw [hs0]
  have hq : (Pl.boundsC f c r).length = 2 * (Pl.spans f c).length := by
   unfold Pl.boundsC
   generalize Pl.spans f c = l
   clear hi hr hc hk hv hf1 hlo hlen hN0 hW0 hs0 ht
   induction l with
   | nil => rfl
   | cons x l ih => rw [List.flatMap_cons, List.length_append, ih, List.length_cons]; simp [Pl.spB]; omega
  rw [List.take_length, ← hq] at hr
  have hr2 : W.ownsRow (w.heap.size + 6) 99 4 v (Pl.boundsC f c r).length ((Pl.boundsC f c r).flatMap encBd) := hr
  have hr3 := ownsRow_putObj hr2 (.deferred none) hk rfl
  obtain ⟨g, cp, hv', hgN, hrow⟩ := rowB_of_own hr3 (by omega)
  subst hv'
  refine ⟨by simp, .inl ⟨_, _, rfl, run_takeDeferred hk, ?_⟩⟩
  refine ⟨_, results_tmp rfl _ _ _, g, cp, rfl, by omega, hrow, ?_⟩
  exact hi.below.trans (belowK_b (w := w) (Nat.le_refl _) W (w.heap.size + 4) _ _ (by omega) hk rfl rfl)
end
attribute [-go_sem] run_equalIn_agg storeVar loadVar
attribute [local go_sem] lv_int lv_bool lv_u8
theorem equalB_a (W : World) (g g' c c' : Nat) (l m : List Pl.Bd) (hl : RowB W g l) (hm : RowB W g' m) (h1 : l.length ≤ 1000) (h2 : m.length ≤ 1000) :
  Calls Tryz.prog 141 #[.slice (some ⟨g, 0, none⟩) l.length c, .slice (some ⟨g', 0, none⟩) m.length c'] W fun e w' => e = .returned (.bool (decide (l = m))) ∧ ∃ q, w' = W.drewN q := by
 have hne : NeqAt Tryz.prog 99 (fun x : Pl.Bd => .agg (encBd x).toArray) (fun x y => decide (x = y)) := by
  refine ⟨fun x y w => ?_, GuardAt.agg _ (by kernel_rfl)⟩
  have := eq_bd x y w
  simp only [encBd]
  simp [go_sem, this]
 have hcell : ∀ (gg : Nat) (k : List Pl.Bd), RowB W gg k → ∀ j, j < k.length → ∀ i v, (encBd k[j]!)[i]? = some v → W.cell? ⟨gg, 0 + j * 4 + i, none⟩ = some v := by
  intro gg k hk j hj i v hv
  have hi : i < 4 := by have := (List.getElem?_eq_some_iff.1 hv).1; simpa [encBd] using this
  have := (hk.hold.cell (i := j) (c := i) (by simpa using hj) hi).1
  rw [this]
  have e1 : k.toArray[j]! = k[j]! := by
   rw [getElem!_pos k.toArray j (by simpa using hj), getElem!_pos k j hj]
   simp
  rw [e1]
  have e2 := List.getElem?_eq_some_iff.1 hv
  rw [getElem!_pos (encBd k[j]!) i e2.1, e2.2]
 have := AnyQ.slices_Equal Tryz.equalBd 4 Tryz.isAgg99 Tryz.sizeOf99 encBd (fun _ => rfl) (fun x y : Pl.Bd => decide (x = y)) hne g 0 l.length c g' 0 m.length c' l m W (Nat.le_refl _) (Nat.le_refl _) (by omega) (by omega) (hcell g l hl) (hcell g' m hm)
 rw [List.take_length, List.take_length] at this
 have e : Lib.allEq (fun x y : Pl.Bd => decide (x = y)) l m = decide (l = m) := by
  clear this hl hm hne h1 h2 hcell
  induction l generalizing m with
  | nil => cases m <;> rfl
  | cons x l ih => cases m with
   | nil => rfl
   | cons y m =>
    unfold Lib.allEq
    rw [ih m, Bool.eq_iff_iff]
    simp
 rw [e] at this
 exact this
end Go.Proofs.YtgbpekeoegfjpaaGreatDoor
namespace Go.Proofs.YtgbpekeoegfjpaaGreatDoor
open Go.RowKit
attribute [-go_sem] run_equalIn_agg
attribute [-go_sem] storeVar loadVar
attribute [local go_sem] lv_int lv_bool lv_u8 lv_string lv_strings lv_stas lv_pars lv_vars
noncomputable def Pl.sameE (f : Pl.Fld) (a b : Pl.Cal) : Int := if Pl.checkCallE f a = 0 then Pl.checkCallE f b else Pl.checkCallE f a
noncomputable def Pl.sameV (f : Pl.Fld) (a b : Pl.Cal) : Bool := if Pl.sameE f a b = 0 then Pl.sameL (Pl.boundsC f a 0) (Pl.boundsC f b 0) else false
theorem box3_w (A1 A2 A3 A4 : Option Addr) (c1 c2 c3 c4 : Nat) (f : Pl.Fld) (a b : Pl.Cal) (w : World) : ∃ W0, ((w.alloc (.cells #[.slice A1 f.st.length c1, .slice A2 f.li.length c2, .slice A3 f.pa.length c3, .slice A4 f.va.length c4] 28)).alloc (.cells #[.int .u8 (a.kind : Int), .int .i64 a.lim, .int .i64 a.oth, .int .i64 a.fr, .int .i64 a.till, .int .i64 a.size, .int .i64 a.er, .int .i64 a.crs.b, .int .i64 a.crs.n, .int .i64 a.crs.l, .int .i64 a.crs.y, .int .i64 a.crs.x, .int .i64 a.crs.s] 48)).alloc (.cells #[.int .u8 (b.kind : Int), .int .i64 b.lim, .int .i64 b.oth, .int .i64 b.fr, .int .i64 b.till, .int .i64 b.size, .int .i64 b.er, .int .i64 b.crs.b, .int .i64 b.crs.n, .int .i64 b.crs.l, .int .i64 b.crs.y, .int .i64 b.crs.x, .int .i64 b.crs.s] 48) = W0 ∧
  W0.heap[w.heap.size]? = some (.cells #[.slice A1 f.st.length c1, .slice A2 f.li.length c2, .slice A3 f.pa.length c3, .slice A4 f.va.length c4] 28 (0, 0)) ∧ W0.heap[w.heap.size + 1]? = some (.cells #[.int .u8 (a.kind : Int), .int .i64 a.lim, .int .i64 a.oth, .int .i64 a.fr, .int .i64 a.till, .int .i64 a.size, .int .i64 a.er, .int .i64 a.crs.b, .int .i64 a.crs.n, .int .i64 a.crs.l, .int .i64 a.crs.y, .int .i64 a.crs.x, .int .i64 a.crs.s] 48 (0, 0)) ∧ W0.heap[w.heap.size + 2]? = some (.cells #[.int .u8 (b.kind : Int), .int .i64 b.lim, .int .i64 b.oth, .int .i64 b.fr, .int .i64 b.till, .int .i64 b.size, .int .i64 b.er, .int .i64 b.crs.b, .int .i64 b.crs.n, .int .i64 b.crs.l, .int .i64 b.crs.y, .int .i64 b.crs.x, .int .i64 b.crs.s] 48 (0, 0)) ∧ Below w.heap.size w W0 := by
 refine ⟨_, rfl, ?_, ?_, ?_, (((Below.refl _ w).alloc (Nat.le_refl _) _).alloc (by simp) _).alloc (by simp only [World.size_alloc]; omega) _⟩
 ·have kf := (heap_alloc_new w (.cells #[.slice A1 f.st.length c1, .slice A2 f.li.length c2, .slice A3 f.pa.length c3, .slice A4 f.va.length c4] 28))
  have kf := (Below.heap_alloc _ (.cells #[.int .u8 (a.kind : Int), .int .i64 a.lim, .int .i64 a.oth, .int .i64 a.fr, .int .i64 a.till, .int .i64 a.size, .int .i64 a.er, .int .i64 a.crs.b, .int .i64 a.crs.n, .int .i64 a.crs.l, .int .i64 a.crs.y, .int .i64 a.crs.x, .int .i64 a.crs.s] 48) _ (lO kf)).trans kf
  exact (Below.heap_alloc _ (.cells #[.int .u8 (b.kind : Int), .int .i64 b.lim, .int .i64 b.oth, .int .i64 b.fr, .int .i64 b.till, .int .i64 b.size, .int .i64 b.er, .int .i64 b.crs.b, .int .i64 b.crs.n, .int .i64 b.crs.l, .int .i64 b.crs.y, .int .i64 b.crs.x, .int .i64 b.crs.s] 48) _ (lO kf)).trans kf
 ·have kc := (heap_alloc_new (w.alloc (.cells #[.slice A1 f.st.length c1, .slice A2 f.li.length c2, .slice A3 f.pa.length c3, .slice A4 f.va.length c4] 28)) (.cells #[.int .u8 (a.kind : Int), .int .i64 a.lim, .int .i64 a.oth, .int .i64 a.fr, .int .i64 a.till, .int .i64 a.size, .int .i64 a.er, .int .i64 a.crs.b, .int .i64 a.crs.n, .int .i64 a.crs.l, .int .i64 a.crs.y, .int .i64 a.crs.x, .int .i64 a.crs.s] 48))
  rw [World.size_alloc] at kc
  exact (Below.heap_alloc _ (.cells #[.int .u8 (b.kind : Int), .int .i64 b.lim, .int .i64 b.oth, .int .i64 b.fr, .int .i64 b.till, .int .i64 b.size, .int .i64 b.er, .int .i64 b.crs.b, .int .i64 b.crs.n, .int .i64 b.crs.l, .int .i64 b.crs.y, .int .i64 b.crs.x, .int .i64 b.crs.s] 48) _ (lO kc)).trans kc
 ·have kr := (heap_alloc_new ((w.alloc (.cells #[.slice A1 f.st.length c1, .slice A2 f.li.length c2, .slice A3 f.pa.length c3, .slice A4 f.va.length c4] 28)).alloc (.cells #[.int .u8 (a.kind : Int), .int .i64 a.lim, .int .i64 a.oth, .int .i64 a.fr, .int .i64 a.till, .int .i64 a.size, .int .i64 a.er, .int .i64 a.crs.b, .int .i64 a.crs.n, .int .i64 a.crs.l, .int .i64 a.crs.y, .int .i64 a.crs.x, .int .i64 a.crs.s] 48)) (.cells #[.int .u8 (b.kind : Int), .int .i64 b.lim, .int .i64 b.oth, .int .i64 b.fr, .int .i64 b.till, .int .i64 b.size, .int .i64 b.er, .int .i64 b.crs.b, .int .i64 b.crs.n, .int .i64 b.crs.l, .int .i64 b.crs.y, .int .i64 b.crs.x, .int .i64 b.crs.s] 48))
  simp only [World.size_alloc] at kr
  exact kr
theorem boundsC_few {f : Pl.Fld} {c : Pl.Cal} (h : Pl.checkCallE f c = 0) : (Pl.boundsC f c 0).length ≤ 1000 := by
 obtain ⟨hok, ht⟩ := tab_of h
 have hS := hok.st12
 rw [Pl.boundsC_len]
 have : (Pl.spans f c).length ≤ 100 := by
  obtain ⟨_, ⟨f0, f1⟩, h⟩ := ht
  unfold Pl.spans
  split <;> rename_i hk2 <;> simp only [List.length_map, List.length_range, List.length_cons, List.length_nil] <;> rcases h with h | h | h | h | h <;> omega
 omega
end Go.Proofs.YtgbpekeoegfjpaaGreatDoor
namespace Go.Proofs.YtgbpekeoegfjpaaGreatDoor
open Go.RowKit Go.Shelf
attribute [-go_sem] run_equalIn_agg storeVar loadVar
attribute [local go_sem] lv_int lv_bool lv_u8 lv_string lv_strings lv_stas lv_pars lv_vars
theorem se3_of (A1 A2 A3 A4 : Option Addr) (c1 c2 c3 c4 : Nat) (f : Pl.Fld) {a b : Pl.Cal} {g : Nat} {W : World} (kf : W.heap[g]? = some (.cells #[.slice A1 f.st.length c1, .slice A2 f.li.length c2, .slice A3 f.pa.length c3, .slice A4 f.va.length c4] 28 (0, 0))) (ka : W.heap[g + 1]? = some (.cells #[.int .u8 (a.kind : Int), .int .i64 a.lim, .int .i64 a.oth, .int .i64 a.fr, .int .i64 a.till, .int .i64 a.size, .int .i64 a.er, .int .i64 a.crs.b, .int .i64 a.crs.n, .int .i64 a.crs.l, .int .i64 a.crs.y, .int .i64 a.crs.x, .int .i64 a.crs.s] 48 (0, 0))) (kb : W.heap[g + 2]? = some (.cells #[.int .u8 (b.kind : Int), .int .i64 b.lim, .int .i64 b.oth, .int .i64 b.fr, .int .i64 b.till, .int .i64 b.size, .int .i64 b.er, .int .i64 b.crs.b, .int .i64 b.crs.n, .int .i64 b.crs.l, .int .i64 b.crs.y, .int .i64 b.crs.x, .int .i64 b.crs.s] 48 (0, 0))) :
  (loadVar 28 ⟨g, 0, none⟩).run Tryz.prog W = .ok (.agg #[.slice A1 f.st.length c1, .slice A2 f.li.length c2, .slice A3 f.pa.length c3, .slice A4 f.va.length c4]) W ∧ (loadVar 48 ⟨g + 1, 0, none⟩).run Tryz.prog W = .ok (.agg #[.int .u8 (a.kind : Int), .int .i64 a.lim, .int .i64 a.oth, .int .i64 a.fr, .int .i64 a.till, .int .i64 a.size, .int .i64 a.er, .int .i64 a.crs.b, .int .i64 a.crs.n, .int .i64 a.crs.l, .int .i64 a.crs.y, .int .i64 a.crs.x, .int .i64 a.crs.s]) W ∧ (loadVar 48 ⟨g + 2, 0, none⟩).run Tryz.prog W = .ok (.agg #[.int .u8 (b.kind : Int), .int .i64 b.lim, .int .i64 b.oth, .int .i64 b.fr, .int .i64 b.till, .int .i64 b.size, .int .i64 b.er, .int .i64 b.crs.b, .int .i64 b.crs.n, .int .i64 b.crs.l, .int .i64 b.crs.y, .int .i64 b.crs.x, .int .i64 b.crs.s]) W :=
 ⟨ld_row kf Tryz.underlying28 rfl info_fld, ld_row ka Tryz.underlying48 rfl info_cal, ld_row kb Tryz.underlying48 rfl info_cal⟩
def Pl.sameK (Ea Eb : Int) (k : Nat) : Prop := (1 ≤ k → Ea = 0) ∧ (2 ≤ k → Eb = 0)
theorem bo_of (A1 A2 A3 A4 : Option Addr) (c1 c2 c3 c4 : Nat) (f : Pl.Fld) (c : Pl.Cal) (W : World) (h : Pl.checkCallE f c = 0) (hf : FldS W W.heap.size A1 A2 A3 A4 f) (hm : Small f) :
  Calls Tryz.prog 90 #[.agg #[.slice A1 f.st.length c1, .slice A2 f.li.length c2, .slice A3 f.pa.length c3, .slice A4 f.va.length c4, .int .u8 (c.kind : Int), .int .i64 c.lim, .int .i64 c.oth, .int .i64 c.fr, .int .i64 c.till, .int .i64 c.size, .int .i64 c.er, .int .i64 c.crs.b, .int .i64 c.crs.n, .int .i64 c.crs.l, .int .i64 c.crs.y, .int .i64 c.crs.x, .int .i64 c.crs.s], .int .i64 0] W fun e w' => ∃ g cp, e = .returned (.slice (some ⟨g, 0, none⟩) (Pl.boundsC f c 0).length cp) ∧ W.heap.size ≤ g ∧ RowB w' g (Pl.boundsC f c 0) ∧ Below W.heap.size W w' := by
 obtain ⟨hok, ht⟩ := tab_of h
 have hs := spans_few (f := f) ht hok.st12
 exact bounds_own A1 A2 A3 A4 c1 c2 c3 c4 f c 0 W ht (by have := hok.li10; omega) (by have := hok.st12; omega) hf hm.va hok.x (spans_lo ht) (by omega) (by omega)
theorem same_list {f : Pl.Fld} {a b : Pl.Cal} {l m : List Pl.Bd} (ha : Pl.checkCallE f a = 0) (hb : Pl.checkCallE f b = 0) (hp : l.Perm (Pl.boundsC f a 0)) (ho : l.Pairwise Pl.le4) (hq : m.Perm (Pl.boundsC f b 0)) (ho' : m.Pairwise Pl.le4) : decide (l = m) = Pl.sameL (Pl.boundsC f a 0) (Pl.boundsC f b 0) := by
 have h := Pl.sorted_sameL hp ho hq ho'
 rwa [Pl.compact_nodup (hp.nodup_iff.2 (Pl.boundsC_nodup (tab_of ha).2 0)), Pl.compact_nodup (hq.nodup_iff.2 (Pl.boundsC_nodup (tab_of hb).2 0))] at h
set_option maxRecDepth 100000 in
set_option maxHeartbeats 8000000 in
theorem Same_h (A1 A2 A3 A4 : Option Addr) (c1 c2 c3 c4 : Nat) (f : Pl.Fld) (a b : Pl.Cal) (V : Bool) (E : Int) (w : World) (hV : Hid (Pl.sameV f a b = V)) (hE : Hid (Pl.sameE f a b = E)) (hf : FldS w w.heap.size A1 A2 A3 A4 f) (hm : Small f) (hc : Caps c1 c2 c3 c4 f) (hka : a.kind ≤ 255) (hkb : b.kind ≤ 255) :
  Calls Tryz.prog 70 #[.agg #[.slice A1 f.st.length c1, .slice A2 f.li.length c2, .slice A3 f.pa.length c3, .slice A4 f.va.length c4], .agg #[.int .u8 (a.kind : Int), .int .i64 a.lim, .int .i64 a.oth, .int .i64 a.fr, .int .i64 a.till, .int .i64 a.size, .int .i64 a.er, .int .i64 a.crs.b, .int .i64 a.crs.n, .int .i64 a.crs.l, .int .i64 a.crs.y, .int .i64 a.crs.x, .int .i64 a.crs.s], .agg #[.int .u8 (b.kind : Int), .int .i64 b.lim, .int .i64 b.oth, .int .i64 b.fr, .int .i64 b.till, .int .i64 b.size, .int .i64 b.er, .int .i64 b.crs.b, .int .i64 b.crs.n, .int .i64 b.crs.l, .int .i64 b.crs.y, .int .i64 b.crs.x, .int .i64 b.crs.s]] w fun e w' => e = .returned (.tuple #[.bool V, .int .i64 E]) ∧ Below w.heap.size w w' := by
 obtain ⟨Ea, hEa⟩ : ∃ E, Pl.checkCallE f a = E := ⟨_, rfl⟩
 obtain ⟨Eb, hEb⟩ : ∃ E, Pl.checkCallE f b = E := ⟨_, rfl⟩
 have HA := Lib.hid hEa
 have HB := Lib.hid hEb
 have HE1 : Hid (Ea ≠ 0 → E = Ea ∧ V = false) := Lib.hid fun h => by
  have e : E = Ea := by rw [← hE.out]; unfold Pl.sameE; rw [if_neg (by rw [hEa]; exact h), hEa]
  exact ⟨e, by rw [← hV.out]; unfold Pl.sameV; rw [if_neg]; rw [hE.out, e]; exact h⟩
 have HE2 : Hid (Ea = 0 → Eb ≠ 0 → E = Eb ∧ V = false) := Lib.hid fun h h' => by
  have e : E = Eb := by rw [← hE.out]; unfold Pl.sameE; rw [if_pos (by rw [hEa]; exact h), hEb]
  exact ⟨e, by rw [← hV.out]; unfold Pl.sameV; rw [if_neg]; rw [hE.out, e]; exact h'⟩
 have HE3 : Hid (Ea = 0 → Eb = 0 → E = 0 ∧ V = Pl.sameL (Pl.boundsC f a 0) (Pl.boundsC f b 0)) := Lib.hid fun h h' => by
  have e : E = 0 := by rw [← hE.out]; unfold Pl.sameE; rw [if_pos (by rw [hEa]; exact h), hEb, h']
  exact ⟨e, by rw [← hV.out]; unfold Pl.sameV; rw [if_pos]; rw [hE.out, e]⟩
 clear hEa hEb hV hE
 obtain ⟨W0, hW0, kf, ka, kb, hall⟩ := box3_w A1 A2 A3 A4 c1 c2 c3 c4 f a b w
 have l01 := ld_row kf Tryz.underlying28 rfl info_fld
 have l02 := ld_row ka Tryz.underlying48 rfl info_cal
 have l03 := ld_row kb Tryz.underlying48 rfl info_cal
 obtain ⟨G, hG⟩ : ∃ G, W0.heap.size = G := ⟨_, rfl⟩
 have hGw : w.heap.size + 2 < G := by rw [← hG]; exact (lO kb)
 obtain ⟨W1, hW1⟩ : ∃ W1, W0.alloc (.cells #[.int .u8 (a.kind : Int), .int .i64 a.lim, .int .i64 a.oth, .int .i64 a.fr, .int .i64 a.till, .int .i64 a.size, .int .i64 a.er, .int .i64 a.crs.b, .int .i64 a.crs.n, .int .i64 a.crs.l, .int .i64 a.crs.y, .int .i64 a.crs.x, .int .i64 a.crs.s, .int .u8 (b.kind : Int), .int .i64 b.lim, .int .i64 b.oth, .int .i64 b.fr, .int .i64 b.till, .int .i64 b.size, .int .i64 b.er, .int .i64 b.crs.b, .int .i64 b.crs.n, .int .i64 b.crs.l, .int .i64 b.crs.y, .int .i64 b.crs.x, .int .i64 b.crs.s] 48) = W1 := ⟨_, rfl⟩
 have kg : W1.heap[G]? = some (.cells #[.int .u8 (a.kind : Int), .int .i64 a.lim, .int .i64 a.oth, .int .i64 a.fr, .int .i64 a.till, .int .i64 a.size, .int .i64 a.er, .int .i64 a.crs.b, .int .i64 a.crs.n, .int .i64 a.crs.l, .int .i64 a.crs.y, .int .i64 a.crs.x, .int .i64 a.crs.s, .int .u8 (b.kind : Int), .int .i64 b.lim, .int .i64 b.oth, .int .i64 b.fr, .int .i64 b.till, .int .i64 b.size, .int .i64 b.er, .int .i64 b.crs.b, .int .i64 b.crs.n, .int .i64 b.crs.l, .int .i64 b.crs.y, .int .i64 b.crs.x, .int .i64 b.crs.s] 48 (0, 0)) := by rw [← hW1, ← hG]; exact heap_alloc_new W0 _
 have hx01 : Below W0.heap.size W0 W1 := by rw [← hW1]; exact (Below.refl _ W0).alloc (Nat.le_refl _) _
 have kf1 := (hx01.block _ (lO kf)).trans kf
 have ka1 := (hx01.block _ (lO ka)).trans ka
 have kb1 := (hx01.block _ (lO kb)).trans kb
 have hall1 := hall.trans (hx01.mono hall.size)
 go_enter Tryz.func70, Tryz.ntmps70
 go_wp2_with fail
 try rw [hG]
 try rw [hW1]
 clear hx01 hW1 hW0 l01 l02 l03 kf ka kb hall hG
 go_loopw [15] (fun i wr => ∃ (k : Nat), k ≤ 2 ∧ i = .int .i64 k ∧ Hid (Pl.sameK Ea Eb k) ∧ wr.heap[w.heap.size]? = some (.cells #[.slice A1 f.st.length c1, .slice A2 f.li.length c2, .slice A3 f.pa.length c3, .slice A4 f.va.length c4] 28 (0, 0)) ∧ wr.heap[w.heap.size + 1]? = some (.cells #[.int .u8 (a.kind : Int), .int .i64 a.lim, .int .i64 a.oth, .int .i64 a.fr, .int .i64 a.till, .int .i64 a.size, .int .i64 a.er, .int .i64 a.crs.b, .int .i64 a.crs.n, .int .i64 a.crs.l, .int .i64 a.crs.y, .int .i64 a.crs.x, .int .i64 a.crs.s] 48 (0, 0)) ∧ wr.heap[w.heap.size + 2]? = some (.cells #[.int .u8 (b.kind : Int), .int .i64 b.lim, .int .i64 b.oth, .int .i64 b.fr, .int .i64 b.till, .int .i64 b.size, .int .i64 b.er, .int .i64 b.crs.b, .int .i64 b.crs.n, .int .i64 b.crs.l, .int .i64 b.crs.y, .int .i64 b.crs.x, .int .i64 b.crs.s] 48 (0, 0)) ∧ wr.heap[G]? = some (.cells #[.int .u8 (a.kind : Int), .int .i64 a.lim, .int .i64 a.oth, .int .i64 a.fr, .int .i64 a.till, .int .i64 a.size, .int .i64 a.er, .int .i64 a.crs.b, .int .i64 a.crs.n, .int .i64 a.crs.l, .int .i64 a.crs.y, .int .i64 a.crs.x, .int .i64 a.crs.s, .int .u8 (b.kind : Int), .int .i64 b.lim, .int .i64 b.oth, .int .i64 b.fr, .int .i64 b.till, .int .i64 b.size, .int .i64 b.er, .int .i64 b.crs.b, .int .i64 b.crs.n, .int .i64 b.crs.l, .int .i64 b.crs.y, .int .i64 b.crs.x, .int .i64 b.crs.s] 48 (0, 0)) ∧ Below w.heap.size w wr) (fun i _ => 2 - (intOf i).toNat)
 case atStart => exact ⟨0, by omega, rfl, Lib.hid ⟨fun h => by omega, fun h => by omega⟩, kf1, ka1, kb1, kg, hall1⟩
 case round =>
  clear kf1 ka1 kb1 kg hall1
  obtain ⟨k, hk, rfl, hK, kf, ka, kb, kg, hall⟩ := hrel
  obtain rfl | rfl | rfl : k = 0 ∨ k = 1 ∨ k = 2 := by omega
  ·have lm : (loadVar 48 ⟨G, 0, none⟩).run Tryz.prog wr = .ok (.agg #[.int .u8 (a.kind : Int), .int .i64 a.lim, .int .i64 a.oth, .int .i64 a.fr, .int .i64 a.till, .int .i64 a.size, .int .i64 a.er, .int .i64 a.crs.b, .int .i64 a.crs.n, .int .i64 a.crs.l, .int .i64 a.crs.y, .int .i64 a.crs.x, .int .i64 a.crs.s]) wr := run_loadVar_mid wr G 0 _ _ _ (mid_of (n := 13) kg rfl) Tryz.underlying48 rfl (by kernel_rfl)
   obtain ⟨W2, st2, kd, hx⟩ := sp_2 #[.int .u8 (a.kind : Int), .int .i64 a.lim, .int .i64 a.oth, .int .i64 a.fr, .int .i64 a.till, .int .i64 a.size, .int .i64 a.er, .int .i64 a.crs.b, .int .i64 a.crs.n, .int .i64 a.crs.l, .int .i64 a.crs.y, .int .i64 a.crs.x, .int .i64 a.crs.s] rfl (by simp [Value.oneCell']) wr
   replace kg := (hx.block _ (lO kg)).trans kg
   replace kf := (hx.block _ (lO kf)).trans kf; replace ka := (hx.block _ (lO ka)).trans ka; replace kb := (hx.block _ (lO kb)).trans kb; replace hall : Below w.heap.size w _ := hall.trans (hx.mono hall.size); (try clear l01 l02 l03); have l01 := ld_row kf Tryz.underlying28 rfl info_fld; have l02 := ld_row ka Tryz.underlying48 rfl info_cal; have l03 := ld_row kb Tryz.underlying48 rfl info_cal; clear hx
   have l04 := ld_row kd Tryz.underlying48 rfl info_cal
   go_wp2_with fail
   clear lm st2
   refine (checkCall_h A1 A2 A3 A4 c1 c2 c3 c4 f a Ea _ HA (hf.up hall) hm hc hka).mono ?_
   rintro e w2 ⟨rfl, hx⟩
   replace kg := (hx.block _ (lO kg)).trans kg
   clear l04
   replace kf := (hx.block _ (lO kf)).trans kf; replace ka := (hx.block _ (lO ka)).trans ka; replace kb := (hx.block _ (lO kb)).trans kb; replace hall : Below w.heap.size w _ := hall.trans (hx.mono hall.size); (try clear l01 l02 l03); have l01 := ld_row kf Tryz.underlying28 rfl info_fld; have l02 := ld_row ka Tryz.underlying48 rfl info_cal; have l03 := ld_row kb Tryz.underlying48 rfl info_cal; clear hx
   by_cases h0 : Ea = 0
   ·have HN : Hid (Pl.sameK Ea Eb 1) := Lib.hid ⟨fun _ => h0, fun h => by omega⟩
    have q0 : (Ea != 0) = false := by simpa using h0
    go_wp2_with fail
    go_roundw
    case rel => exact ⟨1, by omega, by go_num, HN, kf, ka, kb, kg, hall⟩
    case measure => simp [intOf]; try omega
   ·have q0 : (Ea != 0) = true := by simpa using h0
    obtain ⟨z1, z2⟩ := HE1.out h0
    have HZ : Hid (E = Ea ∧ V = false) := Lib.hid ⟨z1, z2⟩
    clear z1 z2 h0
    go_wp2_with fail
    go_ret2
    exact ⟨by rw [HZ.out.1, HZ.out.2]; rfl, hall⟩
  ·have lm : (loadVar 48 ⟨G, 13, none⟩).run Tryz.prog wr = .ok (.agg #[.int .u8 (b.kind : Int), .int .i64 b.lim, .int .i64 b.oth, .int .i64 b.fr, .int .i64 b.till, .int .i64 b.size, .int .i64 b.er, .int .i64 b.crs.b, .int .i64 b.crs.n, .int .i64 b.crs.l, .int .i64 b.crs.y, .int .i64 b.crs.x, .int .i64 b.crs.s]) wr := run_loadVar_mid wr G 13 _ _ _ (mid_of (n := 13) kg rfl) Tryz.underlying48 rfl (by kernel_rfl)
   obtain ⟨W2, st2, kd, hx⟩ := sp_2 #[.int .u8 (b.kind : Int), .int .i64 b.lim, .int .i64 b.oth, .int .i64 b.fr, .int .i64 b.till, .int .i64 b.size, .int .i64 b.er, .int .i64 b.crs.b, .int .i64 b.crs.n, .int .i64 b.crs.l, .int .i64 b.crs.y, .int .i64 b.crs.x, .int .i64 b.crs.s] rfl (by simp [Value.oneCell']) wr
   replace kg := (hx.block _ (lO kg)).trans kg
   replace kf := (hx.block _ (lO kf)).trans kf; replace ka := (hx.block _ (lO ka)).trans ka; replace kb := (hx.block _ (lO kb)).trans kb; replace hall : Below w.heap.size w _ := hall.trans (hx.mono hall.size); (try clear l01 l02 l03); have l01 := ld_row kf Tryz.underlying28 rfl info_fld; have l02 := ld_row ka Tryz.underlying48 rfl info_cal; have l03 := ld_row kb Tryz.underlying48 rfl info_cal; clear hx
   have l04 := ld_row kd Tryz.underlying48 rfl info_cal
   go_wp2_with fail
   clear lm st2
   refine (checkCall_h A1 A2 A3 A4 c1 c2 c3 c4 f b Eb _ HB (hf.up hall) hm hc hkb).mono ?_
   rintro e w2 ⟨rfl, hx⟩
   replace kg := (hx.block _ (lO kg)).trans kg
   clear l04
   replace kf := (hx.block _ (lO kf)).trans kf; replace ka := (hx.block _ (lO ka)).trans ka; replace kb := (hx.block _ (lO kb)).trans kb; replace hall : Below w.heap.size w _ := hall.trans (hx.mono hall.size); (try clear l01 l02 l03); have l01 := ld_row kf Tryz.underlying28 rfl info_fld; have l02 := ld_row ka Tryz.underlying48 rfl info_cal; have l03 := ld_row kb Tryz.underlying48 rfl info_cal; clear hx
   by_cases h0 : Eb = 0
   ·have HN : Hid (Pl.sameK Ea Eb 2) := Lib.hid ⟨fun _ => hK.out.1 (by omega), fun _ => h0⟩
    have q0 : (Eb != 0) = false := by simpa using h0
    go_wp2_with fail
    go_roundw
    case rel => exact ⟨2, by omega, by go_num, HN, kf, ka, kb, kg, hall⟩
    case measure => simp [intOf]; try omega
   ·have q0 : (Eb != 0) = true := by simpa using h0
    obtain ⟨z1, z2⟩ := HE2.out (hK.out.1 (by omega)) h0
    have HZ : Hid (E = Eb ∧ V = false) := Lib.hid ⟨z1, z2⟩
    clear z1 z2 h0
    go_wp2_with fail
    go_ret2
    exact ⟨by rw [HZ.out.1, HZ.out.2]; rfl, hall⟩
  ·obtain ⟨z1, z2⟩ := HE3.out (hK.out.1 (by omega)) (hK.out.2 (by omega))
   have ya : Pl.checkCallE f a = 0 := HA.out.trans (hK.out.1 (by omega))
   have yb : Pl.checkCallE f b = 0 := HB.out.trans (hK.out.2 (by omega))
   have HZ : Hid (E = 0 ∧ V = Pl.sameL (Pl.boundsC f a 0) (Pl.boundsC f b 0)) := Lib.hid ⟨z1, z2⟩
   have HS := Lib.hid (fun l m => same_list (l := l) (m := m) ya yb)
   have hba := fun W (hW : Below w.heap.size w W) => bo_of A1 A2 A3 A4 c1 c2 c3 c4 f a W ya (hf.up hW) hm
   have hbb := fun W (hW : Below w.heap.size w W) => bo_of A1 A2 A3 A4 c1 c2 c3 c4 f b W yb (hf.up hW) hm
   have hsa := fun W g cp (h : RowB W g (Pl.boundsC f a 0)) => sorted_a W g cp (Pl.boundsC f a 0) 0 h Pl.boundsC_rec (boundsC_few ya) (Pl.boundsC_nodup (tab_of ya).2 0)
   have hsb := fun W g cp (h : RowB W g (Pl.boundsC f b 0)) => sorted_a W g cp (Pl.boundsC f b 0) 0 h Pl.boundsC_rec (boundsC_few yb) (Pl.boundsC_nodup (tab_of yb).2 0)
   have na := boundsC_few ya
   have nb := boundsC_few yb
   obtain ⟨La, hLa⟩ : ∃ L, Pl.boundsC f a 0 = L := ⟨_, rfl⟩
   obtain ⟨Lb, hLb⟩ : ∃ L, Pl.boundsC f b 0 = L := ⟨_, rfl⟩
   rw [hLa] at hba hsa na HS HZ
   rw [hLb] at hbb hsb nb HS HZ
   clear hLa hLb ya yb z1 z2 hK HE1 HE2 HE3 kg
   go_wp2_with fail
   replace kf := (show wr.drew.heap[_]? = _ from kf)
   replace ka := (show wr.drew.heap[_]? = _ from ka)
   replace kb := (show wr.drew.heap[_]? = _ from kb)
   replace hall := hall.drew
   go_region_held3 (fun W => (loadVar 28 ⟨w.heap.size, 0, none⟩).run Tryz.prog W = .ok (.agg #[.slice A1 f.st.length c1, .slice A2 f.li.length c2, .slice A3 f.pa.length c3, .slice A4 f.va.length c4]) W ∧ (loadVar 48 ⟨w.heap.size + 1, 0, none⟩).run Tryz.prog W = .ok (.agg #[.int .u8 (a.kind : Int), .int .i64 a.lim, .int .i64 a.oth, .int .i64 a.fr, .int .i64 a.till, .int .i64 a.size, .int .i64 a.er, .int .i64 a.crs.b, .int .i64 a.crs.n, .int .i64 a.crs.l, .int .i64 a.crs.y, .int .i64 a.crs.x, .int .i64 a.crs.s]) W ∧ (loadVar 48 ⟨w.heap.size + 2, 0, none⟩).run Tryz.prog W = .ok (.agg #[.int .u8 (b.kind : Int), .int .i64 b.lim, .int .i64 b.oth, .int .i64 b.fr, .int .i64 b.till, .int .i64 b.size, .int .i64 b.er, .int .i64 b.crs.b, .int .i64 b.crs.n, .int .i64 b.crs.l, .int .i64 b.crs.y, .int .i64 b.crs.x, .int .i64 b.crs.s]) W) (exact se3_of A1 A2 A3 A4 c1 c2 c3 c4 f kf ka kb) (first
    | (go_at_call 90; refine (hba _ hall).mono ?_; rintro e w3 ⟨ga, ca, rfl, hga, hRa, hx⟩; have hga1 : w.heap.size + 2 < ga := Nat.lt_of_lt_of_le (lO kb) hga; replace kf := (hx.block _ (lO kf)).trans kf; replace ka := (hx.block _ (lO ka)).trans ka; replace kb := (hx.block _ (lO kb)).trans kb; replace hall : Below w.heap.size w w3 := hall.trans (hx.mono hall.size); clear hx; clear hba)
    | (go_at_call 142; refine (hsa _ ga ca hRa).mono ?_; rintro e w4 ⟨rfl, la, pa, oa, hRa, hg⟩; replace kf := (hg.block _ (lO kf) (by simp; omega)).trans kf; replace ka := (hg.block _ (lO ka) (by simp; omega)).trans ka; replace kb := (hg.block _ (lO kb) (by simp; omega)).trans kb; have hga2 := hRa.lt; replace hall : Below w.heap.size w w4 := hall.grown hg hall.size (fun j e => by cases e; omega); clear hg; clear hsa)
    | (go_at_call 90; refine (hbb _ hall).mono ?_; rintro e w5 ⟨gb, cb, rfl, hgb, hRb, hx⟩; replace kf := (hx.block _ (lO kf)).trans kf; replace ka := (hx.block _ (lO ka)).trans ka; replace kb := (hx.block _ (lO kb)).trans kb; replace hRa := hRa.kept (grownBy_of_belowF hx) (Option.some_ne_none _); have hne : ga < gb := (by omega); replace hall : Below w.heap.size w w5 := hall.trans (hx.mono hall.size); clear hx)
    | (go_at_call 142; refine (hsb _ gb cb hRb).mono ?_; rintro e w6 ⟨rfl, lb, pb, ob, hRb, hg⟩; replace kf := (hg.block _ (lO kf) (by simp; omega)).trans kf; replace ka := (hg.block _ (lO ka) (by simp; omega)).trans ka; replace kb := (hg.block _ (lO kb) (by simp; omega)).trans kb; replace hRa := hRa.kept hg (by simp; omega); replace hall : Below w.heap.size w w6 := hall.grown hg hall.size (fun j e => by cases e; omega); clear hg)
    | (go_at_call 141; have hq := equalB_a _ ga gb ca cb la lb hRa hRb (by rw [pa.length_eq]; omega) (by rw [pb.length_eq]; omega); rw [pa.length_eq, pb.length_eq] at hq; refine hq.mono ?_; rintro e w7 ⟨rfl, q, rfl⟩; replace hall : Below w.heap.size w _ := below_drewN hall q))
   all_goals go_wp2_with fail
   all_goals go_ret2
   all_goals exact ⟨by rw [HZ.out.1, HZ.out.2, ← HS.out la lb pa oa pb ob]; rfl, hall⟩
end Go.Proofs.YtgbpekeoegfjpaaGreatDoor
namespace Go.Proofs.YtgbpekeoegfjpaaGreatDoor
open Go.RowKit
attribute [-go_sem] run_equalIn_agg storeVar loadVar
attribute [local go_sem] lv_int lv_bool lv_u8 lv_string lv_vars
noncomputable def Pl.allowsE (f : Pl.Fld) (c : Pl.Cal) (y : List Int) : Int := if Pl.checkCallE f c = 0 then (if Pl.drawnB f.st.length f.li.length y = true then 0 else 1) else Pl.checkCallE f c
noncomputable def Pl.allowsV (f : Pl.Fld) (c : Pl.Cal) (y : List Int) : Bool := if Pl.allowsE f c y = 0 then Pl.keepsB (Pl.boundsC f c 0) y else false
set_option maxRecDepth 100000 in
set_option maxHeartbeats 2000000 in
theorem Allows_a (A1 A2 A3 A4 : Option Addr) (c1 c2 c3 c4 : Nat) (f : Pl.Fld) (c : Pl.Cal) (A : Option Addr) (cy : Nat) (y : List Int) (w : World) (hf : FldS w w.heap.size A1 A2 A3 A4 f) (hm : Small f) (hc : Caps c1 c2 c3 c4 f) (hk : c.kind ≤ 255) (hy : Ints w w.heap.size A y) (hym : y.length ≤ 100000) :
  Calls Tryz.prog 37 #[.agg #[.slice A1 f.st.length c1, .slice A2 f.li.length c2, .slice A3 f.pa.length c3, .slice A4 f.va.length c4], .agg #[.int .u8 (c.kind : Int), .int .i64 c.lim, .int .i64 c.oth, .int .i64 c.fr, .int .i64 c.till, .int .i64 c.size, .int .i64 c.er, .int .i64 c.crs.b, .int .i64 c.crs.n, .int .i64 c.crs.l, .int .i64 c.crs.y, .int .i64 c.crs.x, .int .i64 c.crs.s], .slice A y.length cy] w fun e w' => e = .returned (.tuple #[.bool (Pl.allowsV f c y), .int .i64 (Pl.allowsE f c y)]) ∧ Below w.heap.size w w' := by
 have kf := (heap_alloc_new w (.cells #[.slice A1 f.st.length c1, .slice A2 f.li.length c2, .slice A3 f.pa.length c3, .slice A4 f.va.length c4] 28))
 have kc := (heap_alloc_new (w.alloc (.cells #[.slice A1 f.st.length c1, .slice A2 f.li.length c2, .slice A3 f.pa.length c3, .slice A4 f.va.length c4] 28)) (.cells #[.int .u8 (c.kind : Int), .int .i64 c.lim, .int .i64 c.oth, .int .i64 c.fr, .int .i64 c.till, .int .i64 c.size, .int .i64 c.er, .int .i64 c.crs.b, .int .i64 c.crs.n, .int .i64 c.crs.l, .int .i64 c.crs.y, .int .i64 c.crs.x, .int .i64 c.crs.s] 48))
 rw [World.size_alloc] at kc
 have kf := (Below.heap_alloc _ (.cells #[.int .u8 (c.kind : Int), .int .i64 c.lim, .int .i64 c.oth, .int .i64 c.fr, .int .i64 c.till, .int .i64 c.size, .int .i64 c.er, .int .i64 c.crs.b, .int .i64 c.crs.n, .int .i64 c.crs.l, .int .i64 c.crs.y, .int .i64 c.crs.x, .int .i64 c.crs.s] 48) _ (lO kf)).trans kf
 have l01 := ld_row kf Tryz.underlying28 rfl info_fld
 have l02 := ld_row kc Tryz.underlying48 rfl info_cal
 have hall : Below w.heap.size w ((w.alloc (.cells #[.slice A1 f.st.length c1, .slice A2 f.li.length c2, .slice A3 f.pa.length c3, .slice A4 f.va.length c4] 28)).alloc (.cells #[.int .u8 (c.kind : Int), .int .i64 c.lim, .int .i64 c.oth, .int .i64 c.fr, .int .i64 c.till, .int .i64 c.size, .int .i64 c.er, .int .i64 c.crs.b, .int .i64 c.crs.n, .int .i64 c.crs.l, .int .i64 c.crs.y, .int .i64 c.crs.x, .int .i64 c.crs.s] 48)) := ((Below.refl _ w).alloc (Nat.le_refl _) _).alloc (by simp) _
 obtain ⟨E, hE⟩ : ∃ E, Pl.checkCallE f c = E := ⟨_, rfl⟩
 have HC := Lib.hid hE
 clear hE
 by_cases h0 : E = 0
 ·subst h0
  obtain ⟨hok, ht⟩ := tab_of HC.out
  have b0 := hok.li1
  have b1 := hok.li10
  have b2 := hok.st12
  have hdr := fun W (hW : Below w.heap.size w W) => drawn_a A1 A2 A3 A4 c1 c2 c3 c4 f A cy y W b2 b0 b1 (hy.up hW) hym
  obtain ⟨D, hD⟩ : ∃ D, Pl.drawnB f.st.length f.li.length y = D := ⟨_, rfl⟩
  rw [hD] at hdr
  cases D with
  | false =>
   have HB : Hid (Pl.allowsE f c y = 1) := Lib.hid (by unfold Pl.allowsE; rw [if_pos HC.out, if_neg (by rw [hD]; decide)])
   have HV : Hid (Pl.allowsV f c y = false) := Lib.hid (by unfold Pl.allowsV; rw [if_neg (by rw [HB.out]; decide)])
   clear hD hok ht
   go_enter Tryz.func37, Tryz.ntmps37
   go_wp2_with first
    | (go_at_call 38; refine (checkCall_h A1 A2 A3 A4 c1 c2 c3 c4 f c 0 _ HC (hf.up hall) hm hc hk).mono ?_; rintro e w1 ⟨rfl, hx⟩; have kf := (hx.block _ (lO kf)).trans kf; have kc := (hx.block _ (lO kc)).trans kc; have hall : Below w.heap.size w _ := hall.trans (hx.mono hall.size); clear l01 l02; have l01 := ld_row kf Tryz.underlying28 rfl info_fld; have l02 := ld_row kc Tryz.underlying48 rfl info_cal; clear hx)
    | (go_at_call 105; refine (hdr _ hall).mono ?_; rintro e w1 ⟨rfl, hx⟩; have kf := (hx.block _ (lO kf)).trans kf; have kc := (hx.block _ (lO kc)).trans kc; have hall : Below w.heap.size w _ := hall.trans (hx.mono hall.size); clear l01 l02; have l01 := ld_row kf Tryz.underlying28 rfl info_fld; have l02 := ld_row kc Tryz.underlying48 rfl info_cal; clear hx)
   go_ret2
   exact ⟨by rw [HB.out, HV.out]; try rfl, hall⟩
  | true =>
   have HB : Hid (Pl.allowsE f c y = 0) := Lib.hid (by unfold Pl.allowsE; rw [if_pos HC.out, if_pos hD])
   obtain ⟨K, hK⟩ : ∃ K, Pl.keepsB (Pl.boundsC f c 0) y = K := ⟨_, rfl⟩
   have HV : Hid (Pl.allowsV f c y = K) := Lib.hid (by unfold Pl.allowsV; rw [if_pos HB.out, hK])
   have hylen := Pl.drawnB_len hD
   have hpt : Hid (∀ b ∈ Pl.boundsC f c 0, b.fr < y.length ∧ b.till < y.length) := Lib.hid (by rw [hylen]; exact Pl.bounds_pts ht)
   have hr := Lib.hid (Pl.drawnB_ranged hD)
   have hlen : (Pl.boundsC f c 0).length ≤ 100000 := by
    have hsl : (Pl.spans f c).length ≤ 100 := by
     obtain ⟨_, ⟨f0, f1⟩, h⟩ := ht
     unfold Pl.spans
     split <;> rename_i hk2 <;> simp only [List.length_map, List.length_range, List.length_cons, List.length_nil] <;> rcases h with h | h | h | h | h <;> omega
    rw [Pl.boundsC_len]; omega
   have hbd := fun W (hW : FldS W W.heap.size A1 A2 A3 A4 f) => bounds_a A1 A2 A3 A4 c1 c2 c3 c4 f c 0 W ht (by omega) (by omega) hW hm.va hok.x (spans_lo ht) (spans_len ht (by omega))
   obtain ⟨L, hL⟩ : ∃ L, Pl.boundsC f c 0 = L := ⟨_, rfl⟩
   rw [hL] at hbd hlen hpt hK
   have HK := Lib.hid hK
   clear hL hK hD hok ht hylen
   go_enter Tryz.func37, Tryz.ntmps37
   go_wp2_with first
    | (go_at_call 38; refine (checkCall_h A1 A2 A3 A4 c1 c2 c3 c4 f c 0 _ HC (hf.up hall) hm hc hk).mono ?_; rintro e w1 ⟨rfl, hx⟩; have kf := (hx.block _ (lO kf)).trans kf; have kc := (hx.block _ (lO kc)).trans kc; have hall : Below w.heap.size w _ := hall.trans (hx.mono hall.size); clear l01 l02; have l01 := ld_row kf Tryz.underlying28 rfl info_fld; have l02 := ld_row kc Tryz.underlying48 rfl info_cal; clear hx)
    | (go_at_call 105; refine (hdr _ hall).mono ?_; rintro e w1 ⟨rfl, hx⟩; have kf := (hx.block _ (lO kf)).trans kf; have kc := (hx.block _ (lO kc)).trans kc; have hall : Below w.heap.size w _ := hall.trans (hx.mono hall.size); clear l01 l02; have l01 := ld_row kf Tryz.underlying28 rfl info_fld; have l02 := ld_row kc Tryz.underlying48 rfl info_cal; clear hx)
    | (go_at_call 90; refine (hbd _ (hf.up hall)).mono ?_; rintro e w1 ⟨X, k, rfl, hS, hle, hF, hx⟩; have kf := (hx.block _ (lO kf)).trans kf; have kc := (hx.block _ (lO kc)).trans kc; have hall : Below w.heap.size w _ := hall.trans (hx.mono hall.size); clear l01 l02; have l01 := ld_row kf Tryz.underlying28 rfl info_fld; have l02 := ld_row kc Tryz.underlying48 rfl info_cal; clear hx)
    | (go_at_call 107; refine (kept_a X A k cy L y K _ hS hlen (hy.up hall) hpt.out hr.out HK).mono ?_; rintro e w1 ⟨rfl, hx⟩; have hall : Below w.heap.size w _ := hall.trans (hx.mono hall.size); clear hx)
   go_ret2
   exact ⟨by rw [HB.out, HV.out]; try rfl, hall⟩
 ·have HB : Hid (Pl.allowsE f c y = E) := Lib.hid (by unfold Pl.allowsE; rw [HC.out, if_neg h0])
  have HV : Hid (Pl.allowsV f c y = false) := Lib.hid (by unfold Pl.allowsV; rw [HB.out, if_neg h0])
  go_enter Tryz.func37, Tryz.ntmps37
  go_wp2_with (go_at_call 38; refine (checkCall_h A1 A2 A3 A4 c1 c2 c3 c4 f c E _ HC (hf.up hall) hm hc hk).mono ?_; rintro e w1 ⟨rfl, hx⟩; have kf := (hx.block _ (lO kf)).trans kf; have kc := (hx.block _ (lO kc)).trans kc; have hall : Below w.heap.size w _ := hall.trans (hx.mono hall.size); clear l01 l02; have l01 := ld_row kf Tryz.underlying28 rfl info_fld; have l02 := ld_row kc Tryz.underlying48 rfl info_cal; clear hx)
  go_ret2
  exact ⟨by rw [HB.out, HV.out]; try rfl, hall⟩
theorem Allows_h (A1 A2 A3 A4 : Option Addr) (c1 c2 c3 c4 : Nat) (f : Pl.Fld) (c : Pl.Cal) (A : Option Addr) (cy : Nat) (y : List Int) (b : Bool) (E : Int) (w : World) (h1 : Hid (Pl.allowsV f c y = b)) (h2 : Hid (Pl.allowsE f c y = E)) (hf : FldS w w.heap.size A1 A2 A3 A4 f) (hm : Small f) (hc : Caps c1 c2 c3 c4 f) (hk : c.kind ≤ 255) (hy : Ints w w.heap.size A y) (hym : y.length ≤ 100000) :
  Calls Tryz.prog 37 #[.agg #[.slice A1 f.st.length c1, .slice A2 f.li.length c2, .slice A3 f.pa.length c3, .slice A4 f.va.length c4], .agg #[.int .u8 (c.kind : Int), .int .i64 c.lim, .int .i64 c.oth, .int .i64 c.fr, .int .i64 c.till, .int .i64 c.size, .int .i64 c.er, .int .i64 c.crs.b, .int .i64 c.crs.n, .int .i64 c.crs.l, .int .i64 c.crs.y, .int .i64 c.crs.x, .int .i64 c.crs.s], .slice A y.length cy] w fun e w' => e = .returned (.tuple #[.bool b, .int .i64 E]) ∧ Below w.heap.size w w' := by
 have := Allows_a A1 A2 A3 A4 c1 c2 c3 c4 f c A cy y w hf hm hc hk hy hym
 rw [h1.out, h2.out] at this
 exact this
end Go.Proofs.YtgbpekeoegfjpaaGreatDoor
namespace Go.Proofs.YtgbpekeoegfjpaaGreatDoor
open Go.RowKit
theorem Back_h (A1 A2 A3 A4 : Option Addr) (c1 c2 c3 c4 : Nat) (f : Pl.Fld) (c d : Pl.Cal) (E : Int) (w : World) (hD : Hid (Pl.backV f c = d)) (hE : Hid (Pl.checkCallE f c = E)) (hf : FldS w w.heap.size A1 A2 A3 A4 f) (hm : Small f) (hc : Caps c1 c2 c3 c4 f) (hk : c.kind ≤ 255) :
  Calls Tryz.prog 66 #[.agg #[.slice A1 f.st.length c1, .slice A2 f.li.length c2, .slice A3 f.pa.length c3, .slice A4 f.va.length c4], .agg #[.int .u8 (c.kind : Int), .int .i64 c.lim, .int .i64 c.oth, .int .i64 c.fr, .int .i64 c.till, .int .i64 c.size, .int .i64 c.er, .int .i64 c.crs.b, .int .i64 c.crs.n, .int .i64 c.crs.l, .int .i64 c.crs.y, .int .i64 c.crs.x, .int .i64 c.crs.s]] w (EndBk d E w) := by
 rw [← hD.out, ← hE.out]
 exact Back_a A1 A2 A3 A4 c1 c2 c3 c4 f c w hf hm hc hk
end Go.Proofs.YtgbpekeoegfjpaaGreatDoor
namespace Go.Proofs.YtgbpekeoegfjpaaGreatDoor
open Go.RowKit
theorem eq_calT (d : Pl.Cal) (W : World) : (Op.equalIn 10000 48 (.agg #[.int .u8 (d.kind : Int), .int .i64 d.lim, .int .i64 d.oth, .int .i64 d.fr, .int .i64 d.till, .int .i64 d.size, .int .i64 d.er, .int .i64 d.crs.b, .int .i64 d.crs.n, .int .i64 d.crs.l, .int .i64 d.crs.y, .int .i64 d.crs.x, .int .i64 d.crs.s]) (.agg #[.int .u8 (d.kind : Int), .int .i64 d.lim, .int .i64 d.oth, .int .i64 d.fr, .int .i64 d.till, .int .i64 d.size, .int .i64 d.er, .int .i64 d.crs.b, .int .i64 d.crs.n, .int .i64 d.crs.l, .int .i64 d.crs.y, .int .i64 d.crs.x, .int .i64 d.crs.s])).run Tryz.prog W = .ok true W := by
 simp [go_sem]
attribute [-go_sem] run_equalIn_agg storeVar loadVar
attribute [local go_sem] lv_int lv_bool lv_u8 lv_string lv_strings lv_stas lv_pars lv_vars
theorem turns_plain {f : Pl.Fld} {c : Pl.Cal} (h : Pl.checkCallE f c = 0) (y : List Int) : ∃ d, Pl.backV f c = d ∧ d.kind = c.kind ∧ Pl.checkCallE f d = 0 ∧ Pl.backV f d = c ∧ Pl.sameE f c d = 0 ∧ Pl.sameV f c d = true ∧ Pl.allowsE f d y = Pl.allowsE f c y ∧ Pl.allowsV f d y = Pl.allowsV f c y := by
 have hF : Pl.fieldE f = 0 := by unfold Pl.checkCallE at h; split at h; assumption; exact absurd h ‹_›
 have hC : Pl.callE f c = 0 := by unfold Pl.checkCallE at h; rwa [if_pos hF] at h
 have hB := Pl.back_call hC
 have hD : Pl.checkCallE f c.back = 0 := by unfold Pl.checkCallE; rw [if_pos hF]; exact hB
 have e1 : Pl.backV f c = c.back := by unfold Pl.backV; rw [if_pos h]
 have e2 : Pl.backV f c.back = c := by unfold Pl.backV; rw [if_pos hD]; exact Pl.back_twice c fun hk => (Pl.callE_three hC hk).1
 have hb := Pl.back_bounds hC 0
 have e3 : Pl.sameE f c c.back = 0 := by unfold Pl.sameE; rw [if_pos h, hD]
 have e5 : Pl.allowsE f c.back y = Pl.allowsE f c y := by unfold Pl.allowsE; rw [if_pos h, if_pos hD]
 refine ⟨c.back, e1, ?_, hD, e2, e3, ?_, e5, ?_⟩
 ·unfold Pl.Cal.back; split <;> (try split) <;> rfl
 ·unfold Pl.sameV; rw [if_pos e3]; exact Pl.sameL_iff.2 hb
 ·unfold Pl.allowsV; rw [e5, Pl.keepsB_same (y := y) hb]
set_option maxRecDepth 100000 in
set_option maxHeartbeats 8000000 in
theorem deedTurns_bad (A1 A2 A3 A4 : Option Addr) (c1 c2 c3 c4 : Nat) (f : Pl.Fld) (c d : Pl.Cal) (E : Int) (A : Option Addr) (cy : Nat) (y : List Int) (w : World) (hEn : Env w) (hf : FldS w w.heap.size A1 A2 A3 A4 f) (hm : Small f) (hc : Caps c1 c2 c3 c4 f) (hk : c.kind ≤ 255) (hv : Hid (Pl.vast f = false)) (hym : y.length ≤ 130) (HD : Hid (Pl.backV f c = d)) (HE : Hid (Pl.checkCallE f c = E)) (h0 : E ≠ 0) :
  Calls Tryz.prog 17 #[.agg #[.slice A1 f.st.length c1, .slice A2 f.li.length c2, .slice A3 f.pa.length c3, .slice A4 f.va.length c4], .agg #[.int .u8 (c.kind : Int), .int .i64 c.lim, .int .i64 c.oth, .int .i64 c.fr, .int .i64 c.till, .int .i64 c.size, .int .i64 c.er, .int .i64 c.crs.b, .int .i64 c.crs.n, .int .i64 c.crs.l, .int .i64 c.crs.y, .int .i64 c.crs.x, .int .i64 c.crs.s], .slice A y.length cy] w fun e w' => e = .returned (.bool true) ∧ Below w.heap.size w w' := by
 have q0 : (E != 0) = true := by simpa using h0
 have kf := (heap_alloc_new w (.cells #[.slice A1 f.st.length c1, .slice A2 f.li.length c2, .slice A3 f.pa.length c3, .slice A4 f.va.length c4] 28))
 have kc := (heap_alloc_new (w.alloc (.cells #[.slice A1 f.st.length c1, .slice A2 f.li.length c2, .slice A3 f.pa.length c3, .slice A4 f.va.length c4] 28)) (.cells #[.int .u8 (c.kind : Int), .int .i64 c.lim, .int .i64 c.oth, .int .i64 c.fr, .int .i64 c.till, .int .i64 c.size, .int .i64 c.er, .int .i64 c.crs.b, .int .i64 c.crs.n, .int .i64 c.crs.l, .int .i64 c.crs.y, .int .i64 c.crs.x, .int .i64 c.crs.s] 48))
 rw [World.size_alloc] at kc
 have kf := (Below.heap_alloc _ (.cells #[.int .u8 (c.kind : Int), .int .i64 c.lim, .int .i64 c.oth, .int .i64 c.fr, .int .i64 c.till, .int .i64 c.size, .int .i64 c.er, .int .i64 c.crs.b, .int .i64 c.crs.n, .int .i64 c.crs.l, .int .i64 c.crs.y, .int .i64 c.crs.x, .int .i64 c.crs.s] 48) _ (lO kf)).trans kf
 have l01 := ld_row kf Tryz.underlying28 rfl info_fld
 have l02 := ld_row kc Tryz.underlying48 rfl info_cal
 have hall : Below w.heap.size w ((w.alloc (.cells #[.slice A1 f.st.length c1, .slice A2 f.li.length c2, .slice A3 f.pa.length c3, .slice A4 f.va.length c4] 28)).alloc (.cells #[.int .u8 (c.kind : Int), .int .i64 c.lim, .int .i64 c.oth, .int .i64 c.fr, .int .i64 c.till, .int .i64 c.size, .int .i64 c.er, .int .i64 c.crs.b, .int .i64 c.crs.n, .int .i64 c.crs.l, .int .i64 c.crs.y, .int .i64 c.crs.x, .int .i64 c.crs.s] 48)) := ((Below.refl _ w).alloc (Nat.le_refl _) _).alloc (by simp) _
 have g2 : ¬ (130 : Int) < (y.length : Int) := by omega
 go_enter Tryz.func17, Tryz.ntmps17
 go_wp2_with fail
 refine (vast_a A1 A2 A3 A4 c1 c2 c3 c4 f _ (hf.up hall) false hv).mono ?_
 rintro e w1 ⟨rfl, hx⟩
 replace kf := (hx.block _ (lO kf)).trans kf; replace kc := (hx.block _ (lO kc)).trans kc; replace hall : Below w.heap.size w _ := hall.trans (hx.mono hall.size); (try clear l01 l02); have l01 := ld_row kf Tryz.underlying28 rfl info_fld; have l02 := ld_row kc Tryz.underlying48 rfl info_cal; (try clear hcf hff hcc hfc); obtain ⟨hcf, hff⟩ := blk_cells kf; obtain ⟨hcc, hfc⟩ := blk_cells kc; clear hx
 go_wp2_with fail
 refine (Back_h A1 A2 A3 A4 c1 c2 c3 c4 f c d E _ HD HE (hf.up hall) hm hc hk).mono ?_
 rintro e w6 ⟨rfl, hx⟩
 replace kf := (hx.block _ (lO kf)).trans kf; replace kc := (hx.block _ (lO kc)).trans kc; replace hall : Below w.heap.size w _ := hall.trans (hx.mono hall.size); (try clear l01 l02); have l01 := ld_row kf Tryz.underlying28 rfl info_fld; have l02 := ld_row kc Tryz.underlying48 rfl info_cal; (try clear hcf hff hcc hfc); obtain ⟨hcf, hff⟩ := blk_cells kf; obtain ⟨hcc, hfc⟩ := blk_cells kc; clear hx
 unfold calV
 obtain ⟨W6, st6, kp, hx⟩ := sp_2 #[.int .u8 (d.kind : Int), .int .i64 d.lim, .int .i64 d.oth, .int .i64 d.fr, .int .i64 d.till, .int .i64 d.size, .int .i64 d.er, .int .i64 d.crs.b, .int .i64 d.crs.n, .int .i64 d.crs.l, .int .i64 d.crs.y, .int .i64 d.crs.x, .int .i64 d.crs.s] rfl (by simp [Value.oneCell']) w6
 replace kf := (hx.block _ (lO kf)).trans kf; replace kc := (hx.block _ (lO kc)).trans kc; replace hall : Below w.heap.size w _ := hall.trans (hx.mono hall.size); (try clear l01 l02); have l01 := ld_row kf Tryz.underlying28 rfl info_fld; have l02 := ld_row kc Tryz.underlying48 rfl info_cal; (try clear hcf hff hcc hfc); obtain ⟨hcf, hff⟩ := blk_cells kf; obtain ⟨hcc, hfc⟩ := blk_cells kc; clear hx
 go_wp2_with fail
 refine (spoken_a _ (hEn.up hall)).mono ?_
 rintro e w7 ⟨rfl, hx⟩
 replace kf := (hx.block _ (lO kf)).trans kf; replace kc := (hx.block _ (lO kc)).trans kc; replace hall : Below w.heap.size w _ := hall.trans (hx.mono hall.size); (try clear l01 l02); have l01 := ld_row kf Tryz.underlying28 rfl info_fld; have l02 := ld_row kc Tryz.underlying48 rfl info_cal; (try clear hcf hff hcc hfc); obtain ⟨hcf, hff⟩ := blk_cells kf; obtain ⟨hcc, hfc⟩ := blk_cells kc; clear hx
 go_wp2_with fail
 refine (checkCall_h A1 A2 A3 A4 c1 c2 c3 c4 f c E _ HE (hf.up hall) hm hc hk).mono ?_
 rintro e w8 ⟨rfl, hx⟩
 replace kf := (hx.block _ (lO kf)).trans kf; replace kc := (hx.block _ (lO kc)).trans kc; replace hall : Below w.heap.size w _ := hall.trans (hx.mono hall.size); (try clear l01 l02); have l01 := ld_row kf Tryz.underlying28 rfl info_fld; have l02 := ld_row kc Tryz.underlying48 rfl info_cal; (try clear hcf hff hcc hfc); obtain ⟨hcf, hff⟩ := blk_cells kf; obtain ⟨hcc, hfc⟩ := blk_cells kc; clear hx
 go_wp2_with fail
 go_ret
 exact ⟨by first | rfl | (simp; done), hall⟩
set_option maxRecDepth 100000 in
set_option maxHeartbeats 8000000 in
theorem deedTurns_ok (A1 A2 A3 A4 : Option Addr) (c1 c2 c3 c4 : Nat) (f : Pl.Fld) (c d : Pl.Cal) (A : Option Addr) (cy : Nat) (y : List Int) (x : Bool) (i : Int) (w : World) (hEn : Env w) (hf : FldS w w.heap.size A1 A2 A3 A4 f) (hm : Small f) (hc : Caps c1 c2 c3 c4 f) (hk : c.kind ≤ 255) (hkd : d.kind ≤ 255) (hv : Hid (Pl.vast f = false)) (hy : Ints w w.heap.size A y) (hym : y.length ≤ 130) (HD : Hid (Pl.backV f c = d)) (HE : Hid (Pl.checkCallE f c = 0)) (HD2 : Hid (Pl.backV f d = c)) (HE2 : Hid (Pl.checkCallE f d = 0)) (HSE : Hid (Pl.sameE f c d = 0)) (HSV : Hid (Pl.sameV f c d = true)) (HX : Hid (Pl.allowsV f c y = x)) (HI : Hid (Pl.allowsE f c y = i)) (HX2 : Hid (Pl.allowsV f d y = x)) (HI2 : Hid (Pl.allowsE f d y = i)) :
  Calls Tryz.prog 17 #[.agg #[.slice A1 f.st.length c1, .slice A2 f.li.length c2, .slice A3 f.pa.length c3, .slice A4 f.va.length c4], .agg #[.int .u8 (c.kind : Int), .int .i64 c.lim, .int .i64 c.oth, .int .i64 c.fr, .int .i64 c.till, .int .i64 c.size, .int .i64 c.er, .int .i64 c.crs.b, .int .i64 c.crs.n, .int .i64 c.crs.l, .int .i64 c.crs.y, .int .i64 c.crs.x, .int .i64 c.crs.s], .slice A y.length cy] w fun e w' => e = .returned (.bool true) ∧ Below w.heap.size w w' := by
 have kf := (heap_alloc_new w (.cells #[.slice A1 f.st.length c1, .slice A2 f.li.length c2, .slice A3 f.pa.length c3, .slice A4 f.va.length c4] 28))
 have kc := (heap_alloc_new (w.alloc (.cells #[.slice A1 f.st.length c1, .slice A2 f.li.length c2, .slice A3 f.pa.length c3, .slice A4 f.va.length c4] 28)) (.cells #[.int .u8 (c.kind : Int), .int .i64 c.lim, .int .i64 c.oth, .int .i64 c.fr, .int .i64 c.till, .int .i64 c.size, .int .i64 c.er, .int .i64 c.crs.b, .int .i64 c.crs.n, .int .i64 c.crs.l, .int .i64 c.crs.y, .int .i64 c.crs.x, .int .i64 c.crs.s] 48))
 rw [World.size_alloc] at kc
 have kf := (Below.heap_alloc _ (.cells #[.int .u8 (c.kind : Int), .int .i64 c.lim, .int .i64 c.oth, .int .i64 c.fr, .int .i64 c.till, .int .i64 c.size, .int .i64 c.er, .int .i64 c.crs.b, .int .i64 c.crs.n, .int .i64 c.crs.l, .int .i64 c.crs.y, .int .i64 c.crs.x, .int .i64 c.crs.s] 48) _ (lO kf)).trans kf
 have l01 := ld_row kf Tryz.underlying28 rfl info_fld
 have l02 := ld_row kc Tryz.underlying48 rfl info_cal
 have hall : Below w.heap.size w ((w.alloc (.cells #[.slice A1 f.st.length c1, .slice A2 f.li.length c2, .slice A3 f.pa.length c3, .slice A4 f.va.length c4] 28)).alloc (.cells #[.int .u8 (c.kind : Int), .int .i64 c.lim, .int .i64 c.oth, .int .i64 c.fr, .int .i64 c.till, .int .i64 c.size, .int .i64 c.er, .int .i64 c.crs.b, .int .i64 c.crs.n, .int .i64 c.crs.l, .int .i64 c.crs.y, .int .i64 c.crs.x, .int .i64 c.crs.s] 48)) := ((Below.refl _ w).alloc (Nat.le_refl _) _).alloc (by simp) _
 have g2 : ¬ (130 : Int) < (y.length : Int) := by omega
 go_enter Tryz.func17, Tryz.ntmps17
 go_wp2_with fail
 refine (vast_a A1 A2 A3 A4 c1 c2 c3 c4 f _ (hf.up hall) false hv).mono ?_
 rintro e w1 ⟨rfl, hx⟩
 replace kf := (hx.block _ (lO kf)).trans kf; replace kc := (hx.block _ (lO kc)).trans kc; replace hall : Below w.heap.size w _ := hall.trans (hx.mono hall.size); (try clear l01 l02); have l01 := ld_row kf Tryz.underlying28 rfl info_fld; have l02 := ld_row kc Tryz.underlying48 rfl info_cal; (try clear hcf hff hcc hfc); obtain ⟨hcf, hff⟩ := blk_cells kf; obtain ⟨hcc, hfc⟩ := blk_cells kc; clear hx
 go_wp2_with fail
 refine (Back_h A1 A2 A3 A4 c1 c2 c3 c4 f c d 0 _ HD HE (hf.up hall) hm hc hk).mono ?_
 rintro e w6 ⟨rfl, hx⟩
 replace kf := (hx.block _ (lO kf)).trans kf; replace kc := (hx.block _ (lO kc)).trans kc; replace hall : Below w.heap.size w _ := hall.trans (hx.mono hall.size); (try clear l01 l02); have l01 := ld_row kf Tryz.underlying28 rfl info_fld; have l02 := ld_row kc Tryz.underlying48 rfl info_cal; (try clear hcf hff hcc hfc); obtain ⟨hcf, hff⟩ := blk_cells kf; obtain ⟨hcc, hfc⟩ := blk_cells kc; clear hx
 unfold calV
 obtain ⟨W6, st6, kp, hx⟩ := sp_2 #[.int .u8 (d.kind : Int), .int .i64 d.lim, .int .i64 d.oth, .int .i64 d.fr, .int .i64 d.till, .int .i64 d.size, .int .i64 d.er, .int .i64 d.crs.b, .int .i64 d.crs.n, .int .i64 d.crs.l, .int .i64 d.crs.y, .int .i64 d.crs.x, .int .i64 d.crs.s] rfl (by simp [Value.oneCell']) w6
 replace kf := (hx.block _ (lO kf)).trans kf; replace kc := (hx.block _ (lO kc)).trans kc; replace hall : Below w.heap.size w _ := hall.trans (hx.mono hall.size); (try clear l01 l02); have l01 := ld_row kf Tryz.underlying28 rfl info_fld; have l02 := ld_row kc Tryz.underlying48 rfl info_cal; (try clear hcf hff hcc hfc); obtain ⟨hcf, hff⟩ := blk_cells kf; obtain ⟨hcc, hfc⟩ := blk_cells kc; clear hx
 (try clear lkp)
 have lkp := ld_row kp Tryz.underlying48 rfl info_cal
 go_wp2_with fail
 refine (Back_h A1 A2 A3 A4 c1 c2 c3 c4 f d c 0 _ HD2 HE2 (hf.up hall) hm hc hkd).mono ?_
 rintro e w7 ⟨rfl, hx⟩
 replace kp := (hx.block _ (lO kp)).trans kp
 clear st6
 replace kf := (hx.block _ (lO kf)).trans kf; replace kc := (hx.block _ (lO kc)).trans kc; replace hall : Below w.heap.size w _ := hall.trans (hx.mono hall.size); (try clear l01 l02); have l01 := ld_row kf Tryz.underlying28 rfl info_fld; have l02 := ld_row kc Tryz.underlying48 rfl info_cal; (try clear hcf hff hcc hfc); obtain ⟨hcf, hff⟩ := blk_cells kf; obtain ⟨hcc, hfc⟩ := blk_cells kc; clear hx
 (try clear lkp)
 have lkp := ld_row kp Tryz.underlying48 rfl info_cal
 unfold calV
 obtain ⟨W7, st7, kq, hx⟩ := sp_2 #[.int .u8 (c.kind : Int), .int .i64 c.lim, .int .i64 c.oth, .int .i64 c.fr, .int .i64 c.till, .int .i64 c.size, .int .i64 c.er, .int .i64 c.crs.b, .int .i64 c.crs.n, .int .i64 c.crs.l, .int .i64 c.crs.y, .int .i64 c.crs.x, .int .i64 c.crs.s] rfl (by simp [Value.oneCell']) w7
 replace kp := (hx.block _ (lO kp)).trans kp
 replace kf := (hx.block _ (lO kf)).trans kf; replace kc := (hx.block _ (lO kc)).trans kc; replace hall : Below w.heap.size w _ := hall.trans (hx.mono hall.size); (try clear l01 l02); have l01 := ld_row kf Tryz.underlying28 rfl info_fld; have l02 := ld_row kc Tryz.underlying48 rfl info_cal; (try clear hcf hff hcc hfc); obtain ⟨hcf, hff⟩ := blk_cells kf; obtain ⟨hcc, hfc⟩ := blk_cells kc; clear hx
 (try clear lkp)
 have lkp := ld_row kp Tryz.underlying48 rfl info_cal
 (try clear lkq)
 have lkq := ld_row kq Tryz.underlying48 rfl info_cal
 go_wp2_with fail
 refine (Same_h A1 A2 A3 A4 c1 c2 c3 c4 f c d true 0 _ HSV HSE (hf.up hall) hm hc hk hkd).mono ?_
 rintro e w8 ⟨rfl, hx⟩
 replace kp := (hx.block _ (lO kp)).trans kp
 replace kq := (hx.block _ (lO kq)).trans kq
 clear st7
 replace kf := (hx.block _ (lO kf)).trans kf; replace kc := (hx.block _ (lO kc)).trans kc; replace hall : Below w.heap.size w _ := hall.trans (hx.mono hall.size); (try clear l01 l02); have l01 := ld_row kf Tryz.underlying28 rfl info_fld; have l02 := ld_row kc Tryz.underlying48 rfl info_cal; (try clear hcf hff hcc hfc); obtain ⟨hcf, hff⟩ := blk_cells kf; obtain ⟨hcc, hfc⟩ := blk_cells kc; clear hx
 (try clear lkp)
 have lkp := ld_row kp Tryz.underlying48 rfl info_cal
 (try clear lkq)
 have lkq := ld_row kq Tryz.underlying48 rfl info_cal
 go_wp2_with fail
 refine (Allows_h A1 A2 A3 A4 c1 c2 c3 c4 f c A cy y x i _ HX HI (hf.up hall) hm hc hk (hy.up hall) (by omega)).mono ?_
 rintro e w9 ⟨rfl, hx⟩
 replace kp := (hx.block _ (lO kp)).trans kp
 replace kq := (hx.block _ (lO kq)).trans kq
 replace kf := (hx.block _ (lO kf)).trans kf; replace kc := (hx.block _ (lO kc)).trans kc; replace hall : Below w.heap.size w _ := hall.trans (hx.mono hall.size); (try clear l01 l02); have l01 := ld_row kf Tryz.underlying28 rfl info_fld; have l02 := ld_row kc Tryz.underlying48 rfl info_cal; (try clear hcf hff hcc hfc); obtain ⟨hcf, hff⟩ := blk_cells kf; obtain ⟨hcc, hfc⟩ := blk_cells kc; clear hx
 (try clear lkp)
 have lkp := ld_row kp Tryz.underlying48 rfl info_cal
 (try clear lkq)
 have lkq := ld_row kq Tryz.underlying48 rfl info_cal
 go_wp2_with fail
 refine (Allows_h A1 A2 A3 A4 c1 c2 c3 c4 f d A cy y x i _ HX2 HI2 (hf.up hall) hm hc hkd (hy.up hall) (by omega)).mono ?_
 rintro e w10 ⟨rfl, hx⟩
 replace kp := (hx.block _ (lO kp)).trans kp
 replace kq := (hx.block _ (lO kq)).trans kq
 replace kf := (hx.block _ (lO kf)).trans kf; replace kc := (hx.block _ (lO kc)).trans kc; replace hall : Below w.heap.size w _ := hall.trans (hx.mono hall.size); (try clear l01 l02); have l01 := ld_row kf Tryz.underlying28 rfl info_fld; have l02 := ld_row kc Tryz.underlying48 rfl info_cal; (try clear hcf hff hcc hfc); obtain ⟨hcf, hff⟩ := blk_cells kf; obtain ⟨hcc, hfc⟩ := blk_cells kc; clear hx
 (try clear lkp)
 have lkp := ld_row kp Tryz.underlying48 rfl info_cal
 (try clear lkq)
 have lkq := ld_row kq Tryz.underlying48 rfl info_cal
 go_wp2_with fail
 refine (spoken_a _ (hEn.up hall)).mono ?_
 rintro e w11 ⟨rfl, hx⟩
 replace kp := (hx.block _ (lO kp)).trans kp
 replace kq := (hx.block _ (lO kq)).trans kq
 replace kf := (hx.block _ (lO kf)).trans kf; replace kc := (hx.block _ (lO kc)).trans kc; replace hall : Below w.heap.size w _ := hall.trans (hx.mono hall.size); (try clear l01 l02); have l01 := ld_row kf Tryz.underlying28 rfl info_fld; have l02 := ld_row kc Tryz.underlying48 rfl info_cal; (try clear hcf hff hcc hfc); obtain ⟨hcf, hff⟩ := blk_cells kf; obtain ⟨hcc, hfc⟩ := blk_cells kc; clear hx
 (try clear lkp)
 have lkp := ld_row kp Tryz.underlying48 rfl info_cal
 (try clear lkq)
 have lkq := ld_row kq Tryz.underlying48 rfl info_cal
 have hEq := eq_calT c
 go_wp2_with fail
 go_ret
 exact ⟨by first | rfl | (simp; done), hall⟩
set_option maxRecDepth 100000 in
set_option maxHeartbeats 4000000 in
theorem deedTurns_w (A1 A2 A3 A4 : Option Addr) (c1 c2 c3 c4 : Nat) (f : Pl.Fld) (c : Pl.Cal) (A : Option Addr) (cy : Nat) (y : List Int) (w : World) (hEn : Env w) (hf : FldS w w.heap.size A1 A2 A3 A4 f) (hc : Caps c1 c2 c3 c4 f) (hk : c.kind ≤ 255) (hy : Ints w w.heap.size A y) (hyc : y.length ≤ cy) (hcm : cy ≤ maxLen) :
  Calls Tryz.prog 17 #[.agg #[.slice A1 f.st.length c1, .slice A2 f.li.length c2, .slice A3 f.pa.length c3, .slice A4 f.va.length c4], .agg #[.int .u8 (c.kind : Int), .int .i64 c.lim, .int .i64 c.oth, .int .i64 c.fr, .int .i64 c.till, .int .i64 c.size, .int .i64 c.er, .int .i64 c.crs.b, .int .i64 c.crs.n, .int .i64 c.crs.l, .int .i64 c.crs.y, .int .i64 c.crs.x, .int .i64 c.crs.s], .slice A y.length cy] w fun e w' => e = .returned (.bool true) ∧ Below w.heap.size w w' := by
 by_cases h1 : Pl.vast f = true
 ·have hv := Lib.hid h1
  clear h1
  have kf := (heap_alloc_new w (.cells #[.slice A1 f.st.length c1, .slice A2 f.li.length c2, .slice A3 f.pa.length c3, .slice A4 f.va.length c4] 28))
  have kc := (heap_alloc_new (w.alloc (.cells #[.slice A1 f.st.length c1, .slice A2 f.li.length c2, .slice A3 f.pa.length c3, .slice A4 f.va.length c4] 28)) (.cells #[.int .u8 (c.kind : Int), .int .i64 c.lim, .int .i64 c.oth, .int .i64 c.fr, .int .i64 c.till, .int .i64 c.size, .int .i64 c.er, .int .i64 c.crs.b, .int .i64 c.crs.n, .int .i64 c.crs.l, .int .i64 c.crs.y, .int .i64 c.crs.x, .int .i64 c.crs.s] 48))
  rw [World.size_alloc] at kc
  have kf := (Below.heap_alloc _ (.cells #[.int .u8 (c.kind : Int), .int .i64 c.lim, .int .i64 c.oth, .int .i64 c.fr, .int .i64 c.till, .int .i64 c.size, .int .i64 c.er, .int .i64 c.crs.b, .int .i64 c.crs.n, .int .i64 c.crs.l, .int .i64 c.crs.y, .int .i64 c.crs.x, .int .i64 c.crs.s] 48) _ (lO kf)).trans kf
  have l01 := ld_row kf Tryz.underlying28 rfl info_fld
  have l02 := ld_row kc Tryz.underlying48 rfl info_cal
  have hall : Below w.heap.size w ((w.alloc (.cells #[.slice A1 f.st.length c1, .slice A2 f.li.length c2, .slice A3 f.pa.length c3, .slice A4 f.va.length c4] 28)).alloc (.cells #[.int .u8 (c.kind : Int), .int .i64 c.lim, .int .i64 c.oth, .int .i64 c.fr, .int .i64 c.till, .int .i64 c.size, .int .i64 c.er, .int .i64 c.crs.b, .int .i64 c.crs.n, .int .i64 c.crs.l, .int .i64 c.crs.y, .int .i64 c.crs.x, .int .i64 c.crs.s] 48)) := ((Below.refl _ w).alloc (Nat.le_refl _) _).alloc (by simp) _
  go_enter Tryz.func17, Tryz.ntmps17
  go_wp2_with fail
  refine (vast_a A1 A2 A3 A4 c1 c2 c3 c4 f _ (hf.up hall) true hv).mono ?_
  rintro e w1 ⟨rfl, hx⟩
  replace kf := (hx.block _ (lO kf)).trans kf; replace kc := (hx.block _ (lO kc)).trans kc; replace hall : Below w.heap.size w _ := hall.trans (hx.mono hall.size); (try clear l01 l02); have l01 := ld_row kf Tryz.underlying28 rfl info_fld; have l02 := ld_row kc Tryz.underlying48 rfl info_cal; (try clear hcf hff hcc hfc); obtain ⟨hcf, hff⟩ := blk_cells kf; obtain ⟨hcc, hfc⟩ := blk_cells kc; clear hx
  go_wp2_with fail
  refine (spoken_a _ (hEn.up hall)).mono ?_
  rintro e w7 ⟨rfl, hx⟩
  replace kf := (hx.block _ (lO kf)).trans kf; replace kc := (hx.block _ (lO kc)).trans kc; replace hall : Below w.heap.size w _ := hall.trans (hx.mono hall.size); (try clear l01 l02); have l01 := ld_row kf Tryz.underlying28 rfl info_fld; have l02 := ld_row kc Tryz.underlying48 rfl info_cal; (try clear hcf hff hcc hfc); obtain ⟨hcf, hff⟩ := blk_cells kf; obtain ⟨hcc, hfc⟩ := blk_cells kc; clear hx
  go_wp2_with fail
  go_ret
  exact ⟨rfl, hall⟩
 have h1' : Pl.vast f = false := by simpa using h1
 by_cases h2 : 130 < y.length
 ·have hv := Lib.hid h1'
  have hyl : y.length ≤ 9223372036854775807 := by unfold maxLen at hcm; omega
  have e2 : (130 : Int) < (y.length : Int) := by omega
  clear h1 h1' h2
  have kf := (heap_alloc_new w (.cells #[.slice A1 f.st.length c1, .slice A2 f.li.length c2, .slice A3 f.pa.length c3, .slice A4 f.va.length c4] 28))
  have kc := (heap_alloc_new (w.alloc (.cells #[.slice A1 f.st.length c1, .slice A2 f.li.length c2, .slice A3 f.pa.length c3, .slice A4 f.va.length c4] 28)) (.cells #[.int .u8 (c.kind : Int), .int .i64 c.lim, .int .i64 c.oth, .int .i64 c.fr, .int .i64 c.till, .int .i64 c.size, .int .i64 c.er, .int .i64 c.crs.b, .int .i64 c.crs.n, .int .i64 c.crs.l, .int .i64 c.crs.y, .int .i64 c.crs.x, .int .i64 c.crs.s] 48))
  rw [World.size_alloc] at kc
  have kf := (Below.heap_alloc _ (.cells #[.int .u8 (c.kind : Int), .int .i64 c.lim, .int .i64 c.oth, .int .i64 c.fr, .int .i64 c.till, .int .i64 c.size, .int .i64 c.er, .int .i64 c.crs.b, .int .i64 c.crs.n, .int .i64 c.crs.l, .int .i64 c.crs.y, .int .i64 c.crs.x, .int .i64 c.crs.s] 48) _ (lO kf)).trans kf
  have l01 := ld_row kf Tryz.underlying28 rfl info_fld
  have l02 := ld_row kc Tryz.underlying48 rfl info_cal
  have hall : Below w.heap.size w ((w.alloc (.cells #[.slice A1 f.st.length c1, .slice A2 f.li.length c2, .slice A3 f.pa.length c3, .slice A4 f.va.length c4] 28)).alloc (.cells #[.int .u8 (c.kind : Int), .int .i64 c.lim, .int .i64 c.oth, .int .i64 c.fr, .int .i64 c.till, .int .i64 c.size, .int .i64 c.er, .int .i64 c.crs.b, .int .i64 c.crs.n, .int .i64 c.crs.l, .int .i64 c.crs.y, .int .i64 c.crs.x, .int .i64 c.crs.s] 48)) := ((Below.refl _ w).alloc (Nat.le_refl _) _).alloc (by simp) _
  go_enter Tryz.func17, Tryz.ntmps17
  go_wp2_with fail
  refine (vast_a A1 A2 A3 A4 c1 c2 c3 c4 f _ (hf.up hall) false hv).mono ?_
  rintro e w1 ⟨rfl, hx⟩
  replace kf := (hx.block _ (lO kf)).trans kf; replace kc := (hx.block _ (lO kc)).trans kc; replace hall : Below w.heap.size w _ := hall.trans (hx.mono hall.size); (try clear l01 l02); have l01 := ld_row kf Tryz.underlying28 rfl info_fld; have l02 := ld_row kc Tryz.underlying48 rfl info_cal; (try clear hcf hff hcc hfc); obtain ⟨hcf, hff⟩ := blk_cells kf; obtain ⟨hcc, hfc⟩ := blk_cells kc; clear hx
  go_wp2_with fail
  refine (spoken_a _ (hEn.up hall)).mono ?_
  rintro e w7 ⟨rfl, hx⟩
  replace kf := (hx.block _ (lO kf)).trans kf; replace kc := (hx.block _ (lO kc)).trans kc; replace hall : Below w.heap.size w _ := hall.trans (hx.mono hall.size); (try clear l01 l02); have l01 := ld_row kf Tryz.underlying28 rfl info_fld; have l02 := ld_row kc Tryz.underlying48 rfl info_cal; (try clear hcf hff hcc hfc); obtain ⟨hcf, hff⟩ := blk_cells kf; obtain ⟨hcc, hfc⟩ := blk_cells kc; clear hx
  go_wp2_with fail
  go_ret
  exact ⟨rfl, hall⟩
 have hm := Pl.vast_small h1'
 by_cases h0 : Pl.checkCallE f c = 0
 ·obtain ⟨d, e1, e2, e3, e4, e5, e6, e7, e8⟩ := turns_plain h0 y
  exact deedTurns_ok A1 A2 A3 A4 c1 c2 c3 c4 f c d A cy y _ _ w hEn hf hm hc hk (by omega) (Lib.hid h1') hy (by omega) (Lib.hid e1) (Lib.hid h0) (Lib.hid e4) (Lib.hid e3) (Lib.hid e5) (Lib.hid e6) (Lib.hid rfl) (Lib.hid rfl) (Lib.hid e8) (Lib.hid e7)
 ·exact deedTurns_bad A1 A2 A3 A4 c1 c2 c3 c4 f c _ _ A cy y w hEn hf hm hc hk (Lib.hid h1') (by omega) (Lib.hid rfl) (Lib.hid rfl) h0
end Go.Proofs.YtgbpekeoegfjpaaGreatDoor
