/- Walk of the law of checks. -/
import Derived.Test.YthncpapejijloaaGreatDoorProg
import Derived.WalkKit
import Derived.WalkLawsBesides
import Derived.WalkSpells
import Derived.Handy
import Derived.Lib.Hide
import Derived.Great.BuildSlice
import Derived.Deep.QuietTactic
import Derived.BigQuiet
import Derived.Deep.RegionHeld3
import Derived.Deep.DeepCutAuto
import Derived.Test.YthncpapejijloaaGreatDoorLx
import Derived.Test.YthncpapejijloaaGreatDoorBD
import Derived.Test.YthncpapejijloaaGreatDoorBG
namespace Go.Proofs.YthncpapejijloaaGreatDoor
open Go.RowKit

theorem declA_h (A : Option Addr) (c : Nat) (l : List (Int × Int)) (y : Int) (d : Int) (B : Bool) (w : World) (h : Hid (Pl.decl l y = (d, B))) (hl : Vars w w.heap.size A l) (hm : l.length ≤ maxLen) :
    Calls Tryz.prog 63 #[.slice A l.length c, .int .i64 y] w fun e w' => e = .returned (.tuple #[.int .i64 d, .bool B]) ∧ Below w.heap.size w w' := by
  have := decl_a A c l y w hl hm; rw [h.out] at this; exact this
theorem declB_h (A : Option Addr) (c : Nat) (l : List (Int × Int)) (y : Int) (d : Int) (B : Bool) (w : World) (h : Hid (Pl.decl l y = (d, B))) (hl : Vars w w.heap.size A l) (hm : l.length ≤ maxLen) :
    Calls Tryz.prog 64 #[.slice A l.length c, .int .i64 y] w fun e w' => e = .returned (.tuple #[.int .i64 d, .bool B]) ∧ Below w.heap.size w w' := by
  have := decl_b A c l y w hl hm; rw [h.out] at this; exact this
theorem SectorA_h     (A : Option Addr) (cp : Nat) (v : List (Int × Int)) (c : Pl.Crs) (a b E : Int) (w : World) (h : Hid (Pl.secR v c = (a, b))) (hE : Hid (Pl.commonE v [c] = E)) (hl : Vars w w.heap.size A v) (hm : v.length ≤ maxLen) :
    Calls Tryz.prog 65 #[.slice A v.length cp, .agg #[.int .i64 c.b, .int .i64 c.n, .int .i64 c.l, .int .i64 c.y, .int .i64 c.x, .int .i64 c.s]] w fun e w' => e = .returned (.tuple #[.int .i64 a, .int .i64 b, .int .i64 E]) ∧ Below w.heap.size w w' := by
  have := Sector_a A cp v c w hl hm; rw [h.out, hE.out] at this; exact this
theorem SectorB_h     (A : Option Addr) (cp : Nat) (v : List (Int × Int)) (c : Pl.Crs) (a b E : Int) (w : World) (h : Hid (Pl.secR v c = (a, b))) (hE : Hid (Pl.commonE v [c] = E)) (hl : Vars w w.heap.size A v) (hm : v.length ≤ maxLen) :
    Calls Tryz.prog 66 #[.slice A v.length cp, .agg #[.int .i64 c.b, .int .i64 c.n, .int .i64 c.l, .int .i64 c.y, .int .i64 c.x, .int .i64 c.s]] w fun e w' => e = .returned (.tuple #[.int .i64 a, .int .i64 b, .int .i64 E]) ∧ Below w.heap.size w w' := by
  have := Sector_b A cp v c w hl hm; rw [h.out, hE.out] at this; exact this
theorem courseA_h (c : Pl.Crs) (E : Int) (w : World) (h : Hid (Pl.err (Pl.courseOk c.b c.n c.l c.y c.x c.s) = E)) :
    Calls Tryz.prog 43 #[.agg #[.int .i64 c.b, .int .i64 c.n, .int .i64 c.l, .int .i64 c.y, .int .i64 c.x, .int .i64 c.s]] w fun e w' => e = .returned (.int .i64 E) ∧ Below w.heap.size w w' := by
  have := course_a c.b c.n c.l c.y c.x c.s w; rw [h.out] at this; exact this
theorem courseB_h (c : Pl.Crs) (E : Int) (w : World) (h : Hid (Pl.err (Pl.courseOk c.b c.n c.l c.y c.x c.s) = E)) :
    Calls Tryz.prog 69 #[.agg #[.int .i64 c.b, .int .i64 c.n, .int .i64 c.l, .int .i64 c.y, .int .i64 c.x, .int .i64 c.s]] w fun e w' => e = .returned (.int .i64 E) ∧ Below w.heap.size w w' := by
  have := course_b c.b c.n c.l c.y c.x c.s w; rw [h.out] at this; exact this
theorem varsA_h (A : Option Addr) (c : Nat) (l : List (Int × Int)) (E : Int) (w : World) (h : Hid (Pl.vars l = E)) (hl : Vars w w.heap.size A l) (hm : l.length ≤ maxLen) :
    Calls Tryz.prog 70 #[.slice A l.length c] w fun e w' => e = .returned (.int .i64 E) ∧ Below w.heap.size w w' := by
  have := vars_a A c l w hl hm; rw [h.out] at this; exact this
theorem varsB_h (A : Option Addr) (c : Nat) (l : List (Int × Int)) (E : Int) (w : World) (h : Hid (Pl.vars l = E)) (hl : Vars w w.heap.size A l) (hm : l.length ≤ maxLen) :
    Calls Tryz.prog 71 #[.slice A l.length c] w fun e w' => e = .returned (.int .i64 E) ∧ Below w.heap.size w w' := by
  have := vars_b A c l w hl hm; rw [h.out] at this; exact this
theorem alloc1_size (w : World) (a : Obj) : (w.alloc a).heap.size = w.heap.size + 1 := by simp
set_option maxRecDepth 100000 in
set_option maxHeartbeats 8000000 in
theorem checks_any     (A : Option Addr) (cp : Nat) (v : List (Int × Int)) (c : Pl.Crs) (k y : Int) (n1 d1 n2 d2 E : Int)     (w : World) (hE : Env w) (hl : Vars w w.heap.size A v) (hm : v.length ≤ maxLen) (h60 : v.length ≤ 60)
    (H1 : Hid (∀ W, Calls Tryz.prog 61 #[.agg #[.int .i64 c.x, .int .i64 c.s], .int .i64 k] W fun e w' => e = .returned (.tuple #[.agg #[.int .i64 n1, .int .i64 d1], .agg #[.int .i64 n2, .int .i64 d2], .int .i64 E]) ∧ Below W.heap.size W w'))
    (H2 : Hid (∀ W, Calls Tryz.prog 62 #[.agg #[.int .i64 c.x, .int .i64 c.s], .int .i64 k] W fun e w' => e = .returned (.tuple #[.agg #[.int .i64 n1, .int .i64 d1], .agg #[.int .i64 n2, .int .i64 d2], .int .i64 E]) ∧ Below W.heap.size W w')) :
    Calls Tryz.prog 20 #[.slice A v.length cp, .agg #[.int .i64 c.b, .int .i64 c.n, .int .i64 c.l, .int .i64 c.y, .int .i64 c.x, .int .i64 c.s], .int .i64 k, .int .i64 y] w fun e w' => e = .returned (.bool true) ∧ Below w.heap.size w w' := by
  have h8 : 8 ≤ w.heap.size := hE.size
  have hall : Below w.heap.size w w := Below.refl _ _
  have hsz : w.heap.size ≤ w.heap.size := Nat.le_refl _
  have kb := heap_alloc_new w (.cells #[.int .i64 c.b, .int .i64 c.n, .int .i64 c.l, .int .i64 c.y, .int .i64 c.x, .int .i64 c.s] 29)
  have hall : Below w.heap.size w (w.alloc (.cells #[.int .i64 c.b, .int .i64 c.n, .int .i64 c.l, .int .i64 c.y, .int .i64 c.x, .int .i64 c.s] 29)) := hall.alloc (Nat.le_refl _) _
  obtain ⟨hcb, hfb⟩ := blk_cells kb
  obtain ⟨dv, db, hD⟩ : ∃ a b, Pl.decl v y = (a, b) := ⟨_, _, rfl⟩
  obtain ⟨s1, s2, hS⟩ : ∃ a b, Pl.secR v c = (a, b) := ⟨_, _, rfl⟩
  obtain ⟨CE, hCE⟩ : ∃ a, Pl.commonE v [c] = a := ⟨_, rfl⟩
  have HD := Lib.hid hD
  have HS := Lib.hid hS
  have HCE := Lib.hid hCE
  obtain ⟨ch, hCH⟩ : ∃ a, Pl.err (Pl.chainOk c.x c.s) = a := ⟨_, rfl⟩
  obtain ⟨co, hCO⟩ : ∃ a, Pl.err (Pl.courseOk c.b c.n c.l c.y c.x c.s) = a := ⟨_, rfl⟩
  obtain ⟨vv, hV⟩ : ∃ a, Pl.vars v = a := ⟨_, rfl⟩
  have HCH := Lib.hid hCH
  have HCO := Lib.hid hCO
  have HV := Lib.hid hV
  clear hCH hCO hV
  clear hD hS hCE
  go_enter Tryz.func20, Tryz.ntmps20
  go_wp2_with (go_at_call 32; refine (few_yes _ _ _ _ h60).mono ?_; rintro e w' ⟨rfl, rfl⟩)
  (go_at_call 61; refine (H1.out _).mono ?_; rintro e w1 ⟨rfl, hx⟩; have kb := (hx.block w.heap.size (by first | omega | (simp; done) | (simp; omega))).trans kb; obtain ⟨hcb, hfb⟩ := blk_cells kb; have hall : Below w.heap.size w w1 := Below.trans (by go_grown) (hx.mono (by go_size)); have hsz : w.heap.size < w1.heap.size := (Array.getElem?_eq_some_iff.1 kb).1; clear hx)
  go_wp2_with fail
  have hzkx := alloc1_size w1 (.cells #[.int .i64 n1, .int .i64 d1] 65)
  have kx := heap_alloc_new w1 (.cells #[.int .i64 n1, .int .i64 d1] 65)
  have kb := (Below.heap_alloc (w1) (.cells #[.int .i64 n1, .int .i64 d1] 65) _ (Array.getElem?_eq_some_iff.1 kb).1).trans kb
  have ky := heap_alloc_new (w1.alloc (.cells #[.int .i64 n1, .int .i64 d1] 65)) (.cells #[.int .i64 n2, .int .i64 d2] 65)
  rw [hzkx] at ky
  clear hzkx
  have kb := (Below.heap_alloc (w1.alloc (.cells #[.int .i64 n1, .int .i64 d1] 65)) (.cells #[.int .i64 n2, .int .i64 d2] 65) _ (Array.getElem?_eq_some_iff.1 kb).1).trans kb
  have kx := (Below.heap_alloc (w1.alloc (.cells #[.int .i64 n1, .int .i64 d1] 65)) (.cells #[.int .i64 n2, .int .i64 d2] 65) _ (Array.getElem?_eq_some_iff.1 kx).1).trans kx
  have hall : Below w.heap.size w ((w1.alloc (.cells #[.int .i64 n1, .int .i64 d1] 65)).alloc (.cells #[.int .i64 n2, .int .i64 d2] 65)) := by go_grown
  generalize hW : (w1.alloc (.cells #[.int .i64 n1, .int .i64 d1] 65)).alloc (.cells #[.int .i64 n2, .int .i64 d2] 65) = W1 at *
  clear hW
  generalize w1.heap.size = Bx at *
  have hsz := hall.size
  clear hcb hfb
  (go_at_call 62; refine (H2.out _).mono ?_; rintro e w2 ⟨rfl, hx⟩; have kb := (hx.block (w.heap.size) (by first | exact (Array.getElem?_eq_some_iff.1 kb).1 | omega | (simp; done) | (simp; omega))).trans (by first | exact kb | exact (Below.heap_alloc _ _ _ (Array.getElem?_eq_some_iff.1 kb).1).trans kb); obtain ⟨hckb, hfkb⟩ := blk_cells kb; have hltkb := (Array.getElem?_eq_some_iff.1 kb).1; have kx := (hx.block (Bx) (by first | exact (Array.getElem?_eq_some_iff.1 kx).1 | omega | (simp; done) | (simp; omega))).trans (by first | exact kx | exact (Below.heap_alloc _ _ _ (Array.getElem?_eq_some_iff.1 kx).1).trans kx); obtain ⟨hckx, hfkx⟩ := blk_cells kx; have hltkx := (Array.getElem?_eq_some_iff.1 kx).1; have ky := (hx.block (Bx + 1) (by first | exact (Array.getElem?_eq_some_iff.1 ky).1 | omega | (simp; done) | (simp; omega))).trans (by first | exact ky | exact (Below.heap_alloc _ _ _ (Array.getElem?_eq_some_iff.1 ky).1).trans ky); obtain ⟨hcky, hfky⟩ := blk_cells ky; have hltky := (Array.getElem?_eq_some_iff.1 ky).1; have hall : Below w.heap.size w w2 := Below.trans (by go_grown) (hx.mono (by go_size)); have hsz : w.heap.size ≤ w2.heap.size := hall.size; clear hx)
  clear hckb hfkb hckx hfkx hcky hfky hltkb hltkx hltky
  go_wp2_with fail
  have hzkz := alloc1_size w2 (.cells #[.int .i64 n1, .int .i64 d1] 65)
  have kz := heap_alloc_new w2 (.cells #[.int .i64 n1, .int .i64 d1] 65)
  have kb := (Below.heap_alloc (w2) (.cells #[.int .i64 n1, .int .i64 d1] 65) _ (Array.getElem?_eq_some_iff.1 kb).1).trans kb
  have kx := (Below.heap_alloc (w2) (.cells #[.int .i64 n1, .int .i64 d1] 65) _ (Array.getElem?_eq_some_iff.1 kx).1).trans kx
  have ky := (Below.heap_alloc (w2) (.cells #[.int .i64 n1, .int .i64 d1] 65) _ (Array.getElem?_eq_some_iff.1 ky).1).trans ky
  have kt := heap_alloc_new (w2.alloc (.cells #[.int .i64 n1, .int .i64 d1] 65)) (.cells #[.int .i64 n2, .int .i64 d2] 65)
  rw [hzkz] at kt
  clear hzkz
  have kb := (Below.heap_alloc (w2.alloc (.cells #[.int .i64 n1, .int .i64 d1] 65)) (.cells #[.int .i64 n2, .int .i64 d2] 65) _ (Array.getElem?_eq_some_iff.1 kb).1).trans kb
  have kx := (Below.heap_alloc (w2.alloc (.cells #[.int .i64 n1, .int .i64 d1] 65)) (.cells #[.int .i64 n2, .int .i64 d2] 65) _ (Array.getElem?_eq_some_iff.1 kx).1).trans kx
  have ky := (Below.heap_alloc (w2.alloc (.cells #[.int .i64 n1, .int .i64 d1] 65)) (.cells #[.int .i64 n2, .int .i64 d2] 65) _ (Array.getElem?_eq_some_iff.1 ky).1).trans ky
  have kz := (Below.heap_alloc (w2.alloc (.cells #[.int .i64 n1, .int .i64 d1] 65)) (.cells #[.int .i64 n2, .int .i64 d2] 65) _ (Array.getElem?_eq_some_iff.1 kz).1).trans kz
  have hall : Below w.heap.size w ((w2.alloc (.cells #[.int .i64 n1, .int .i64 d1] 65)).alloc (.cells #[.int .i64 n2, .int .i64 d2] 65)) := by go_grown
  generalize hW : (w2.alloc (.cells #[.int .i64 n1, .int .i64 d1] 65)).alloc (.cells #[.int .i64 n2, .int .i64 d2] 65) = W2 at *
  clear hW
  generalize w2.heap.size = Bz at *
  have hsz := hall.size
  (go_at_call 63; refine (declA_h A cp v y dv db _ HD (hl.up hall) hm).mono ?_; rintro e w3 ⟨rfl, hx⟩; have kb := (hx.block (w.heap.size) (by first | exact (Array.getElem?_eq_some_iff.1 kb).1 | omega | (simp; done) | (simp; omega))).trans (by first | exact kb | exact (Below.heap_alloc _ _ _ (Array.getElem?_eq_some_iff.1 kb).1).trans kb); obtain ⟨hckb, hfkb⟩ := blk_cells kb; have hltkb := (Array.getElem?_eq_some_iff.1 kb).1; have kx := (hx.block (Bx) (by first | exact (Array.getElem?_eq_some_iff.1 kx).1 | omega | (simp; done) | (simp; omega))).trans (by first | exact kx | exact (Below.heap_alloc _ _ _ (Array.getElem?_eq_some_iff.1 kx).1).trans kx); obtain ⟨hckx, hfkx⟩ := blk_cells kx; have hltkx := (Array.getElem?_eq_some_iff.1 kx).1; have ky := (hx.block (Bx + 1) (by first | exact (Array.getElem?_eq_some_iff.1 ky).1 | omega | (simp; done) | (simp; omega))).trans (by first | exact ky | exact (Below.heap_alloc _ _ _ (Array.getElem?_eq_some_iff.1 ky).1).trans ky); obtain ⟨hcky, hfky⟩ := blk_cells ky; have hltky := (Array.getElem?_eq_some_iff.1 ky).1; have kz := (hx.block (Bz) (by first | exact (Array.getElem?_eq_some_iff.1 kz).1 | omega | (simp; done) | (simp; omega))).trans (by first | exact kz | exact (Below.heap_alloc _ _ _ (Array.getElem?_eq_some_iff.1 kz).1).trans kz); obtain ⟨hckz, hfkz⟩ := blk_cells kz; have hltkz := (Array.getElem?_eq_some_iff.1 kz).1; have kt := (hx.block (Bz + 1) (by first | exact (Array.getElem?_eq_some_iff.1 kt).1 | omega | (simp; done) | (simp; omega))).trans (by first | exact kt | exact (Below.heap_alloc _ _ _ (Array.getElem?_eq_some_iff.1 kt).1).trans kt); obtain ⟨hckt, hfkt⟩ := blk_cells kt; have hltkt := (Array.getElem?_eq_some_iff.1 kt).1; have hall : Below w.heap.size w w3 := Below.trans (by go_grown) (hx.mono (by go_size)); have hsz : w.heap.size ≤ w3.heap.size := hall.size; clear hx)
  go_wp2_with fail
  (go_at_call 64; refine (declB_h A cp v y dv db _ HD (hl.up (by go_grown)) hm).mono ?_; rintro e w4 ⟨rfl, hx⟩; have kb := (hx.block (w.heap.size) (by first | exact (Array.getElem?_eq_some_iff.1 kb).1 | omega | (simp; done) | (simp; omega))).trans (by first | exact kb | exact (Below.heap_alloc _ _ _ (Array.getElem?_eq_some_iff.1 kb).1).trans kb); obtain ⟨hckb, hfkb⟩ := blk_cells kb; have hltkb := (Array.getElem?_eq_some_iff.1 kb).1; have kx := (hx.block (Bx) (by first | exact (Array.getElem?_eq_some_iff.1 kx).1 | omega | (simp; done) | (simp; omega))).trans (by first | exact kx | exact (Below.heap_alloc _ _ _ (Array.getElem?_eq_some_iff.1 kx).1).trans kx); obtain ⟨hckx, hfkx⟩ := blk_cells kx; have hltkx := (Array.getElem?_eq_some_iff.1 kx).1; have ky := (hx.block (Bx + 1) (by first | exact (Array.getElem?_eq_some_iff.1 ky).1 | omega | (simp; done) | (simp; omega))).trans (by first | exact ky | exact (Below.heap_alloc _ _ _ (Array.getElem?_eq_some_iff.1 ky).1).trans ky); obtain ⟨hcky, hfky⟩ := blk_cells ky; have hltky := (Array.getElem?_eq_some_iff.1 ky).1; have kz := (hx.block (Bz) (by first | exact (Array.getElem?_eq_some_iff.1 kz).1 | omega | (simp; done) | (simp; omega))).trans (by first | exact kz | exact (Below.heap_alloc _ _ _ (Array.getElem?_eq_some_iff.1 kz).1).trans kz); obtain ⟨hckz, hfkz⟩ := blk_cells kz; have hltkz := (Array.getElem?_eq_some_iff.1 kz).1; have kt := (hx.block (Bz + 1) (by first | exact (Array.getElem?_eq_some_iff.1 kt).1 | omega | (simp; done) | (simp; omega))).trans (by first | exact kt | exact (Below.heap_alloc _ _ _ (Array.getElem?_eq_some_iff.1 kt).1).trans kt); obtain ⟨hckt, hfkt⟩ := blk_cells kt; have hltkt := (Array.getElem?_eq_some_iff.1 kt).1; have hall : Below w.heap.size w w4 := Below.trans (by go_grown) (hx.mono (by go_size)); have hsz : w.heap.size ≤ w4.heap.size := hall.size; clear hx)
  go_wp2_with fail
  (go_at_call 65; refine (SectorA_h A cp v c s1 s2 CE _ HS HCE (hl.up (by go_grown)) hm).mono ?_; rintro e w5 ⟨rfl, hx⟩; have kb := (hx.block (w.heap.size) (by first | exact (Array.getElem?_eq_some_iff.1 kb).1 | omega | (simp; done) | (simp; omega))).trans (by first | exact kb | exact (Below.heap_alloc _ _ _ (Array.getElem?_eq_some_iff.1 kb).1).trans kb); obtain ⟨hckb, hfkb⟩ := blk_cells kb; have hltkb := (Array.getElem?_eq_some_iff.1 kb).1; have kx := (hx.block (Bx) (by first | exact (Array.getElem?_eq_some_iff.1 kx).1 | omega | (simp; done) | (simp; omega))).trans (by first | exact kx | exact (Below.heap_alloc _ _ _ (Array.getElem?_eq_some_iff.1 kx).1).trans kx); obtain ⟨hckx, hfkx⟩ := blk_cells kx; have hltkx := (Array.getElem?_eq_some_iff.1 kx).1; have ky := (hx.block (Bx + 1) (by first | exact (Array.getElem?_eq_some_iff.1 ky).1 | omega | (simp; done) | (simp; omega))).trans (by first | exact ky | exact (Below.heap_alloc _ _ _ (Array.getElem?_eq_some_iff.1 ky).1).trans ky); obtain ⟨hcky, hfky⟩ := blk_cells ky; have hltky := (Array.getElem?_eq_some_iff.1 ky).1; have kz := (hx.block (Bz) (by first | exact (Array.getElem?_eq_some_iff.1 kz).1 | omega | (simp; done) | (simp; omega))).trans (by first | exact kz | exact (Below.heap_alloc _ _ _ (Array.getElem?_eq_some_iff.1 kz).1).trans kz); obtain ⟨hckz, hfkz⟩ := blk_cells kz; have hltkz := (Array.getElem?_eq_some_iff.1 kz).1; have kt := (hx.block (Bz + 1) (by first | exact (Array.getElem?_eq_some_iff.1 kt).1 | omega | (simp; done) | (simp; omega))).trans (by first | exact kt | exact (Below.heap_alloc _ _ _ (Array.getElem?_eq_some_iff.1 kt).1).trans kt); obtain ⟨hckt, hfkt⟩ := blk_cells kt; have hltkt := (Array.getElem?_eq_some_iff.1 kt).1; have hall : Below w.heap.size w w5 := Below.trans (by go_grown) (hx.mono (by go_size)); have hsz : w.heap.size ≤ w5.heap.size := hall.size; clear hx)
  go_wp2_with fail
  (go_at_call 66; refine (SectorB_h A cp v c s1 s2 CE _ HS HCE (hl.up (by go_grown)) hm).mono ?_; rintro e w6 ⟨rfl, hx⟩; have kb := (hx.block (w.heap.size) (by first | exact (Array.getElem?_eq_some_iff.1 kb).1 | omega | (simp; done) | (simp; omega))).trans (by first | exact kb | exact (Below.heap_alloc _ _ _ (Array.getElem?_eq_some_iff.1 kb).1).trans kb); obtain ⟨hckb, hfkb⟩ := blk_cells kb; have hltkb := (Array.getElem?_eq_some_iff.1 kb).1; have kx := (hx.block (Bx) (by first | exact (Array.getElem?_eq_some_iff.1 kx).1 | omega | (simp; done) | (simp; omega))).trans (by first | exact kx | exact (Below.heap_alloc _ _ _ (Array.getElem?_eq_some_iff.1 kx).1).trans kx); obtain ⟨hckx, hfkx⟩ := blk_cells kx; have hltkx := (Array.getElem?_eq_some_iff.1 kx).1; have ky := (hx.block (Bx + 1) (by first | exact (Array.getElem?_eq_some_iff.1 ky).1 | omega | (simp; done) | (simp; omega))).trans (by first | exact ky | exact (Below.heap_alloc _ _ _ (Array.getElem?_eq_some_iff.1 ky).1).trans ky); obtain ⟨hcky, hfky⟩ := blk_cells ky; have hltky := (Array.getElem?_eq_some_iff.1 ky).1; have kz := (hx.block (Bz) (by first | exact (Array.getElem?_eq_some_iff.1 kz).1 | omega | (simp; done) | (simp; omega))).trans (by first | exact kz | exact (Below.heap_alloc _ _ _ (Array.getElem?_eq_some_iff.1 kz).1).trans kz); obtain ⟨hckz, hfkz⟩ := blk_cells kz; have hltkz := (Array.getElem?_eq_some_iff.1 kz).1; have kt := (hx.block (Bz + 1) (by first | exact (Array.getElem?_eq_some_iff.1 kt).1 | omega | (simp; done) | (simp; omega))).trans (by first | exact kt | exact (Below.heap_alloc _ _ _ (Array.getElem?_eq_some_iff.1 kt).1).trans kt); obtain ⟨hckt, hfkt⟩ := blk_cells kt; have hltkt := (Array.getElem?_eq_some_iff.1 kt).1; have hall : Below w.heap.size w w6 := Below.trans (by go_grown) (hx.mono (by go_size)); have hsz : w.heap.size ≤ w6.heap.size := hall.size; clear hx)
  go_wp2_with fail
  clear hckx hfkx hcky hfky hckz hfkz hckt hfkt hltkx hltky hltkz hltkt kx ky kz kt
  go_region_held3 (fun W => ∀ j, W.cell? ⟨w.heap.size, j, none⟩ = (#[.int .i64 c.b, .int .i64 c.n, .int .i64 c.l, .int .i64 c.y, .int .i64 c.x, .int .i64 c.s] : Array Value)[j]?) (exact hckb) (first
    | (go_at_call 27; refine (measured_a _ (hE.up (by go_grown))).mono ?_; rintro e w7 ⟨rfl, hx⟩; have kb := (hx.block (w.heap.size) (by first | exact (Array.getElem?_eq_some_iff.1 kb).1 | omega | (simp; done) | (simp; omega))).trans (by first | exact kb | exact (Below.heap_alloc _ _ _ (Array.getElem?_eq_some_iff.1 kb).1).trans kb); obtain ⟨hckb, hfkb⟩ := blk_cells kb; have hltkb := (Array.getElem?_eq_some_iff.1 kb).1; have hall : Below w.heap.size w w7 := Below.trans (by go_grown) (hx.mono (by go_size)); have hsz : w.heap.size ≤ w7.heap.size := hall.size; clear hx)
    | (go_at_call 67; refine (chainA_h _ _ ch _ HCH).mono ?_; rintro e w7 ⟨rfl, hx⟩; have kb := (hx.block (w.heap.size) (by first | exact (Array.getElem?_eq_some_iff.1 kb).1 | omega | (simp; done) | (simp; omega))).trans (by first | exact kb | exact (Below.heap_alloc _ _ _ (Array.getElem?_eq_some_iff.1 kb).1).trans kb); obtain ⟨hckb, hfkb⟩ := blk_cells kb; have hltkb := (Array.getElem?_eq_some_iff.1 kb).1; have hall : Below w.heap.size w w7 := Below.trans (by go_grown) (hx.mono (by go_size)); have hsz : w.heap.size ≤ w7.heap.size := hall.size; clear hx)
    | (go_at_call 68; refine (chainB_h _ _ ch _ HCH).mono ?_; rintro e w7 ⟨rfl, hx⟩; have kb := (hx.block (w.heap.size) (by first | exact (Array.getElem?_eq_some_iff.1 kb).1 | omega | (simp; done) | (simp; omega))).trans (by first | exact kb | exact (Below.heap_alloc _ _ _ (Array.getElem?_eq_some_iff.1 kb).1).trans kb); obtain ⟨hckb, hfkb⟩ := blk_cells kb; have hltkb := (Array.getElem?_eq_some_iff.1 kb).1; have hall : Below w.heap.size w w7 := Below.trans (by go_grown) (hx.mono (by go_size)); have hsz : w.heap.size ≤ w7.heap.size := hall.size; clear hx)
    | (go_at_call 43; refine (courseA_h c co _ HCO).mono ?_; rintro e w7 ⟨rfl, hx⟩; have kb := (hx.block (w.heap.size) (by first | exact (Array.getElem?_eq_some_iff.1 kb).1 | omega | (simp; done) | (simp; omega))).trans (by first | exact kb | exact (Below.heap_alloc _ _ _ (Array.getElem?_eq_some_iff.1 kb).1).trans kb); obtain ⟨hckb, hfkb⟩ := blk_cells kb; have hltkb := (Array.getElem?_eq_some_iff.1 kb).1; have hall : Below w.heap.size w w7 := Below.trans (by go_grown) (hx.mono (by go_size)); have hsz : w.heap.size ≤ w7.heap.size := hall.size; clear hx)
    | (go_at_call 69; refine (courseB_h c co _ HCO).mono ?_; rintro e w7 ⟨rfl, hx⟩; have kb := (hx.block (w.heap.size) (by first | exact (Array.getElem?_eq_some_iff.1 kb).1 | omega | (simp; done) | (simp; omega))).trans (by first | exact kb | exact (Below.heap_alloc _ _ _ (Array.getElem?_eq_some_iff.1 kb).1).trans kb); obtain ⟨hckb, hfkb⟩ := blk_cells kb; have hltkb := (Array.getElem?_eq_some_iff.1 kb).1; have hall : Below w.heap.size w w7 := Below.trans (by go_grown) (hx.mono (by go_size)); have hsz : w.heap.size ≤ w7.heap.size := hall.size; clear hx)
    | (go_at_call 70; refine (varsA_h A cp v vv _ HV (hl.up (by go_grown)) hm).mono ?_; rintro e w7 ⟨rfl, hx⟩; have kb := (hx.block (w.heap.size) (by first | exact (Array.getElem?_eq_some_iff.1 kb).1 | omega | (simp; done) | (simp; omega))).trans (by first | exact kb | exact (Below.heap_alloc _ _ _ (Array.getElem?_eq_some_iff.1 kb).1).trans kb); obtain ⟨hckb, hfkb⟩ := blk_cells kb; have hltkb := (Array.getElem?_eq_some_iff.1 kb).1; have hall : Below w.heap.size w w7 := Below.trans (by go_grown) (hx.mono (by go_size)); have hsz : w.heap.size ≤ w7.heap.size := hall.size; clear hx)
    | (go_at_call 71; refine (varsB_h A cp v vv _ HV (hl.up (by go_grown)) hm).mono ?_; rintro e w7 ⟨rfl, hx⟩; have kb := (hx.block (w.heap.size) (by first | exact (Array.getElem?_eq_some_iff.1 kb).1 | omega | (simp; done) | (simp; omega))).trans (by first | exact kb | exact (Below.heap_alloc _ _ _ (Array.getElem?_eq_some_iff.1 kb).1).trans kb); obtain ⟨hckb, hfkb⟩ := blk_cells kb; have hltkb := (Array.getElem?_eq_some_iff.1 kb).1; have hall : Below w.heap.size w w7 := Below.trans (by go_grown) (hx.mono (by go_size)); have hsz : w.heap.size ≤ w7.heap.size := hall.size; clear hx))
  all_goals go_wp2
  all_goals go_ret
  all_goals exact ⟨by first | rfl | simp, by go_grown⟩
theorem courseChecks_w     (A : Option Addr) (cp : Nat) (v : List (Int × Int)) (c : Pl.Crs) (k y : Int)     (w : World) (hE : Env w) (hl : Vars w w.heap.size A v) (hm : v.length ≤ maxLen) :
    Calls Tryz.prog 20 #[.slice A v.length cp, .agg #[.int .i64 c.b, .int .i64 c.n, .int .i64 c.l, .int .i64 c.y, .int .i64 c.x, .int .i64 c.s], .int .i64 k, .int .i64 y] w fun e w' => e = .returned (.bool true) ∧ Below w.heap.size w w' := by
  by_cases h60 : v.length ≤ 60
  · by_cases hk : Pl.chainOk c.x c.s = true ∧ 1 ≤ k ∧ k ≤ 100000
    · obtain ⟨n1, d1, n2, d2, hT⟩ := tr_ok hk.1 hk.2.1 hk.2.2
      exact checks_any A cp v c k y n1 d1 n2 d2 0 w hE hl hm h60 (Lib.hid fun W => TrueA_ok _ _ _ _ _ _ _ W hk.1 hk.2.1 hk.2.2 hT) (Lib.hid fun W => TrueB_ok _ _ _ _ _ _ _ W hk.1 hk.2.1 hk.2.2 hT)
    · exact checks_any A cp v c k y 0 0 0 0 1 w hE hl hm h60 (Lib.hid fun W => TrueA_no _ _ _ W hk) (Lib.hid fun W => TrueB_no _ _ _ W hk)
  · skip
    have h8 : 8 ≤ w.heap.size := hE.size
    have hall : Below w.heap.size w w := Below.refl _ _
    have hsz : w.heap.size ≤ w.heap.size := Nat.le_refl _
    have kb := heap_alloc_new w (.cells #[.int .i64 c.b, .int .i64 c.n, .int .i64 c.l, .int .i64 c.y, .int .i64 c.x, .int .i64 c.s] 29)
    have hall : Below w.heap.size w (w.alloc (.cells #[.int .i64 c.b, .int .i64 c.n, .int .i64 c.l, .int .i64 c.y, .int .i64 c.x, .int .i64 c.s] 29)) := hall.alloc (Nat.le_refl _) _
    go_enter Tryz.func20, Tryz.ntmps20
    go_wp2_with (first
      | (go_at_call 32; refine (few_no _ _ _ _ h60 hm).mono ?_; rintro e w' ⟨rfl, rfl⟩)
      | (go_at_call 27; refine (measured_a _ (hE.up hall)).mono ?_; rintro e w1 ⟨rfl, hx⟩; have hall : Below w.heap.size w w1 := Below.trans (by go_grown) (hx.mono (by go_size)); have hsz : w.heap.size ≤ w1.heap.size := hall.size; clear hx))
    go_ret
    exact ⟨rfl, hall⟩
end Go.Proofs.YthncpapejijloaaGreatDoor
