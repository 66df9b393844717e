/- Walks: Links, Area, the examples of the chapter. -/
import Derived.Test.YthncpapejijloaaGreatDoorProg
import Derived.WalkKit
import Derived.WalkLawsBesides
import Derived.WalkSpells
import Derived.Handy
import Derived.Lib.Hide
import Derived.Great.BuildSlice
import Derived.Deep.QuietTactic
import Derived.BigQuiet
import Derived.Deep.RegionHeld3
import Derived.Deep.DeepCutAuto
import Derived.Test.YthncpapejijloaaGreatDoorA20
import Derived.Shelf.Abstract
import Derived.Test.YthncpapejijloaaGreatDoorPl11
import Derived.Test.YthncpapejijloaaGreatDoorA13
import Derived.Test.YthncpapejijloaaGreatDoorAE
namespace Go.Proofs.YthncpapejijloaaGreatDoor
open Go.RowKit Go.Shelf

def readN (o : Option Int) : Int := o.getD 0
def readE (o : Option Int) : Int := if o.isSome then 0 else 4
theorem reading_a (s : ByteArray) (us : List Pl.Unit) (A : Option Addr) (cap : Nat) (fw : FuncId) (wrt : Int → ByteArray) (bs bu bw : Nat) (w : World) (hE : Env w)
    (ks : w.heap[bs]? = some (.cells #[.string s] 9 (0, 0))) (ku : w.heap[bu]? = some (.cells #[.slice A us.length cap] 97 (0, 0))) (kw : w.heap[bw]? = some (.cells #[.func (.func fw) #[] #[]] 52 (0, 0)))
    (hus : Units w w.heap.size A us) (hs : s.size ≤ 1000) (hlen : us.length ≤ 40) (hpos : ∀ u ∈ us, 1 ≤ u.1 ∧ u.1 ≤ 1000000000000)
    (hen : ∀ cap w, (callFunc fw cap).run Tryz.prog w = .ok (.enter fw cap) w)
    (hwr : ∀ n W, Env W → Calls Tryz.prog fw #[.int .i64 n] W fun e w' => e = .returned (.string (wrt n)) ∧ Below W.heap.size W w') :
    Calls Tryz.prog 94 #[.func (.func 114) #[] #[.pointer (some ⟨bs, 0, none⟩), .pointer (some ⟨bu, 0, none⟩), .pointer (some ⟨bw, 0, none⟩)]] w fun e w' => e = .returned (.tuple #[.int .i64 (readN (Pl.readV us wrt s)), .int .i64 (readE (Pl.readV us wrt s))]) ∧ Below w.heap.size w w' := by
  have hbs := (Array.getElem?_eq_some_iff.1 ks).1
  have hbu := (Array.getElem?_eq_some_iff.1 ku).1
  have hbw := (Array.getElem?_eq_some_iff.1 kw).1
  have h1 : ∀ W, Below w.heap.size w W → Calls Tryz.prog 114 #[.pointer (some ⟨bs, 0, none⟩), .pointer (some ⟨bu, 0, none⟩), .pointer (some ⟨bw, 0, none⟩)] W fun e w' => e = endV (Pl.readV us wrt s) ∧ Below W.heap.size W w' := fun W hb =>
    read1_a s us A cap fw wrt bs bu bw W (hE.up hb) ((hb.block bs hbs).trans ks) ((hb.block bu hbu).trans ku) ((hb.block bw hbw).trans kw) (hus.up hb) hs hlen hpos hen hwr
  cases h : Pl.readV us wrt s with
  | some n =>
    rw [h] at h1
    exact reading_ok 114 _ n w (fun w => enters_of Tryz.func114 (by kernel_rfl) rfl _ w) h1
  | none =>
    rw [h] at h1
    exact reading_no 114 _ w (fun w => enters_of Tryz.func114 (by kernel_rfl) rfl _ w) h1
theorem read_a (s : ByteArray) (us : List Pl.Unit) (A : Option Addr) (cap : Nat) (fw : FuncId) (wrt : Int → ByteArray) (w : World) (hE : Env w)
    (hus : Units w w.heap.size A us) (hs : s.size ≤ 1000) (hlen : us.length ≤ 40) (hpos : ∀ u ∈ us, 1 ≤ u.1 ∧ u.1 ≤ 1000000000000)
    (hen : ∀ cap w, (callFunc fw cap).run Tryz.prog w = .ok (.enter fw cap) w)
    (hwr : ∀ n W, Env W → Calls Tryz.prog fw #[.int .i64 n] W fun e w' => e = .returned (.string (wrt n)) ∧ Below W.heap.size W w') :
    Calls Tryz.prog 88 #[.string s, .slice A us.length cap, .func (.func fw) #[] #[]] w fun e w' => e = .returned (.tuple #[.int .i64 (readN (Pl.readV us wrt s)), .int .i64 (readE (Pl.readV us wrt s))]) ∧ Below w.heap.size w w' := by
  have hb3 : Below w.heap.size w (((w.alloc (.cells #[.string s] 9)).alloc (.cells #[.slice A us.length cap] 97)).alloc (.cells #[.func (.func fw) #[] #[]] 52)) := by
    exact ((((Below.refl _ w).alloc (Nat.le_refl _) _).alloc (by simp) _).alloc (by simp; omega) _)
  have hr := reading_a s us A cap fw wrt w.heap.size (w.heap.size + 1) (w.heap.size + 1 + 1) _ (hE.up hb3)
    (((Below.heap_alloc _ _ _ (by simp; omega)).trans (Below.heap_alloc _ _ _ (by simp))).trans (World.alloc_heap_new _ _))
    ((Below.heap_alloc _ _ _ (by simp)).trans (heap_at (by simp))) (heap_at (by simp)) (hus.up hb3) hs hlen hpos hen hwr
  go_enter Tryz.func88, Tryz.ntmps88
  go_wp2_with (go_at_call 94; refine hr.mono ?_; rintro e w7 ⟨rfl, hx7⟩)
  go_ret2
  exact ⟨rfl, hb3.trans (hx7.mono (by simp; omega))⟩
theorem links_a (s : ByteArray) (w : World) (hE : Env w) (hs : s.size ≤ 1000) :
    Calls Tryz.prog 44 #[.string s] w fun e w' => e = .returned (.tuple #[.int .i64 (readN (Pl.readV Pl.poles Pl.lengthV s)), .int .i64 (readE (Pl.readV Pl.poles Pl.lengthV s))]) ∧ Below w.heap.size w w' := by
  have h8 : 8 ≤ w.heap.size := hE.size
  go_enter Tryz.func44, Tryz.ntmps44
  go_wp2_with (first | (go_at_call 89; refine (poles_a _).mono ?_; rintro e w1 ⟨rfl, hb1, hU⟩; have hsz1 := hb1.size) | (go_at_call 88; refine (read_a s Pl.poles _ 3 _ Pl.lengthV _ (hE.up hb1) hU hs (by decide) (by decide) (fun cap w => enters_of Tryz.func48 (by kernel_rfl) rfl cap w) (fun n W hW => length_a n W hW)).mono ?_; rintro e w2 ⟨rfl, hb2⟩; have hsz2 := hb2.size))
  go_ret2
  exact ⟨rfl, hb1.trans (hb2.mono hsz1)⟩
theorem area_a (s : ByteArray) (w : World) (hE : Env w) (hs : s.size ≤ 1000) :
    Calls Tryz.prog 46 #[.string s] w fun e w' => e = .returned (.tuple #[.int .i64 (readN (Pl.readV Pl.roods Pl.acresV s)), .int .i64 (readE (Pl.readV Pl.roods Pl.acresV s))]) ∧ Below w.heap.size w w' := by
  have h8 : 8 ≤ w.heap.size := hE.size
  go_enter Tryz.func46, Tryz.ntmps46
  go_wp2_with (first | (go_at_call 91; refine (roods_a _).mono ?_; rintro e w1 ⟨rfl, hb1, hU⟩; have hsz1 := hb1.size) | (go_at_call 88; refine (read_a s Pl.roods _ 4 _ Pl.acresV _ (hE.up hb1) hU hs (by decide) (by decide) (fun cap w => enters_of Tryz.func50 (by kernel_rfl) rfl cap w) (fun n W hW => acres_a n W hW)).mono ?_; rintro e w2 ⟨rfl, hb2⟩; have hsz2 := hb2.size))
  go_ret2
  exact ⟨rfl, hb1.trans (hb2.mono hsz1)⟩
end Go.Proofs.YthncpapejijloaaGreatDoor

namespace Go.Proofs.YthncpapejijloaaGreatDoor
open Go.RowKit

def vN : List (Int × Int) := [(1700, 10), (1800, 12)]
def cW : Pl.Crs := ⟨50, 2, 1000, 1750, 0, 100⟩
def cB : Pl.Crs := ⟨230, 2, 1000, 1750, 0, 100⟩
theorem ex1 : Pl.com vN [cW] 866 = (480, 519, true) ∧ Pl.comE vN [cW] 866 = 0 := by decide +kernel
theorem ex2 : Pl.fitR vN cW 866 479 = 5 ∧ Pl.stepE vN cW 866 479 = 0 := by decide +kernel
theorem ex3 : Pl.fitR vN cW 866 560 = 2 ∧ Pl.stepE vN cW 866 560 = 0 := by decide +kernel
theorem ex4 : Pl.need vN cW 866 500 = (0, true) ∧ Pl.stepE vN cW 866 500 = 0 := by decide +kernel
theorem ex5 : cW.ok = true := by decide +kernel
theorem ex6 : Pl.stepE vN cB (-866) (-500) = 0 ∧ Pl.fitR vN cB (-866) (-500) = 0 := by decide +kernel
theorem ex8 : Pl.sin 210 = -5000 ∧ Pl.cos 60 = 5000 ∧ Pl.rootUp 24 = 5 := by decide +kernel
theorem ex9 : Pl.lengthV 341 = ⟨#[51, 32, 99, 104, 97, 105, 110, 115, 32, 49, 32, 112, 111, 108, 101, 32, 49, 54, 32, 108, 105, 110, 107, 115]⟩ := by decide +kernel
theorem ex7 : Pl.readV Pl.poles Pl.lengthV ⟨#[49, 32, 112, 111, 108, 101, 32, 49, 32, 108, 105, 110, 107]⟩ = some 26 := by decide +kernel
theorem ex10 : Pl.acresV 126250 = ⟨#[49, 32, 97, 99, 114, 101, 32, 49, 32, 114, 111, 111, 100, 32, 50, 32, 112, 101, 114, 99, 104, 101, 115]⟩ := by decide +kernel
theorem ex11 : Pl.quad 150 = [115, 111, 117, 116, 104, 32, 51, 48, 32, 101, 97, 115, 116] := by decide +kernel
end Go.Proofs.YthncpapejijloaaGreatDoor

namespace Go.Proofs.YthncpapejijloaaGreatDoor
open Go.RowKit

theorem noted_a (w : World) :
    Calls Tryz.prog 74 #[] w fun e w' => e = .returned (.slice (some ⟨w.heap.size, 0, none⟩) 2 2) ∧ Below w.heap.size w w' ∧ Vars w' w'.heap.size (some ⟨w.heap.size, 0, none⟩) vN := by
  go_enter Tryz.func74, Tryz.ntmps74
  go_wp2
  go_ret
  refine ⟨rfl, by go_grown, .inr ⟨w.heap.size, 0, rfl, by simp, fun k x hx j v hv => ?_⟩⟩
  rw [(blk_cells (World.alloc_heap_new _ _)).1, Nat.zero_add, ← Array.getElem?_toList]
  exact flat_at encVar 2 (fun _ => rfl) hx hv
theorem walked_a (w : World) :
    Calls Tryz.prog 75 #[] w fun e w' => e = .returned (.agg #[.int .i64 50, .int .i64 2, .int .i64 1000, .int .i64 1750, .int .i64 0, .int .i64 100]) ∧ Below w.heap.size w w' := by
  go_enter Tryz.func75, Tryz.ntmps75
  go_wp2
  refine bodyPost_ret (v := .agg #[.int .i64 50, .int .i64 2, .int .i64 1000, .int .i64 1750, .int .i64 0, .int .i64 100]) (by simp [results, Tryz.results75, go_sem]) rfl ⟨rfl, by go_grown⟩
theorem len2 : vN.length ≤ maxLen := by decide
theorem m1 (A : Option Addr) (w : World) (hl : Vars w w.heap.size A vN) : Calls Tryz.prog 36 #[.slice A 2 2, .agg #[.int .i64 50, .int .i64 2, .int .i64 1000, .int .i64 1750, .int .i64 0, .int .i64 100], .int .i64 866] w fun e w' => e = .returned (.tuple #[.int .i64 480, .int .i64 519, .bool true, .int .i64 0]) ∧ Below w.heap.size w w' := by
  have h := Interval_a A 2 vN cW 866 w hl len2
  rw [ex1.1, ex1.2] at h
  exact h
theorem m2 (A : Option Addr) (w : World) (hl : Vars w w.heap.size A vN) : Calls Tryz.prog 33 #[.slice A 2 2, .agg #[.int .i64 50, .int .i64 2, .int .i64 1000, .int .i64 1750, .int .i64 0, .int .i64 100], .int .i64 866, .int .i64 479] w fun e w' => e = .returned (.tuple #[.int .u8 5, .int .i64 0]) ∧ Below w.heap.size w w' := by
  have h := Misfit_a A 2 vN cW 866 479 w hl len2
  rw [ex2.1, ex2.2] at h
  exact h
theorem m3 (A : Option Addr) (w : World) (hl : Vars w w.heap.size A vN) : Calls Tryz.prog 33 #[.slice A 2 2, .agg #[.int .i64 50, .int .i64 2, .int .i64 1000, .int .i64 1750, .int .i64 0, .int .i64 100], .int .i64 866, .int .i64 560] w fun e w' => e = .returned (.tuple #[.int .u8 2, .int .i64 0]) ∧ Below w.heap.size w w' := by
  have h := Misfit_a A 2 vN cW 866 560 w hl len2
  rw [ex3.1, ex3.2] at h
  exact h
theorem m4 (A : Option Addr) (w : World) (hl : Vars w w.heap.size A vN) : Calls Tryz.prog 38 #[.slice A 2 2, .agg #[.int .i64 50, .int .i64 2, .int .i64 1000, .int .i64 1750, .int .i64 0, .int .i64 100], .int .i64 866, .int .i64 500] w fun e w' => e = .returned (.tuple #[.int .i64 0, .bool true, .int .i64 0]) ∧ Below w.heap.size w w' := by
  have h := Needed_a A 2 vN cW 866 500 w hl len2
  rw [ex4.1, ex4.2] at h
  exact h
theorem m5 (w : World) : Calls Tryz.prog 42 #[.agg #[.int .i64 50, .int .i64 2, .int .i64 1000, .int .i64 1750, .int .i64 0, .int .i64 100]] w fun e w' => e = .returned (.tuple #[.agg #[.int .i64 230, .int .i64 2, .int .i64 1000, .int .i64 1750, .int .i64 0, .int .i64 100], .int .i64 0]) ∧ Below w.heap.size w w' := Reverse_ok cW w ex5
theorem m6 (A : Option Addr) (w : World) (hl : Vars w w.heap.size A vN) : Calls Tryz.prog 35 #[.slice A 2 2, .agg #[.int .i64 230, .int .i64 2, .int .i64 1000, .int .i64 1750, .int .i64 0, .int .i64 100], .int .i64 (-866), .int .i64 (-500)] w fun e w' => e = .returned (.tuple #[.bool true, .int .i64 0]) ∧ Below w.heap.size w w' := by
  have h := Fits_a A 2 vN cB (-866) (-500) w hl len2
  rw [decide_eq_true ex6, ex6.1] at h
  exact h
theorem m7 (w : World) (hE : Env w) : Calls Tryz.prog 44 #[.string ⟨#[49, 32, 112, 111, 108, 101, 32, 49, 32, 108, 105, 110, 107]⟩] w fun e w' => e = .returned (.tuple #[.int .i64 26, .int .i64 0]) ∧ Below w.heap.size w w' := by
  have h := links_a ⟨#[49, 32, 112, 111, 108, 101, 32, 49, 32, 108, 105, 110, 107]⟩ w hE (by decide)
  rw [ex7] at h
  exact h
theorem m8 (w : World) : Calls Tryz.prog 23 #[.int .i64 210] w fun e w' => e = .returned (.int .i64 (-5000)) ∧ Below w.heap.size w w' := by
  have h := sin_a 210 w
  rw [ex8.1] at h
  exact h
theorem m9 (w : World) : Calls Tryz.prog 25 #[.int .i64 60] w fun e w' => e = .returned (.int .i64 5000) ∧ Below w.heap.size w w' := by
  have h := cos_a 60 w
  rw [ex8.2.1] at h
  exact h
theorem m10 (w : World) : Calls Tryz.prog 29 #[.int .i64 24] w fun e w' => e = .returned (.int .i64 5) ∧ w = w' := by
  have h := rootUp_a 24 w
  rw [ex8.2.2] at h
  exact h
theorem m11 (w : World) (hE : Env w) : Calls Tryz.prog 48 #[.int .i64 341] w fun e w' => e = .returned (.string ⟨#[51, 32, 99, 104, 97, 105, 110, 115, 32, 49, 32, 112, 111, 108, 101, 32, 49, 54, 32, 108, 105, 110, 107, 115]⟩) ∧ Below w.heap.size w w' := by
  have h := length_a 341 w hE
  rw [ex9] at h
  exact h
theorem m12 (w : World) (hE : Env w) : Calls Tryz.prog 50 #[.int .i64 126250] w fun e w' => e = .returned (.string ⟨#[49, 32, 97, 99, 114, 101, 32, 49, 32, 114, 111, 111, 100, 32, 50, 32, 112, 101, 114, 99, 104, 101, 115]⟩) ∧ Below w.heap.size w w' := by
  have h := acres_a 126250 w hE
  rw [ex10] at h
  exact h
theorem m13 (w : World) : Calls Tryz.prog 59 #[.int .i64 150] w fun e w' => e = .returned (.string ⟨#[115, 111, 117, 116, 104, 32, 51, 48, 32, 101, 97, 115, 116]⟩) ∧ w = w' := by
  have h := quad_a 150 w
  rw [ex11] at h
  exact h
end Go.Proofs.YthncpapejijloaaGreatDoor

namespace Go.Proofs.YthncpapejijloaaGreatDoor
open Go.RowKit

theorem m23 (dy : Int) (A : Option Addr) (w : World) (hl : Vars w w.heap.size A vN) : Calls Tryz.prog 33 #[.slice A 2 2, .agg #[.int .i64 50, .int .i64 2, .int .i64 1000, .int .i64 1750, .int .i64 0, .int .i64 100], .int .i64 866, .int .i64 dy] w fun e w' => e = .returned (.tuple #[.int .u8 (Pl.fitR vN cW 866 dy), .int .i64 (Pl.stepE vN cW 866 dy)]) ∧ Below w.heap.size w w' :=
  Misfit_a A 2 vN cW 866 dy w hl len2
set_option maxRecDepth 100000 in
set_option maxHeartbeats 2000000 in
theorem measured_a (w : World) (hE : Env w) : Calls Tryz.prog 27 #[] w fun e w' => e = .returned (.bool true) ∧ Below w.heap.size w w' := by
  have h8 : 8 ≤ w.heap.size := hE.size
  have e1 := ex2.1
  have e2 := ex2.2
  have e3 := ex3.1
  have e4 := ex3.2
  have hall : Below w.heap.size w w := Below.refl _ _
  have hsz : w.heap.size ≤ w.heap.size := Nat.le_refl _
  go_enter Tryz.func27, Tryz.ntmps27
  go_wp2_with (first | (go_at_call 74; refine (noted_a _).mono ?_; rintro e w1 ⟨rfl, hx, hV⟩; have hall : Below w.heap.size w w1 := Below.trans (by go_grown) (hx.mono (by go_size)); have hsz : w.heap.size ≤ w1.heap.size := hall.size; clear hx) | (go_at_call 75; refine (walked_a _).mono ?_; rintro e w2 ⟨rfl, hx⟩; (try have hV2 := hV.up hx); have hall : Below w.heap.size w w2 := Below.trans (by go_grown) (hx.mono (by go_size)); have hsz : w.heap.size ≤ w2.heap.size := hall.size; clear hx) | (go_at_call 36; refine (m1 _ _ hV2).mono ?_; rintro e w3 ⟨rfl, hx⟩; have hall : Below w.heap.size w w3 := Below.trans (by go_grown) (hx.mono (by go_size)); have hsz : w.heap.size ≤ w3.heap.size := hall.size; clear hx) | (go_at_call 33; refine (m23 _ _ _ hV2).mono ?_; rintro e w3 ⟨rfl, hx⟩; have hall : Below w.heap.size w w3 := Below.trans (by go_grown) (hx.mono (by go_size)); have hsz : w.heap.size ≤ w3.heap.size := hall.size; clear hx) | (go_at_call 38; refine (m4 _ _ hV2).mono ?_; rintro e w3 ⟨rfl, hx⟩; have hall : Below w.heap.size w w3 := Below.trans (by go_grown) (hx.mono (by go_size)); have hsz : w.heap.size ≤ w3.heap.size := hall.size; clear hx) | (go_at_call 42; refine (m5 _).mono ?_; rintro e w3 ⟨rfl, hx⟩; have hall : Below w.heap.size w w3 := Below.trans (by go_grown) (hx.mono (by go_size)); have hsz : w.heap.size ≤ w3.heap.size := hall.size; clear hx))
  have hall0 : Below w.heap.size w (w3.alloc (.cells #[.int .i64 230, .int .i64 2, .int .i64 1000, .int .i64 1750, .int .i64 0, .int .i64 100] 29)) := by go_grown
  have hback : (w3.alloc (.cells #[.int .i64 230, .int .i64 2, .int .i64 1000, .int .i64 1750, .int .i64 0, .int .i64 100] 29)).heap[w3.heap.size]? = some (.cells #[.int .i64 230, .int .i64 2, .int .i64 1000, .int .i64 1750, .int .i64 0, .int .i64 100] 29 (0, 0)) := World.alloc_heap_new _ _
  generalize w3.alloc (.cells #[.int .i64 230, .int .i64 2, .int .i64 1000, .int .i64 1750, .int .i64 0, .int .i64 100] 29) = W0 at hall0 hback ⊢
  generalize w3.heap.size = B at hback ⊢
  have hB : B < W0.heap.size := (Array.getElem?_eq_some_iff.1 hback).1
  have hszB : w.heap.size ≤ W0.heap.size := hall0.size
  have c0 : W0.cell? ⟨B, 0, none⟩ = some (.int .i64 230) := by rw [(blk_cells hback).1]; rfl
  have c1 : W0.cell? ⟨B, 1, none⟩ = some (.int .i64 2) := by rw [(blk_cells hback).1]; rfl
  have c2 : W0.cell? ⟨B, 2, none⟩ = some (.int .i64 1000) := by rw [(blk_cells hback).1]; rfl
  have c3 : W0.cell? ⟨B, 3, none⟩ = some (.int .i64 1750) := by rw [(blk_cells hback).1]; rfl
  have c4 : W0.cell? ⟨B, 4, none⟩ = some (.int .i64 0) := by rw [(blk_cells hback).1]; rfl
  have c5 : W0.cell? ⟨B, 5, none⟩ = some (.int .i64 100) := by rw [(blk_cells hback).1]; rfl
  go_region_held3 (fun W => W.cell? ⟨B, 0, none⟩ = some (.int .i64 230) ∧ W.cell? ⟨B, 1, none⟩ = some (.int .i64 2) ∧ W.cell? ⟨B, 2, none⟩ = some (.int .i64 1000) ∧ W.cell? ⟨B, 3, none⟩ = some (.int .i64 1750) ∧ W.cell? ⟨B, 4, none⟩ = some (.int .i64 0) ∧ W.cell? ⟨B, 5, none⟩ = some (.int .i64 100)) (exact ⟨by assumption, by assumption, by assumption, by assumption, by assumption, by assumption⟩)
    (first
      | (go_at_call 74; refine (noted_a _).mono ?_; rintro e w5 ⟨rfl, hx, hV⟩; have hbW : Below W0.heap.size W0 w5 := Below.trans (by go_grown) (hx.mono (by go_size)); have hsW := hbW.size; have u0 := (hbW.cell (p := ⟨B, 0, none⟩) hB).trans c0; have u1 := (hbW.cell (p := ⟨B, 1, none⟩) hB).trans c1; have u2 := (hbW.cell (p := ⟨B, 2, none⟩) hB).trans c2; have u3 := (hbW.cell (p := ⟨B, 3, none⟩) hB).trans c3; have u4 := (hbW.cell (p := ⟨B, 4, none⟩) hB).trans c4; have u5 := (hbW.cell (p := ⟨B, 5, none⟩) hB).trans c5; have hall : Below w.heap.size w w5 := hall0.trans (hbW.mono hszB); have hsz : w.heap.size ≤ w5.heap.size := hall.size; clear hx)
      | (go_at_call 35; refine (m6 _ _ hV).mono ?_; rintro e w6 ⟨rfl, hx⟩; have hbW : Below W0.heap.size W0 w6 := Below.trans (by go_grown) (hx.mono (by go_size)); have hsW := hbW.size; have u0 := (hbW.cell (p := ⟨B, 0, none⟩) hB).trans c0; have u1 := (hbW.cell (p := ⟨B, 1, none⟩) hB).trans c1; have u2 := (hbW.cell (p := ⟨B, 2, none⟩) hB).trans c2; have u3 := (hbW.cell (p := ⟨B, 3, none⟩) hB).trans c3; have u4 := (hbW.cell (p := ⟨B, 4, none⟩) hB).trans c4; have u5 := (hbW.cell (p := ⟨B, 5, none⟩) hB).trans c5; have hall : Below w.heap.size w w6 := hall0.trans (hbW.mono hszB); have hsz : w.heap.size ≤ w6.heap.size := hall.size; clear hx))
  go_wp2_with (first | (go_at_call 44; refine (m7 _ (hE.up hall)).mono ?_; rintro e w7 ⟨rfl, hx⟩; have v0 := (hx.cell (p := ⟨B, 0, none⟩) (show B < _ by omega)).trans u0; have hall : Below w.heap.size w w7 := Below.trans (by go_grown) (hx.mono (by go_size)); have hsz : w.heap.size ≤ w7.heap.size := hall.size; clear hx) | (go_at_call 23; refine (m8 _).mono ?_; rintro e w8 ⟨rfl, hx⟩; have hall : Below w.heap.size w w8 := Below.trans (by go_grown) (hx.mono (by go_size)); have hsz : w.heap.size ≤ w8.heap.size := hall.size; clear hx) | (go_at_call 25; refine (m9 _).mono ?_; rintro e w9 ⟨rfl, hx⟩; have hall : Below w.heap.size w w9 := Below.trans (by go_grown) (hx.mono (by go_size)); have hsz : w.heap.size ≤ w9.heap.size := hall.size; clear hx) | (go_at_call 29; refine (m10 _).mono ?_; rintro e w' ⟨rfl, rfl⟩) | (go_at_call 48; refine (m11 _ (hE.up hall)).mono ?_; rintro e w10 ⟨rfl, hx⟩; have hall : Below w.heap.size w w10 := Below.trans (by go_grown) (hx.mono (by go_size)); have hsz : w.heap.size ≤ w10.heap.size := hall.size; clear hx) | (go_at_call 50; refine (m12 _ (hE.up hall)).mono ?_; rintro e w11 ⟨rfl, hx⟩; have hall : Below w.heap.size w w11 := Below.trans (by go_grown) (hx.mono (by go_size)); have hsz : w.heap.size ≤ w11.heap.size := hall.size; clear hx) | (go_at_call 59; refine (m13 _).mono ?_; rintro e w' ⟨rfl, rfl⟩))
  go_ret
  exact ⟨rfl, hall⟩
end Go.Proofs.YthncpapejijloaaGreatDoor
