/- Arguments of the laws, opened: a roll. -/
import Derived.Test.YtcffonnijhhhiaaGreatDoorU35
import Derived.Test.YtcffonnijhhhiaaGreatDoorWs
set_option linter.all false
set_option linter.unusedSimpArgs false
set_option linter.unusedVariables false
set_option linter.unusedSectionVars false
namespace Go.Proofs.YtcffonnijhhhiaaGreatDoor
open Go.RowKit Go.ChangeShapes Go.WideShapes Go.Deep

section
variable {H : Type} {enc : TypeId × Value → H} {W : World} {base : Nat} {r : Reach}
set_option maxRecDepth 100000 in
theorem trod_hold (fuel : Nat) (cs : List Value) (y : DataW H × List MemPlace) (h : DataW.trod enc Tryz.prog W 0 (fun _ => true) true fuel 59 cs = some y) : ∃ p : Int × Int, cs = encH p := by
  obtain ⟨xs, n, rfl, hx, hlen, hxl, hf⟩ := DataW.trod_struct Tryz.underlying59 h
  rw [show Tryz.prog.cellsOf 59 = 2 by kernel_rfl] at hlen
  have k : Tryz.prog.cellsOf 3 = 1 := by kernel_rfl
  match cs, hlen, xs, hxl with
  | [c0, c1], _, [x0, x1], _ =>
    have h0 := hf 0 _ rfl
    have h1 := hf 1 _ rfl
    simp [k] at h0 h1
    obtain ⟨a0, e0, _, _⟩ := DataW.trod_int Tryz.underlying3 h0
    obtain ⟨a1, e1, _, _⟩ := DataW.trod_int Tryz.underlying3 h1
    simp at e0 e1
    exact ⟨(a0, a1), by simp [encH, e0, e1]⟩
set_option maxRecDepth 100000 in
theorem trod_ease (fuel : Nat) (cs : List Value) (y : DataW H × List MemPlace) (h : DataW.trod enc Tryz.prog W 0 (fun _ => true) true fuel 71 cs = some y) : ∃ p : Rt.Ease, cs = encE p := by
  obtain ⟨xs, n, rfl, hx, hlen, hxl, hf⟩ := DataW.trod_struct Tryz.underlying71 h
  rw [show Tryz.prog.cellsOf 71 = 3 by kernel_rfl] at hlen
  have k : Tryz.prog.cellsOf 3 = 1 := by kernel_rfl
  match cs, hlen, xs, hxl with
  | [c0, c1, c2], _, [x0, x1, x2], _ =>
    have h0 := hf 0 _ rfl
    have h1 := hf 1 _ rfl
    have h2 := hf 2 _ rfl
    simp [k] at h0 h1 h2
    obtain ⟨a0, e0, _, _⟩ := DataW.trod_int Tryz.underlying3 h0
    obtain ⟨a1, e1, _, _⟩ := DataW.trod_int Tryz.underlying3 h1
    obtain ⟨a2, e2, _, _⟩ := DataW.trod_int Tryz.underlying3 h2
    simp at e0 e1 e2
    exact ⟨⟨a0, a1, a2⟩, by simp [encE, e0, e1, e2]⟩
set_option maxRecDepth 100000 in
theorem trod_stint (fuel : Nat) (cs : List Value) (y : DataW H × List MemPlace) (h : DataW.trod enc Tryz.prog W 0 (fun _ => true) true fuel 119 cs = some y) : ∃ p : Rt.Stint, cs = encS p := by
  obtain ⟨xs, n, rfl, hx, hlen, hxl, hf⟩ := DataW.trod_struct Tryz.underlying119 h
  rw [show Tryz.prog.cellsOf 119 = 4 by kernel_rfl] at hlen
  have k : Tryz.prog.cellsOf 3 = 1 := by kernel_rfl
  match cs, hlen, xs, hxl with
  | [c0, c1, c2, c3], _, [x0, x1, x2, x3], _ =>
    have h0 := hf 0 _ rfl
    have h1 := hf 1 _ rfl
    have h2 := hf 2 _ rfl
    have h3 := hf 3 _ rfl
    simp [k] at h0 h1 h2 h3
    obtain ⟨a0, e0, _, _⟩ := DataW.trod_int Tryz.underlying3 h0
    obtain ⟨a1, e1, _, _⟩ := DataW.trod_int Tryz.underlying3 h1
    obtain ⟨a2, e2, _, _⟩ := DataW.trod_int Tryz.underlying3 h2
    obtain ⟨a3, e3, _, _⟩ := DataW.trod_int Tryz.underlying3 h3
    simp at e0 e1 e2 e3
    exact ⟨⟨a0, a1, a2, a3⟩, by simp [encS, e0, e1, e2, e3]⟩
set_option maxRecDepth 100000 in
theorem trod_lot (fuel : Nat) (cs : List Value) (y : DataW H × List MemPlace) (h : DataW.trod enc Tryz.prog W 0 (fun _ => true) true fuel 54 cs = some y) :
    ∃ p : Lp, cs = encL p ∧ (Seg encH 2 W W.heap.size p.A p.x.held ∧ p.x.held.length ≤ p.c ∧ p.c ≤ maxLen) := by
  obtain ⟨xs, n, rfl, hx, hlen, hxl, hf⟩ := DataW.trod_struct Tryz.underlying54 h
  rw [show Tryz.prog.cellsOf 54 = 3 by kernel_rfl] at hlen
  have k : Tryz.prog.cellsOf 3 = 1 := by kernel_rfl
  have k2 : Tryz.prog.cellsOf 52 = 1 := by kernel_rfl
  match cs, hlen, xs, hxl with
  | [c0, c1, c2], _, [x0, x1, x2], _ =>
    have h0 := hf 0 _ rfl
    have h1 := hf 1 _ rfl
    have h2 := hf 2 _ rfl
    simp [k, k2] at h0 h1 h2
    obtain ⟨a0, e0, _, _⟩ := DataW.trod_int Tryz.underlying3 h0
    obtain ⟨a1, e1, _, _⟩ := DataW.trod_int Tryz.underlying3 h1
    obtain ⟨A, l, c, e2, s2, m2, m3⟩ := seg_of (encE := encH) (n := 2) Tryz.underlying52 (by kernel_rfl) (by decide) trod_hold (fun _ => rfl) h2
    simp at e0 e1 e2
    exact ⟨⟨⟨a0, a1, l⟩, A, c⟩, by simp [encL, e0, e1, e2], s2, m2, m3⟩
set_option maxRecDepth 100000 in
theorem open_roll {v : Value} {d : DataW H} {p : List MemPlace} (hval : Value.okWide Tryz.prog W r base 50 v) (h : DataW.Trod enc Tryz.prog W 0 (fun _ => true) true 50 v d p) :
    ∃ (A1 A2 A3 : Option Addr) (c1 c2 c3 : Nat) (L : List Lp) (r : Rt.Roll), v = .agg (rowR r A1 A2 A3 c1 c2 c3) ∧ Rolo W W.heap.size A1 A2 A3 L r := by
  obtain ⟨cs, rfl, hsz⟩ := okWide_struct Tryz.underlying50 hval
  obtain ⟨fuel, hf⟩ := h
  obtain ⟨xs, n, e, hx, hlen, hxl, hf⟩ := DataW.trod_struct Tryz.underlying50 hf
  simp only [Value.cells] at hlen hf
  rw [show Tryz.prog.cellsOf 50 = 3 by kernel_rfl] at hlen
  have k1 : Tryz.prog.cellsOf 46 = 1 := by kernel_rfl
  have k2 : Tryz.prog.cellsOf 47 = 1 := by kernel_rfl
  have k3 : Tryz.prog.cellsOf 48 = 1 := by kernel_rfl
  obtain ⟨cs⟩ := cs
  match cs, hlen, xs, hxl with
  | [d0, d1, d2], _, [x0, x1, x2], _ =>
    have h0 := hf 0 _ rfl
    have h1 := hf 1 _ rfl
    have h2 := hf 2 _ rfl
    simp [k1, k2, k3] at h0 h1 h2
    obtain ⟨A1, L, c1, e1, s1, m1, n1, q1⟩ := seg_ofP (encE := encL) (n := 3) Tryz.underlying46 (by kernel_rfl) (by decide) trod_lot (fun _ => rfl) h0
    obtain ⟨A2, le, c2, e2, s2, m2, n2⟩ := seg_of (encE := encE) (n := 3) Tryz.underlying47 (by kernel_rfl) (by decide) trod_ease (fun _ => rfl) h1
    obtain ⟨A3, ls, c3, e3, s3, m3, n3⟩ := seg_of (encE := encS) (n := 4) Tryz.underlying48 (by kernel_rfl) (by decide) trod_stint (fun _ => rfl) h2
    simp at e1 e2 e3
    subst e1 e2 e3
    exact ⟨A1, A2, A3, c1, c2, c3, L, ⟨lts L, le, ls⟩, by simp [rowR], ⟨⟨⟨s1, fun p hp => ⟨(q1 p hp).1, (q1 p hp).2.1⟩⟩, rfl, s2, s3⟩, by simpa using Nat.le_trans m1 n1, Nat.le_trans m2 n2, Nat.le_trans m3 n3, fun p hp => Nat.le_trans (q1 p hp).2.1 (q1 p hp).2.2⟩⟩
end
end Go.Proofs.YtcffonnijhhhiaaGreatDoor
