/- Arguments of the laws, opened; and carried to the end of a call. -/
import Derived.Test.YthncpapejijloaaGreatDoorWrap
import Derived.Deep.Slices
import Derived.OpenShut
import Derived.Carry
import Derived.ChangeMaps5
import Derived.Test.YthncpapejijloaaGreatDoorAB
namespace Go.Proofs.YthncpapejijloaaGreatDoor
open Go.RowKit Go.ChangeShapes Go.WideShapes Go.Deep

section
variable {H : Type} {enc : TypeId × Value → H} {W W' : World} {base : Nat} {r : Reach}

/-- All arguments read behind the call as they did, if nothing below has turned. -/
theorem trodAll_below {P : Program} (hl : laidOutB P = true) : ∀ {ts : List TypeId} {vs : List Value} {ds : List (DataW H)} {ps : List MemPlace}, (∀ t ∈ ts, P.readableRec t = true ∧ t < P.types.size) →
    DataW.TrodAll enc P W 0 (fun _ => true) true ts vs ds ps → Below W.heap.size W W' → (∀ x ∈ ps, x.block < W.heap.size) → DataW.TrodAll enc P W' 0 (fun b => decide (b < W.heap.size)) true ts vs ds ps
  | [], [], [], _, _, h, _, _ => h
  | _ :: _, _ :: _, _ :: _, _, hT, ⟨p, q, h1, h2, e⟩, hb, hlt =>
    ⟨p, q, Below.trod hl (hT _ (List.mem_cons.2 (Or.inl rfl))).1 (hT _ (List.mem_cons.2 (Or.inl rfl))).2 h1 hb (fun x hx => hlt x (by rw [e]; exact List.mem_append_left _ hx)),
      trodAll_below hl (fun t ht => hT t (List.mem_cons.2 (Or.inr ht))) h2 hb (fun x hx => hlt x (by rw [e]; exact List.mem_append_right _ hx)), e⟩
theorem list_of {α : Type} {p : Nat → α → Prop} : ∀ n, (∀ i, i < n → ∃ x, p i x) → ∃ l : List α, l.length = n ∧ ∀ i x, l[i]? = some x → p i x
  | 0, _ => ⟨[], rfl, by simp⟩
  | n + 1, h => by
    obtain ⟨l, hl, hp⟩ := list_of n (fun i hi => h i (by omega))
    obtain ⟨x, hx⟩ := h n (by omega)
    refine ⟨l ++ [x], by simp [hl], fun i y hy => ?_⟩
    by_cases hi : i < n
    · rw [List.getElem?_append_left (by omega)] at hy; exact hp i y hy
    · rw [List.getElem?_append_right (by omega)] at hy
      obtain rfl : i = n := by
        have := (List.getElem?_eq_some_iff.1 hy).1; simp at this; omega
      simp [hl] at hy; subst hy; exact hx
theorem plain_at {w : World} {a : Addr} {v : Value} (h : w.cell? (a.add 0) = some v) : ∃ b off, a = ⟨b, off, none⟩ := by
  obtain ⟨b, off, spot⟩ := a
  have hspot : spot = none := by simpa [Addr.add] using World.cell?_spot h
  subst hspot
  exact ⟨b, off, rfl⟩
/-- A slice whose elements are of one make, opened as a list. -/
theorem open_seg {P : Program} {α : Type} {encE : α → List Value} {n : Nat} {t e : TypeId} {v : Value} {d : DataW H} {p : List MemPlace} (ht : P.underlying t = some (.slice e)) (hc : P.cellsOf e = n) (hn : 0 < n)
    (hel : ∀ fuel cs y, DataW.trod enc P W 0 (fun _ => true) true fuel e cs = some y → ∃ x : α, cs = encE x)
    (hsz : ∀ x, (encE x).length = n)
    (hval : Value.okWide P W r base t v) (h : DataW.Trod enc P W 0 (fun _ => true) true t v d p) :
    ∃ (A : Option Addr) (l : List α) (c : Nat), v = .slice A l.length c ∧ Seg encE n W W.heap.size A l ∧ l.length ≤ maxLen := by
  obtain ⟨a0, len, cap, rfl⟩ := okWide_slice ht hval
  obtain ⟨fuel, hf⟩ := h
  rcases open_slice ht hf with ⟨hcs, hx⟩ | ⟨a, len', cap', m, n', D, Pl, hcs, hb, hl, hm, hmm, hx, hi⟩
  · simp [Value.cells] at hcs
    obtain ⟨rfl, rfl, rfl⟩ := hcs
    exact ⟨none, [], 0, rfl, .inl rfl, by simp⟩
  · simp [Value.cells] at hcs
    obtain ⟨rfl, rfl, rfl⟩ := hcs
    have hm2 : m = cap := by simpa using hmm
    obtain ⟨l, hll, hp⟩ := list_of (p := fun i (x : α) => ∀ j u, (encE x)[j]? = some u → W.cell? (a.add (i * n + j)) = some u) len (by
      intro i hi'
      obtain ⟨cs', hc', ht'⟩ := hi i (by omega)
      obtain ⟨x, rfl⟩ := hel _ _ _ ht'
      obtain ⟨_, hcl, hat⟩ := World.cells?_some hc'
      refine ⟨x, fun j u hu => ?_⟩
      have hj : j < n := by have := (List.getElem?_eq_some_iff.1 hu).1; rw [hsz] at this; exact this
      rw [hc] at hat
      rw [← add_add, hat j hj, hu])
    subst hll
    refine ⟨some a, l, cap, rfl, ?_, by omega⟩
    cases l with
    | nil => exact .inl rfl
    | cons x l =>
      have h0 := hp 0 x rfl 0 ((encE x)[0]'(by rw [hsz]; exact hn)) (List.getElem?_eq_getElem _)
      rw [Nat.zero_mul, Nat.add_zero] at h0
      obtain ⟨b, off, rfl⟩ := plain_at h0
      have hblk := block_lt_of_cell h0
      refine .inr ⟨b, off, rfl, by simpa [Addr.add] using hblk, fun k y hy j u hu => ?_⟩
      have := hp k y hy j u hu
      rw [Go.WideShapes.add_plain] at this
      rw [Nat.add_assoc]; exact this

set_option maxRecDepth 100000 in
theorem trod_var {sp : Nat → Bool} {held : Bool} (fuel : Nat) (cs : List Value) (y : DataW H × List MemPlace) (h : DataW.trod enc Tryz.prog W 0 sp held fuel 112 cs = some y) : ∃ x : Int × Int, cs = encVar x := by
  obtain ⟨xs, n, rfl, hx, hlen, hxl, hf⟩ := DataW.trod_struct Tryz.underlying112 h
  rw [show Tryz.prog.cellsOf 112 = 2 by kernel_rfl] at hlen
  have k : Tryz.prog.cellsOf 3 = 1 := by kernel_rfl
  match cs, hlen, xs, hxl with
  | [c0, c1], _, [x0, x1], _ =>
    have h0 := hf 0 _ rfl
    have h1 := hf 1 _ rfl
    simp [k] at h0 h1
    obtain ⟨a0, e0, _, _⟩ := DataW.trod_int Tryz.underlying3 h0
    obtain ⟨a1, e1, _, _⟩ := DataW.trod_int Tryz.underlying3 h1
    simp at e0 e1
    exact ⟨(a0, a1), by simp [encVar, e0, e1]⟩
set_option maxRecDepth 100000 in
theorem trod_crs {sp : Nat → Bool} {held : Bool} (fuel : Nat) (cs : List Value) (y : DataW H × List MemPlace) (h : DataW.trod enc Tryz.prog W 0 sp held fuel 29 cs = some y) : ∃ x : Pl.Crs, cs = encCrs x := by
  obtain ⟨xs, n, rfl, hx, hlen, hxl, hf⟩ := DataW.trod_struct Tryz.underlying29 h
  rw [show Tryz.prog.cellsOf 29 = 6 by kernel_rfl] at hlen
  have k : Tryz.prog.cellsOf 3 = 1 := by kernel_rfl
  have k2 : Tryz.prog.cellsOf 27 = 2 := by kernel_rfl
  match cs, hlen, xs, hxl with
  | [c0, c1, c2, c3, c4, c5], _, [x0, x1, x2, x3, x4], _ =>
    have h0 := hf 0 _ rfl
    have h1 := hf 1 _ rfl
    have h2 := hf 2 _ rfl
    have h3 := hf 3 _ rfl
    have h4 := hf 4 _ rfl
    simp [k] at h0 h1 h2 h3
    simp [k2] at h4
    obtain ⟨a0, e0, _, _⟩ := DataW.trod_int Tryz.underlying3 h0
    obtain ⟨a1, e1, _, _⟩ := DataW.trod_int Tryz.underlying3 h1
    obtain ⟨a2, e2, _, _⟩ := DataW.trod_int Tryz.underlying3 h2
    obtain ⟨a3, e3, _, _⟩ := DataW.trod_int Tryz.underlying3 h3
    obtain ⟨ys, n', _, _, _, hyl, hg⟩ := DataW.trod_struct Tryz.underlying27 h4
    match ys, hyl with
    | [y0, y1], _ =>
      have g0 := hg 0 _ rfl
      have g1 := hg 1 _ rfl
      simp [k] at g0 g1
      obtain ⟨a4, e4, _, _⟩ := DataW.trod_int Tryz.underlying3 g0
      obtain ⟨a5, e5, _, _⟩ := DataW.trod_int Tryz.underlying3 g1
      simp at e0 e1 e2 e3 e4 e5
      exact ⟨⟨a0, a1, a2, a3, a4, a5⟩, by simp [encCrs, e0, e1, e2, e3, e4, e5]⟩
set_option maxRecDepth 100000 in
theorem open_vars {v : Value} {d : DataW H} {p : List MemPlace} (hval : Value.okWide Tryz.prog W r base 25 v) (h : DataW.Trod enc Tryz.prog W 0 (fun _ => true) true 25 v d p) :
    ∃ (A : Option Addr) (l : List (Int × Int)) (c : Nat), v = .slice A l.length c ∧ Vars W W.heap.size A l ∧ l.length ≤ maxLen :=
  open_seg Tryz.underlying25 (by kernel_rfl) (by decide) trod_var (fun _ => rfl) hval h
set_option maxRecDepth 100000 in
theorem open_crss {v : Value} {d : DataW H} {p : List MemPlace} (hval : Value.okWide Tryz.prog W r base 42 v) (h : DataW.Trod enc Tryz.prog W 0 (fun _ => true) true 42 v d p) :
    ∃ (A : Option Addr) (l : List Pl.Crs) (c : Nat), v = .slice A l.length c ∧ Crss W W.heap.size A l ∧ l.length ≤ maxLen :=
  open_seg Tryz.underlying42 (by kernel_rfl) (by decide) trod_crs (fun _ => rfl) hval h
set_option maxRecDepth 100000 in
theorem open_crs {v : Value} {d : DataW H} {p : List MemPlace} (hval : Value.okWide Tryz.prog W r base 29 v) (h : DataW.Trod enc Tryz.prog W 0 (fun _ => true) true 29 v d p) :
    ∃ c : Pl.Crs, v = .agg #[.int .i64 c.b, .int .i64 c.n, .int .i64 c.l, .int .i64 c.y, .int .i64 c.x, .int .i64 c.s] := by
  obtain ⟨cs, rfl, hsz⟩ := okWide_struct Tryz.underlying29 hval
  obtain ⟨fuel, hf⟩ := h
  obtain ⟨x, hx⟩ := trod_crs fuel _ _ hf
  refine ⟨x, ?_⟩
  have : cs.toList = encCrs x := by simpa [Value.cells] using hx
  cases cs
  simp at this
  subst this
  rfl
end
end Go.Proofs.YthncpapejijloaaGreatDoor
