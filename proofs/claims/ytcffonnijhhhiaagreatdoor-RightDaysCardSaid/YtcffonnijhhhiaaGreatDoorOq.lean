/- Arguments of the laws, opened: a deal. -/
import Derived.Test.YtcffonnijhhhiaaGreatDoorU35
import Derived.Test.YtcffonnijhhhiaaGreatDoorCm
set_option linter.all false
set_option linter.unusedSimpArgs false
set_option linter.unusedVariables false
set_option linter.unusedSectionVars false
namespace Go.Proofs.YtcffonnijhhhiaaGreatDoor
open Go.RowKit Go.ChangeShapes Go.WideShapes Go.Deep

set_option maxRecDepth 100000 in
theorem open_deal {H : Type} {enc : TypeId × Value → H} {W : World} {base : Nat} {r : Reach} {v : Value} {d : DataW H} {p : List MemPlace} (hval : Value.okWide Tryz.prog W r base 24 v) (h : DataW.Trod enc Tryz.prog W 0 (fun _ => true) true 24 v d p) :
    ∃ p : Dp, v = .agg (xcs p.x p.A1 p.A2 p.c1 p.c2) ∧ Dpo W W.heap.size p := by
  obtain ⟨cs, rfl, hsz⟩ := okWide_struct Tryz.underlying24 hval
  obtain ⟨fuel, hf⟩ := h
  obtain ⟨x, hx, h1, h2, h3, h4⟩ := trod_deal fuel _ _ hf
  refine ⟨x, ?_, ⟨h1, h2, h3, h4⟩⟩
  have : cs.toList = encD x := by simpa [Value.cells] using hx
  cases cs
  simp [encD] at this
  subst this
  rfl
end Go.Proofs.YtcffonnijhhhiaaGreatDoor
