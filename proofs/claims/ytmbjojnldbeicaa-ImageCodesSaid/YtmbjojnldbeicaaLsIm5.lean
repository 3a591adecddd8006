import Derived.Test.YtmbjojnldbeicaaLsIm4
set_option linter.unusedVariables false
set_option linter.unusedSimpArgs false
set_option maxRecDepth 100000
namespace Go.Proofs.Ytmbjojnldbeicaa
open Go Go.LS
structure Rel (kp b t : Int) (R : List (Option Val)) (xb : Int) (L : List (Option Val)) : Prop where
  inv : InvI kp t R xb L
  base : BaseI kp b t xb
  bnd : BndX kp xb L
  okr : okR kp R
theorem Rel.get {kp b t xb : Int} {R L : List (Option Val)} (h : Rel kp b t R xb L) (i : Int) : getI kp b t R i = getX kp xb L i := get_eq h.inv h.base i
theorem Rel.nums {kp b t xb : Int} {R L : List (Option Val)} (h : Rel kp b t R xb L) : (0 ≤ kp ∧ kp ≤ 64) ∧ (0 ≤ b ∧ b ≤ xb ∧ b ≤ 1000000000000000) ∧ t = topX xb L ∧ 0 ≤ t ∧ t ≤ 1000000000000000 := by
  have a := h.bnd.k0; have b1 := h.bnd.k1; have c := h.bnd.b0; have d := h.bnd.b1; have e := h.bnd.l1
  obtain ⟨f, g, _⟩ := h.base
  have i := h.inv.top
  refine ⟨⟨a, b1⟩, ⟨f, g, by omega⟩, i, by omega, by omega⟩
end Go.Proofs.Ytmbjojnldbeicaa
