import Derived.Test.YtjafokipeodmfaaDoorLsSpl
set_option linter.unusedVariables false
set_option linter.unusedSimpArgs false
set_option maxRecDepth 100000
namespace Go.Proofs.YtjafokipeodmfaaDoor
open Go Go.LS
theorem run3 : ∀ vs, OkArgs [(false, [.str])] vs → ∃ k st', runF lp k 3 vs [] = some (.p (.bool true), st') := by
  intro vs h
  obtain ⟨p0, l0, rfl, h0, g0⟩ := okArg h
  obtain ⟨n0, r0, rfl, y0, z0⟩ := okS h0
  obtain rfl := okNil z0
  obtain rfl := okEnd g0
  obtain ⟨m, hm⟩ := lawPs (s := n0) (by simp [reachBytes] at y0; omega)
  exact ⟨m, _, hm⟩
end Go.Proofs.YtjafokipeodmfaaDoor
