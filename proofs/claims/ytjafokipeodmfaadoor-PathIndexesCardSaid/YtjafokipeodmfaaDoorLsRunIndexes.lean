import Derived.Test.YtjafokipeodmfaaDoorLsLaws
set_option linter.unusedVariables false
set_option maxRecDepth 100000
namespace Go.Proofs.YtjafokipeodmfaaDoor
open Go Go.LS
theorem run5 : ∀ vs, OkArgs [(false, [.str])] vs → ∃ k st', runF lp k 5 vs [] = some (.p (.bool true), st') := by
  intro vs h
  obtain ⟨p0, l0, rfl, h0, g0⟩ := okArg h
  obtain ⟨n0, r0, rfl, y0, z0⟩ := okS h0
  obtain rfl := okNil z0
  obtain rfl := okEnd g0
  obtain ⟨m, hm⟩ := lawIx n0
  exact ⟨m, _, hm⟩
end Go.Proofs.YtjafokipeodmfaaDoor
