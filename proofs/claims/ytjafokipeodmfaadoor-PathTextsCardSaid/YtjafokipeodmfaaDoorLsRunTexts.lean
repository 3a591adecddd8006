import Derived.Test.YtjafokipeodmfaaDoorLsSpl
set_option linter.unusedVariables false
set_option linter.unusedSimpArgs false
set_option maxRecDepth 100000
namespace Go.Proofs.YtjafokipeodmfaaDoor
open Go Go.LS
theorem run4 : ∀ vs, OkArgs [(false, [.sl [.str] 16])] vs → ∃ k st', runF lp k 4 vs [] = some (.p (.bool true), st') := by
  intro vs h
  obtain ⟨p0, l0, rfl, h0, g0⟩ := okArg h
  obtain ⟨e0, r0, rfl, ⟨y0, x0, w0⟩, z0⟩ := okSl h0
  obtain rfl := okNil z0
  obtain ⟨n0, rfl, m0⟩ := okNames w0
  rw [rowsN_len] at y0
  have b0 : n0.length ≤ 140737488355328 := by simp [reachBytes] at y0; omega
  obtain rfl := okEnd g0
  obtain ⟨m, hm⟩ := lawTx b0 (fun x hx => by have := m0 x hx; omega)
  exact ⟨m, _, hm⟩
end Go.Proofs.YtjafokipeodmfaaDoor
