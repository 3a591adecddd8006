import Derived.Test.YtjafokipeodmfaaDoorLsLaws
set_option linter.unusedVariables false
set_option maxRecDepth 100000
namespace Go.Proofs.YtjafokipeodmfaaDoor
open Go Go.LS
theorem run7 : ∀ vs, OkArgs [(false, [.sl [.str] 16]), (false, [.sl [.str] 16])] vs → ∃ k st', runF lp k 7 vs [] = some (.p (.bool true), st') := by
  intro vs h
  obtain ⟨p0, l0, rfl, h0, g0⟩ := okArg h
  obtain ⟨e0, r0, rfl, ⟨y0, x0, w0⟩, z0⟩ := okSl h0
  obtain rfl := okNil z0
  obtain ⟨n0, rfl, m0⟩ := okNames w0
  rw [rowsN_len] at y0
  have b0 : n0.length ≤ 140737488355328 := by simp [reachBytes] at y0; omega
  obtain ⟨p1, l1, rfl, h1, g1⟩ := okArg g0
  obtain ⟨e1, r1, rfl, ⟨y1, x1, w1⟩, z1⟩ := okSl h1
  obtain rfl := okNil z1
  obtain ⟨n1, rfl, m1⟩ := okNames w1
  rw [rowsN_len] at y1
  have b1 : n1.length ≤ 140737488355328 := by simp [reachBytes] at y1; omega
  obtain rfl := okEnd g1
  obtain ⟨m, hm⟩ := lawJn b0 b1 (fun x hx => by have := m0 x hx; omega) (fun x hx => by have := m1 x hx; omega)
  exact ⟨m, _, hm⟩
end Go.Proofs.YtjafokipeodmfaaDoor
