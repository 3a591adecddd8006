import Derived.Test.YthhcdjhdpbkgnaaLsMk
set_option linter.unusedVariables false
set_option linter.unusedSimpArgs false
set_option maxRecDepth 100000
namespace Go.Proofs.Ythhcdjhdpbkgnaa
open Go Go.LS
theorem run7 : ∀ k vs, OkArgs [(false, [.int .i64]), (false, [.str]), (false, [.sl [.str] 16]), (false, [.pr (RecOk Try.prog [25] 12 k 25) 80])] vs → ∃ k st', runF lp k 7 vs [] = some (.p (.bool true), st') := by
  intro kk vs h
  obtain ⟨p0, l0, rfl, h0, g0⟩ := okArg h
  obtain ⟨_, _, rfl, ⟨x, rfl, x0, x1⟩, rfl⟩ := h0
  obtain ⟨p1, l1, rfl, h1, g1⟩ := okArg g0
  obtain ⟨_, _, rfl, ⟨s, rfl, s0⟩, rfl⟩ := h1
  obtain ⟨p2, l2, rfl, h2, g2⟩ := okArg g1
  obtain ⟨es1, r1, rfl, ⟨y1, y2, w1⟩, z1⟩ := okSl h2
  obtain rfl := okNil z1
  obtain ⟨n1, rfl, m1⟩ := okNames w1
  rw [rowsN_len] at y1
  obtain ⟨p3, l3, rfl, h3, g3⟩ := okArg g2
  obtain ⟨es3, r3, rfl, ⟨y3, x3, w3⟩, z3⟩ := okPr h3
  obtain rfl := okNil z3
  obtain ⟨is, rfl, his⟩ := okVals (fun Q => by kernel_rfl) kk w3
  rw [rowsV_len] at y3
  obtain rfl := okEnd g3
  obtain ⟨m, hm⟩ := lawMk (x := x) (s := s) (ns := n1) (is := is) ⟨x0, x1⟩ (by simp [reachBytes] at s0; omega) (by simp [reachBytes] at y1; omega) m1 (by simp [reachBytes] at y3; omega) (okL_all.1 his)
  exact ⟨m, _, hm⟩
end Go.Proofs.Ythhcdjhdpbkgnaa
