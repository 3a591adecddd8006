import Derived.Test.YtpkmddkodchanaaLsLaw5
import Derived.Test.YtpkmddkodchanaaLsTre2
set_option linter.unusedVariables false
set_option linter.unusedSimpArgs false
set_option maxRecDepth 100000
namespace Go.Proofs.Ytpkmddkodchanaa
open Go Go.LS
theorem run5 : ∀ k vs, OkArgs [(true, [.int .i64, .int .i64, .str, .pr (RecOk Try.prog [25] 12 k 25) 80, .sl [.str] 16]), (false, [.sl [.str] 16]), (false, [.sl [.str] 16]), (true, [.int .i64, .int .i64, .str, .pr (RecOk Try.prog [25] 12 k 25) 80, .sl [.str] 16]), (false, [.int .i64])] vs → ∃ k st', runF lp k 5 vs [] = some (.p (.bool true), st') := by
  intro kk vs h
  obtain ⟨p0, l0, rfl, h0, g0⟩ := okArg h
  obtain ⟨v0, e0, ok0⟩ := okValA (fun h => okVals (fun Q => by kernel_rfl) kk h) h0
  have e1 : argLV true p0 = encV v0 := e0
  rw [e1]
  obtain ⟨p1, l1, rfl, h1, g1⟩ := okArg g0
  obtain ⟨es1, r1, rfl, ⟨y1, x1, w1⟩, z1⟩ := okSl h1
  obtain rfl := okNil z1
  obtain ⟨n1, rfl, m1⟩ := okNames w1
  rw [rowsN_len] at y1
  have b1 : n1.length ≤ 140737488355328 := by simp [reachBytes] at y1; omega
  obtain ⟨p2, l2, rfl, h2, g2⟩ := okArg g1
  obtain ⟨es2, r2, rfl, ⟨y2, x2, w2⟩, z2⟩ := okSl h2
  obtain rfl := okNil z2
  obtain ⟨n2, rfl, m2⟩ := okNames w2
  rw [rowsN_len] at y2
  have b2 : n2.length ≤ 140737488355328 := by simp [reachBytes] at y2; omega
  obtain ⟨p3, l3, rfl, h3, g3⟩ := okArg g2
  obtain ⟨v3, e3, ok3⟩ := okValA (fun h => okVals (fun Q => by kernel_rfl) kk h) h3
  have f3 : argLV true p3 = encV v3 := e3
  rw [f3]
  obtain ⟨p4, l4, rfl, h4, g4⟩ := okArg g3
  obtain ⟨_, _, rfl, ⟨c4, rfl, _, _⟩, rfl⟩ := h4
  obtain rfl := okEnd g4
  obtain ⟨m, hm⟩ := lawKeepsR ok0 ok3 b1 m1 b2 m2
  exact ⟨m, _, hm⟩
end Go.Proofs.Ytpkmddkodchanaa
