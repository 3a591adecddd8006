import Derived.Test.YtpkmddkodchanaaLsLaw5
import Derived.Test.YtpkmddkodchanaaLsTre2
set_option linter.unusedVariables false
set_option linter.unusedSimpArgs false
set_option maxRecDepth 100000
namespace Go.Proofs.Ytpkmddkodchanaa
open Go Go.LS
theorem run7 : ∀ k vs, OkArgs [(true, [.int .i64, .int .i64, .str, .pr (RecOk Try.prog [25] 12 k 25) 80, .sl [.str] 16]), (false, [.sl [.str] 16]), (false, [.int .i64])] vs → ∃ k st', runF lp k 7 vs [] = some (.p (.bool true), st') := by
  intro kk vs h
  obtain ⟨p0, l0, rfl, h0, g0⟩ := okArg h
  obtain ⟨v0, e0, ok0⟩ := okValA (fun h => okVals (fun Q => by kernel_rfl) kk h) h0
  have e1 : argLV true p0 = encV v0 := e0
  rw [e1]
  obtain ⟨p1, l1, rfl, h1, g1⟩ := okArg g0
  obtain ⟨es1, r1, rfl, ⟨y1, x1, w1⟩, z1⟩ := okSl h1
  obtain rfl := okNil z1
  obtain ⟨n1, rfl, m1⟩ := okNames w1
  rw [rowsN_len] at y1
  have b1 : n1.length ≤ 140737488355328 := by simp [reachBytes] at y1; omega
  obtain ⟨p2, l2, rfl, h2, g2⟩ := okArg g1
  obtain ⟨_, _, rfl, ⟨c2, rfl, _, _⟩, rfl⟩ := h2
  obtain rfl := okEnd g2
  obtain ⟨m, hm⟩ := lawCutsR ok0 b1 m1
  exact ⟨m, _, hm⟩
end Go.Proofs.Ytpkmddkodchanaa
