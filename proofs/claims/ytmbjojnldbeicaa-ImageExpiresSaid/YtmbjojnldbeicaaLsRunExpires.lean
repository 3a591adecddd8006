import Derived.Test.YtmbjojnldbeicaaLsExp
set_option linter.unusedVariables false
set_option linter.unusedSimpArgs false
set_option maxRecDepth 100000
namespace Go.Proofs.Ytmbjojnldbeicaa
open Go Go.LS
theorem run6 : ∀ k vs, OkArgs [(false, [.int .i64]), (true, [.int .i64, .int .i64, .str, .pr (RecOk Try.prog [36] 12 k 36) 80, .sl [.str] 16]), (false, [.int .i64])] vs → ∃ k st', runF lp k 6 vs [] = some (.p (.bool true), st') := by
  intro kk vs h
  obtain ⟨p0, l0, rfl, h0, g0⟩ := okArg h
  obtain ⟨_, _, rfl, ⟨c0, rfl, u0, w0⟩, rfl⟩ := h0
  obtain ⟨p1, l1, rfl, h1, g1⟩ := okArg g0
  obtain ⟨v1, e1, ok1⟩ := okValA (fun h => okVals (fun Q => by kernel_rfl) kk h) h1
  have f1 : argLV true p1 = encV v1 := e1
  rw [f1]
  obtain ⟨p2, l2, rfl, h2, g2⟩ := okArg g1
  obtain ⟨_, _, rfl, ⟨c2, rfl, u2, w2⟩, rfl⟩ := h2
  obtain rfl := okEnd g2
  obtain ⟨m, hm⟩ := lawEx (kp := c0) (cn := c2) ok1
  exact ⟨m, _, hm⟩
end Go.Proofs.Ytmbjojnldbeicaa
