import Derived.Test.YtmflmbfheaaglaaLsLaws
import Derived.Test.YtmflmbfheaaglaaLsG6
set_option linter.unusedVariables false
set_option maxRecDepth 100000
namespace Go.Proofs.Ytmflmbfheaaglaa
open Go Go.LS
theorem run3 : ∀ k vs, OkArgs [(true, [.int .i64, .int .i64, .str, .pr (RecOk Try.prog [25] 12 k 25) 80, .sl [.str] 16]), (false, [.sl [.int .u8] 1])] vs → ∃ k st', runF lp k 3 vs [] = some (.p (.bool true), st') := by
  intro kk vs h
  obtain ⟨p0, l0, rfl, h0, g0⟩ := okArg h
  obtain ⟨v0, e0, ok0⟩ := okValA (fun h => okVals (fun Q => by kernel_rfl) kk h) h0
  have e0 : argLV true p0 = encV v0 := e0
  rw [e0]
  obtain ⟨p1, l1, rfl, h1, g1⟩ := okArg g0
  obtain ⟨A1, r1, rfl, ⟨x1, -, y1⟩, z1⟩ := okSl h1
  obtain rfl := okNil z1
  obtain ⟨b1, rfl⟩ := okBytes y1
  have hb1 : b1.length ≤ 140737488351232 := by simpa [reachBytes, bs_len] using x1
  obtain rfl := okEnd g1
  obtain ⟨m, hm⟩ := codecE v0 ok0 b1 hb1
  exact ⟨m, _, hm⟩
end Go.Proofs.Ytmflmbfheaaglaa
