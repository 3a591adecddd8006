import Derived.Test.YtmbjojnldbeicaaLsIm6
import Derived.Test.YtmbjojnldbeicaaLsG5
set_option linter.unusedVariables false
set_option linter.unusedSimpArgs false
set_option maxRecDepth 100000
namespace Go.Proofs.Ytmbjojnldbeicaa
open Go Go.LS
theorem run5 : ∀ vs, OkArgs [(false, [.sl [.int .u8] 1]), (false, [.int .i64])] vs → ∃ k st', C0 lp k 5 vs [] = some (.p (.bool true), st') := by
 intro vs h
 obtain ⟨p0, l0, rfl, h0, g0⟩ := okArg h
 obtain ⟨A0, r0, rfl, ⟨x0, -, y0⟩, z0⟩ := okSl h0
 obtain rfl := okNil z0
 obtain ⟨b0, rfl⟩ := To y0
 obtain ⟨p1, l1, rfl, h1, g1⟩ := okArg g0
 obtain ⟨_, _, rfl, ⟨c1, rfl, u1, w1⟩, rfl⟩ := h1
 obtain rfl := okEnd g1
 obtain ⟨st, m, hm⟩ := lawRe (Bb := b0) (i := c1)
 exact ⟨m, st, hm⟩
end Go.Proofs.Ytmbjojnldbeicaa
