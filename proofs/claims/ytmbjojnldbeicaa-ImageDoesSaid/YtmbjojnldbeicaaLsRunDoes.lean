import Derived.Test.YtmbjojnldbeicaaLsIm8
import Derived.Test.YtmbjojnldbeicaaLsG5
set_option linter.unusedVariables false
set_option linter.unusedSimpArgs false
set_option maxRecDepth 100000
namespace Go.Proofs.Ytmbjojnldbeicaa
open Go Go.LS
theorem run3 : ∀ k vs, OkArgs [(false, [.int .i64]), (false, [.int .i64]), (false, [.sl [.int .i64, .int .i64, .int .i64, .str, .pr (RecOk Try.prog [36] 12 k 36) 80, .sl [.str] 16, .bool] 96]), (false, [.int .i64])] vs → ∃ k st', Dr lp k 3 vs [] = some (.p (.bool true), st') := by
 intro kk vs h
 obtain ⟨p0, l0, rfl, h0, g0⟩ := Ww h
 obtain ⟨_, _, rfl, ⟨c0, rfl, u0, w0⟩, rfl⟩ := h0
 obtain ⟨p1, l1, rfl, h1, g1⟩ := Ww g0
 obtain ⟨_, _, rfl, ⟨c1, rfl, u1, w1⟩, rfl⟩ := h1
 obtain ⟨p2, l2, rfl, h2, g2⟩ := Ww g1
 obtain ⟨A2, r2, rfl, ⟨-, -, y2⟩, z2⟩ := okSl h2
 obtain rfl := okNil z2
 obtain ⟨ops, rfl, hops⟩ := okOpsI (fun h => okVals (fun Q => by kernel_rfl) kk h) y2
 obtain ⟨p3, l3, rfl, h3, g3⟩ := Ww g2
 obtain ⟨_, _, rfl, ⟨c3, rfl, u3, w3⟩, rfl⟩ := h3
 obtain rfl := okEnd g3
 obtain ⟨st, m, hm⟩ := lawDo (kp := c0) (b := c1) (i := c3) hops
 exact ⟨m, st, hm⟩
end Go.Proofs.Ytmbjojnldbeicaa
