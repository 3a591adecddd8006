import Derived.Test.YtegboccilfofmaaGreatLsLaws
set_option linter.unusedVariables false
set_option maxRecDepth 100000
namespace Go.Proofs.YtegboccilfofmaaGreat
open Go Go.LS
theorem run4 : ∀ vs, OkArgs [(false, [.sl [.int .u8] 1]), (false, [.int .i64])] vs → ∃ k st', Du lp k 4 vs [] = some (.p (.bool true), st') := by
 intro vs h
 obtain ⟨p0, l0, rfl, h0, g0⟩ := okArg h
 obtain ⟨A0, r0, rfl, ⟨x0, -, y0⟩, z0⟩ := okSl h0
 obtain rfl := okNil z0
 obtain ⟨b0, rfl⟩ := T1 y0
 have hb0 : b0.length ≤ 140737488351232 := by simpa [reachBytes, Bz] using x0
 obtain ⟨p1, l1, rfl, h1, g1⟩ := okArg g0
 obtain ⟨n1, r1, rfl, y1, z1⟩ := okI h1
 obtain rfl := okNil z1
 obtain rfl := okEnd g1
 obtain ⟨m, hm⟩ := specR b0 n1
 exact ⟨m, _, hm⟩
end Go.Proofs.YtegboccilfofmaaGreat
