import Derived.Test.YtegboccilfofmaaLsLaws
set_option linter.unusedVariables false
set_option maxRecDepth 100000
namespace Go.Proofs.Ytegboccilfofmaa
open Go Go.LS
theorem run4 : ∀ k vs, OkArgs [(true, [.int .i64, .sl [.str] 16, .int .i64, .int .i64, .str, .pr (RecOk Try.prog [25] 12 k 25) 80, .sl [.str] 16, .sl [.str] 16]), (true, [.int .i64, .sl [.str] 16, .int .i64, .int .i64, .str, .pr (RecOk Try.prog [25] 12 k 25) 80, .sl [.str] 16, .sl [.str] 16]), (false, [.str])] vs → ∃ k st', runF lp k 4 vs [] = some (.p (.bool true), st') := by
  intro kk vs h
  obtain ⟨p0, l0, rfl, h0, g0⟩ := okArg h
  obtain ⟨o0, e0, ok0⟩ := okOp1 (fun h => okVals (fun Q => by kernel_rfl) kk h) h0
  have f0 : argLV true p0 = .agg ((rowO o0).map .p) := by rw [e0]; rfl
  rw [f0]
  obtain ⟨p1, l1, rfl, h1, g1⟩ := okArg g0
  obtain ⟨o1, e1, ok1⟩ := okOp1 (fun h => okVals (fun Q => by kernel_rfl) kk h) h1
  have f1 : argLV true p1 = .agg ((rowO o1).map .p) := by rw [e1]; rfl
  rw [f1]
  obtain ⟨p2, l2, rfl, h2, g2⟩ := okArg g1
  obtain ⟨n2, r2, rfl, y2, z2⟩ := okS h2
  obtain rfl := okNil z2
  obtain rfl := okEnd g2
  obtain ⟨m, hm⟩ := specP o0 o1 ok0 ok1 n2 (by simpa [reachBytes] using y2)
  exact ⟨m, _, hm⟩
end Go.Proofs.Ytegboccilfofmaa
