import Derived.Test.YtegboccilfofmaaLsLaws
set_option linter.unusedVariables false
set_option maxRecDepth 100000
namespace Go.Proofs.Ytegboccilfofmaa
open Go Go.LS
theorem run3 : ∀ k vs, OkArgs [(true, [.bool, .int .i64, .int .i64, .str, .pr (RecOk Try.prog [25] 12 k 25) 80, .sl [.str] 16, .sl [.int .i64, .sl [.str] 16, .int .i64, .int .i64, .str, .pr (RecOk Try.prog [25] 12 k 25) 80, .sl [.str] 16, .sl [.str] 16] 136])] vs → ∃ k st', runF lp k 3 vs [] = some (.p (.bool true), st') := by
  intro kk vs h
  obtain ⟨p0, l0, rfl, h0, g0⟩ := okArg h
  obtain ⟨r0, v0, o0, e0, ok0, ook0, ol0⟩ := okSpecA (fun h => okVals (fun Q => by kernel_rfl) kk h) h0
  have e1 : argLV true p0 = .agg ([.p (.bool r0)] ++ (rowV v0).map .p ++ [.p (.sl (rowsO o0))]) := by rw [e0]; cases v0; rfl
  rw [e1]
  obtain rfl := okEnd g0
  obtain ⟨m, hm⟩ := specK (rb := r0) v0 ok0 ol0 ook0
  exact ⟨m, _, hm⟩
end Go.Proofs.Ytegboccilfofmaa
