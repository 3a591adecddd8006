import Derived.Test.YtgdbbmckmphnhaaLsF
import Derived.Test.YtgdbbmckmphnhaaLsG7
import Derived.KernelRfl
set_option linter.unusedVariables false
set_option maxRecDepth 100000
namespace Go.Proofs.Ytgdbbmckmphnhaa
open Go Go.LS
theorem nobody4 (x0 : Int) (x1 : List UInt8) (x2 : List UInt8) (x3 : List (List PV)) (x4 : Int) (x5 : Int) (x6 : List (List PV)) :
    runF lp 400 4 [.agg [.p (.int .i64 x0), .p (.str x1), .p (.str x2), .p (.sl x3), .p (.int .i64 x4), .p (.int .i64 x5), .p (.sl x6)]] [] = some (.p (.bool true), []) := by kernel_rfl
theorem run4 : ∀ vs, OkArgs [(true, [.int .i64, .str, .str, .sl [.int .u8] 1, .int .i64, .int .i64, .sl [.str, .int .i64] 24])] vs → ∃ k st', runF lp k 4 vs [] = some (.p (.bool true), st') := by
  intro vs h
  obtain ⟨p0, v0, rfl, h0, g0⟩ := okArg h
  obtain ⟨x0, p0, rfl, _, h0⟩ := okI h0
  obtain ⟨x1, p0, rfl, _, h0⟩ := okS h0
  obtain ⟨x2, p0, rfl, _, h0⟩ := okS h0
  obtain ⟨x3, p0, rfl, _, h0⟩ := okSl h0
  obtain ⟨x4, p0, rfl, _, h0⟩ := okI h0
  obtain ⟨x5, p0, rfl, _, h0⟩ := okI h0
  obtain ⟨x6, p0, rfl, _, h0⟩ := okSl h0
  obtain rfl := okNil h0
  obtain rfl := okEnd g0
  exact ⟨400, [], Eq.trans (b := runF lp 400 4 [.agg [.p (.int .i64 x0), .p (.str x1), .p (.str x2), .p (.sl x3), .p (.int .i64 x4), .p (.int .i64 x5), .p (.sl x6)]] []) (congrArg (fun a => runF lp 400 4 a []) rfl) (nobody4 x0 x1 x2 x3 x4 x5 x6)⟩
end Go.Proofs.Ytgdbbmckmphnhaa
