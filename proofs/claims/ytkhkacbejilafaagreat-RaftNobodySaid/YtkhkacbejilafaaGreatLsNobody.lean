/- The law's run in LS tells true, whatever the arguments are. -/
import Derived.Test.YtkhkacbejilafaaGreatLsF
import Derived.Test.YtkhkacbejilafaaGreatLsG6
import Derived.KernelRfl
set_option linter.unusedVariables false
set_option maxRecDepth 100000
namespace Go.Proofs.YtkhkacbejilafaaGreat
open Go Go.LS
theorem nobody9 (x0 : Int) (x1 : Int) (x2 : Int) (x3 : Int) (x4 : Int) (x5 : Int) (x6 : Int) (x7 : Int) (x8 : Bool) (x9 : List (List PV)) (x10 : List (List PV)) (x11 : Int) (x12 : Int) (x13 : List UInt8) (x14 : List UInt8) (x15 : Int) (x16 : Int) (x17 : List UInt8) (x18 : List (List PV)) (x19 : List (List PV)) (x20 : Int) (x21 : Int) (x22 : List UInt8) (x23 : List (List PV)) (x24 : List (List PV)) (x25 : List (List PV)) (x26 : Int) (x27 : Int) (x28 : Int) :
    runF lp 400 9 [.agg [.p (.int .i64 x0), .p (.int .i64 x1), .p (.int .i64 x2), .p (.int .i64 x3), .p (.int .i64 x4), .p (.int .i64 x5), .p (.int .i64 x6), .p (.int .i64 x7), .p (.bool x8), .p (.sl x9), .p (.sl x10)], .agg [.p (.int .i64 x11), .p (.int .i64 x12), .p (.str x13), .p (.str x14), .p (.int .i64 x15), .p (.int .i64 x16), .p (.str x17), .p (.sl x18), .p (.sl x19), .p (.int .i64 x20), .p (.int .i64 x21), .p (.str x22), .p (.sl x23), .p (.sl x24), .p (.sl x25), .p (.int .i64 x26), .p (.int .i64 x27)], .p (.int .i64 x28)] [] = some (.p (.bool true), []) := by kernel_rfl
theorem run9 : ∀ k vs, OkArgs [(true, [.int .i64, .int .i64, .int .i64, .int .i64, .int .i64, .int .i64, .int .i64, .int .i64, .bool, .sl [.int .i64, .int .i64, .str, .str, .int .i64, .int .i64, .str, .pr (RecOk Tryz.prog [56] 12 k 56) 80, .sl [.str] 16, .int .i64, .int .i64, .str, .pr (RecOk Tryz.prog [56] 12 k 56) 80, .sl [.str] 16, .sl [.int .i64, .sl [.str] 16, .int .i64, .int .i64, .str, .pr (RecOk Tryz.prog [56] 12 k 56) 80, .sl [.str] 16, .int .i64] 120, .int .i64, .int .i64] 248, .sl [.int .u8] 1]), (true, [.int .i64, .int .i64, .str, .str, .int .i64, .int .i64, .str, .pr (RecOk Tryz.prog [56] 12 k 56) 80, .sl [.str] 16, .int .i64, .int .i64, .str, .pr (RecOk Tryz.prog [56] 12 k 56) 80, .sl [.str] 16, .sl [.int .i64, .sl [.str] 16, .int .i64, .int .i64, .str, .pr (RecOk Tryz.prog [56] 12 k 56) 80, .sl [.str] 16, .int .i64] 120, .int .i64, .int .i64]), (false, [.int .i64])] vs → ∃ k st', runF lp k 9 vs [] = some (.p (.bool true), st') := by
  intro k vs h
  obtain ⟨p0, v0, rfl, h0, g0⟩ := okArg h
  obtain ⟨x0, p0, rfl, _, h0⟩ := okI h0
  obtain ⟨x1, p0, rfl, _, h0⟩ := okI h0
  obtain ⟨x2, p0, rfl, _, h0⟩ := okI h0
  obtain ⟨x3, p0, rfl, _, h0⟩ := okI h0
  obtain ⟨x4, p0, rfl, _, h0⟩ := okI h0
  obtain ⟨x5, p0, rfl, _, h0⟩ := okI h0
  obtain ⟨x6, p0, rfl, _, h0⟩ := okI h0
  obtain ⟨x7, p0, rfl, _, h0⟩ := okI h0
  obtain ⟨x8, p0, rfl, _, h0⟩ := okB h0
  obtain ⟨x9, p0, rfl, _, h0⟩ := okSl h0
  obtain ⟨x10, p0, rfl, _, h0⟩ := okSl h0
  obtain rfl := okNil h0
  obtain ⟨p1, v1, rfl, h1, g1⟩ := okArg g0
  obtain ⟨x11, p1, rfl, _, h1⟩ := okI h1
  obtain ⟨x12, p1, rfl, _, h1⟩ := okI h1
  obtain ⟨x13, p1, rfl, _, h1⟩ := okS h1
  obtain ⟨x14, p1, rfl, _, h1⟩ := okS h1
  obtain ⟨x15, p1, rfl, _, h1⟩ := okI h1
  obtain ⟨x16, p1, rfl, _, h1⟩ := okI h1
  obtain ⟨x17, p1, rfl, _, h1⟩ := okS h1
  obtain ⟨x18, p1, rfl, _, h1⟩ := okPr h1
  obtain ⟨x19, p1, rfl, _, h1⟩ := okSl h1
  obtain ⟨x20, p1, rfl, _, h1⟩ := okI h1
  obtain ⟨x21, p1, rfl, _, h1⟩ := okI h1
  obtain ⟨x22, p1, rfl, _, h1⟩ := okS h1
  obtain ⟨x23, p1, rfl, _, h1⟩ := okPr h1
  obtain ⟨x24, p1, rfl, _, h1⟩ := okSl h1
  obtain ⟨x25, p1, rfl, _, h1⟩ := okSl h1
  obtain ⟨x26, p1, rfl, _, h1⟩ := okI h1
  obtain ⟨x27, p1, rfl, _, h1⟩ := okI h1
  obtain rfl := okNil h1
  obtain ⟨p2, v2, rfl, h2, g2⟩ := okArg g1
  obtain ⟨x28, p2, rfl, _, h2⟩ := okI h2
  obtain rfl := okNil h2
  obtain rfl := okEnd g2
  exact ⟨400, [], Eq.trans (b := runF lp 400 9 [.agg [.p (.int .i64 x0), .p (.int .i64 x1), .p (.int .i64 x2), .p (.int .i64 x3), .p (.int .i64 x4), .p (.int .i64 x5), .p (.int .i64 x6), .p (.int .i64 x7), .p (.bool x8), .p (.sl x9), .p (.sl x10)], .agg [.p (.int .i64 x11), .p (.int .i64 x12), .p (.str x13), .p (.str x14), .p (.int .i64 x15), .p (.int .i64 x16), .p (.str x17), .p (.sl x18), .p (.sl x19), .p (.int .i64 x20), .p (.int .i64 x21), .p (.str x22), .p (.sl x23), .p (.sl x24), .p (.sl x25), .p (.int .i64 x26), .p (.int .i64 x27)], .p (.int .i64 x28)] []) (congrArg (fun a => runF lp 400 9 a []) rfl) (nobody9 x0 x1 x2 x3 x4 x5 x6 x7 x8 x9 x10 x11 x12 x13 x14 x15 x16 x17 x18 x19 x20 x21 x22 x23 x24 x25 x26 x27 x28)⟩
end Go.Proofs.YtkhkacbejilafaaGreat
