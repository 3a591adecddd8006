import Derived.Test.YtegboccilfofmaaGreatLsLaws
set_option linter.unusedVariables false
set_option maxRecDepth 100000
namespace Go.Proofs.YtegboccilfofmaaGreat
open Go Go.LS
theorem run3 : ∀ k vs, OkArgs [(true, [.bool, .int .i64, .int .i64, .str, .pr (RecOk Tryz.prog [25] 12 k 25) 80, .sl [.str] 16, .sl [.int .i64, .sl [.str] 16, .int .i64, .int .i64, .str, .pr (RecOk Tryz.prog [25] 12 k 25) 80, .sl [.str] 16, .sl [.str] 16] 136]), (false, [.sl [.int .u8] 1])] vs → ∃ k st', D0 lp k 3 vs [] = some (.p (.bool true), st') := by
 intro kk vs h
 obtain ⟨p0, l0, rfl, h0, g0⟩ := okArg h
 obtain ⟨r0, v0, o0, e0, ok0, ook0, ol0⟩ := okSpecA (fun h => okVals (fun Q => by kernel_rfl) kk h) h0
 have e1 : Oo true p0 = .agg ([.p (.bool r0)] ++ (F1 v0).map .p ++ [.p (.sl (Ai o0))]) := by rw [e0]; cases v0; rfl
 rw [e1]
 obtain ⟨p1, l1, rfl, h1, g1⟩ := okArg g0
 obtain ⟨A1, r1, rfl, ⟨x1, -, y1⟩, z1⟩ := okSl h1
 obtain rfl := okNil z1
 obtain ⟨b1, rfl⟩ := T2 y1
 have hb1 : b1.length ≤ 140737488351232 := by simpa [reachBytes, Cl] using x1
 obtain rfl := okEnd g1
 obtain ⟨m, hm⟩ := specC (rb := r0) v0 ok0 ol0 ook0 hb1
 exact ⟨m, _, hm⟩
end Go.Proofs.YtegboccilfofmaaGreat
