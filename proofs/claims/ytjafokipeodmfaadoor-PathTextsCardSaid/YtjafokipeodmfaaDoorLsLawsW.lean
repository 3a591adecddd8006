import Derived.Test.YtjafokipeodmfaaDoorLsPth
import Derived.Test.YtjafokipeodmfaaDoorLsG6
set_option linter.unusedVariables false
set_option linter.unusedSimpArgs false
set_option maxRecDepth 100000
namespace Go.Proofs.YtjafokipeodmfaaDoor
open Go Go.LS
theorem chk0 {ns : List (List UInt8)} (w1 : Runs lp 14 [.p (.sl (rowsN ns))] [] (.p (.bool (pathB ns)), [])) :
    Runs lp 22 [.p (.sl (rowsN ns))] [] (if (pathB ns) = true then ((.tup [.p (.sl (rowsN ns)), .p (.int .i64 0)], [])) else ((.tup [.p (.sl []), .p (.int .i64 40)], []))) := by
  by_cases k1 : (pathB ns) = true
  · refine iteRP k1 ?_
    exact
      runO_sound (N := 100) (os := [(3, oC w1), (1, .b false)]) (ps := [_, _]) (by kernel_rfl) ⟨w1, (cI (notI k1)), trivial⟩
  · refine iteRN k1 ?_
    replace k1 := Bool.eq_false_iff.2 k1
    exact
      runO_sound (N := 100) (os := [(3, oC w1), (1, .b true)]) (ps := [_, _]) (by kernel_rfl) ⟨w1, (cI (notI k1)), trivial⟩
end Go.Proofs.YtjafokipeodmfaaDoor
