import Derived.Test.YtjafokipeodmfaaDoorLsLawsW
set_option linter.unusedVariables false
set_option linter.unusedSimpArgs false
set_option maxRecDepth 100000
set_option linter.unusedSimpArgs false
namespace Go.Proofs.YtjafokipeodmfaaDoor
open Go Go.LS
theorem lives : Runs lp 8 [] [] (.p (.bool true), []) := ⟨30, by kernel_rfl⟩
theorem checked {ns : List (List UInt8)} (hl : ns.length ≤ 140737488355328) : Runs lp 22 [.p (.sl (rowsN ns))] [] (if pathB ns = true then (.tup [.p (.sl (rowsN ns)), .p (.int .i64 0)], []) else (.tup [.p (.sl []), .p (.int .i64 40)], [])) := chk0 (pMay hl)
end Go.Proofs.YtjafokipeodmfaaDoor
