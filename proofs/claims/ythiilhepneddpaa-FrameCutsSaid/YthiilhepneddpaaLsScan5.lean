/- Frames that are put: ways, printed by symex.py. -/
import Derived.Test.YthiilhepneddpaaLsScan4
set_option linter.unusedVariables false
set_option maxRecDepth 100000
namespace Go.Proofs.Ythiilhepneddpaa
open Go Go.LS


theorem ef_get {A : List (List UInt8)} {i : Nat} (h : i < A.length) : (ef A)[i]? = some [.sl (bs (List.getD A i []))] := by simp [ef, h]

theorem vScan_t : Runs lp 13 [.tight []] [] (.tup [.tight [], .p (.int .i64 0)], []) := ⟨200, by kernel_rfl⟩
end Go.Proofs.Ythiilhepneddpaa
