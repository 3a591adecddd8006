import Derived.Test.YtegboccilfofmaaGreatLsSpcW4
set_option linter.unusedVariables false
set_option maxRecDepth 100000
set_option linter.unusedSimpArgs false
namespace Go.Proofs.YtegboccilfofmaaGreat
open Go Go.LS
theorem vcode_len {u : Nat} (h : u < 2 ^ 64) : (As u).length ≤ 10 := by
 rw [Jh, List.length_append]
 have := Hf h
 simp; omega
end Go.Proofs.YtegboccilfofmaaGreat
