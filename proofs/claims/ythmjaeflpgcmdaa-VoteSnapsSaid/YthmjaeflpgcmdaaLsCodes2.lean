import Derived.Test.YthmjaeflpgcmdaaLsVar
import Derived.Test.YthmjaeflpgcmdaaLsG6
set_option linter.unusedVariables false
set_option linter.unusedSimpArgs false
namespace Go.Proofs.Ythmjaeflpgcmdaa
open Go Go.LS
def zz (x : Int) : Nat := if 0 ≤ x then (2 * x).toNat else (-(2 * x) - 1).toNat
theorem Tb {n : Nat} (h : n ≤ 4611686018427387904) : Runs lp 21 [.p (.int .i64 n)] [] (.tup [.sl (bs (Av n)) 0 (Av n).length, .p (.int .i64 0)], [.spare 1 (Av n).length]) := by
 refine Xq (by simp) (by simp; omega) ?_
 rw [D5 (by omega)]
 exact Xt (by omega)
end Go.Proofs.Ythmjaeflpgcmdaa
