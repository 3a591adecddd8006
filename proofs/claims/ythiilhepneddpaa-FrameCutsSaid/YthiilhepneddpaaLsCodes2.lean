/- What the functions that put numbers and texts come to. -/
import Derived.Test.YthiilhepneddpaaLsVar
import Derived.Test.YthiilhepneddpaaLsG5
set_option linter.unusedVariables false
set_option linter.unusedSimpArgs false
namespace Go.Proofs.Ythiilhepneddpaa
open Go Go.LS

theorem rcount_runs {n : Nat} (h : n < 2 ^ 64) : Runs lp 20 [.p (.int .i64 n)] [] (.sl (bs (vcode n)) 0 (vcode n).length, [.spare 1 (vcode n).length]) := by
  refine rcount_fn ?_
  rw [wrap_u64_nat h]
  exact grp_runs h

theorem count_runs {n : Nat} (h : n ≤ 4611686018427387904) : Runs lp 17 [.p (.int .i64 n)] [] (.tup [.sl (bs (vcode n)) 0 (vcode n).length, .p (.int .i64 0)], [.spare 1 (vcode n).length]) := by
  refine count_ok (by simp) (by simp; omega) ?_
  rw [wrap_u64_nat (by omega)]
  exact put_runs (by omega)

end Go.Proofs.Ythiilhepneddpaa
