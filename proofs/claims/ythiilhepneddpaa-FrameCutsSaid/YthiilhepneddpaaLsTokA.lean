/- A count's code, whatever the number's form. -/
import Derived.Test.YthiilhepneddpaaLsCrc2
import Derived.Test.YthiilhepneddpaaLsBack
namespace Go.Proofs.Ythiilhepneddpaa
open Go Go.LS
theorem count_runsI {x : Int} (h : 0 ≤ x ∧ x ≤ 4611686018427387904) : Runs lp 17 [.p (.int .i64 x)] [] (.tup [.sl (bs (vcode x.toNat)) 0 (vcode x.toNat).length, .p (.int .i64 0)], [.spare 1 (vcode x.toNat).length]) := by
  have := count_runs (n := x.toNat) (by omega)
  rwa [Int.toNat_of_nonneg h.1] at this
theorem rcount_runsI {x : Int} (h : 0 ≤ x ∧ x ≤ 4611686018427387904) : Runs lp 20 [.p (.int .i64 x)] [] (.sl (bs (vcode x.toNat)) 0 (vcode x.toNat).length, [.spare 1 (vcode x.toNat).length]) := by
  have := rcount_runs (n := x.toNat) (by omega)
  rwa [Int.toNat_of_nonneg h.1] at this
end Go.Proofs.Ythiilhepneddpaa
