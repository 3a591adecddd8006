/- Chapter 10's lives tells true. -/
import Derived.Test.YthiilhepneddpaaLsF
import Derived.Test.YthiilhepneddpaaLsG5
namespace Go.Proofs.Ythiilhepneddpaa
open Go Go.LS
theorem lives_runs : Runs lp 7 [] [] (.p (.bool true), []) := ⟨200, by kernel_rfl⟩
end Go.Proofs.Ythiilhepneddpaa
