import Derived.Test.YthhcdjhdpbkgnaaLsF
import Derived.Test.YthhcdjhdpbkgnaaLsG6
import Derived.KernelRfl
namespace Go.Proofs.Ythhcdjhdpbkgnaa
open Go Go.LS
theorem lives9 : runF lp 400 9 [] [] = some (.p (.bool true), []) := by kernel_rfl
end Go.Proofs.Ythhcdjhdpbkgnaa
