/- What the functions that put numbers and texts come to. -/
import Derived.Test.YthhcdjhdpbkgnaaLsVar
import Derived.Test.YthhcdjhdpbkgnaaLsG6
set_option linter.unusedVariables false
set_option linter.unusedSimpArgs false
namespace Go.Proofs.Ythhcdjhdpbkgnaa
open Go Go.LS

end Go.Proofs.Ythhcdjhdpbkgnaa
