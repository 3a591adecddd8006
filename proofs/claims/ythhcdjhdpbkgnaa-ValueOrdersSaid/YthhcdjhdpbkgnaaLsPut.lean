/- Ways and rounds of the functions that put numbers: printed by put.py. -/
import Derived.Test.YthhcdjhdpbkgnaaLsF
import Derived.Test.YthhcdjhdpbkgnaaLsG5
set_option linter.unusedVariables false
set_option maxRecDepth 100000
namespace Go.Proofs.Ythhcdjhdpbkgnaa
open Go Go.LS

end Go.Proofs.Ythhcdjhdpbkgnaa
