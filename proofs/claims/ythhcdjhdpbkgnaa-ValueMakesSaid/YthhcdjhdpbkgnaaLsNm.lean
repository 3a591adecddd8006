import Derived.Test.YthhcdjhdpbkgnaaLsLives
import Derived.Test.YthhcdjhdpbkgnaaLsG6
set_option linter.unusedVariables false
set_option maxRecDepth 100000
namespace Go.Proofs.Ythhcdjhdpbkgnaa
open Go Go.LS
end Go.Proofs.Ythhcdjhdpbkgnaa
