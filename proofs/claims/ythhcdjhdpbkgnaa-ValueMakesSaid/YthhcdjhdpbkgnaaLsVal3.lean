import Derived.Test.YthhcdjhdpbkgnaaLsVal2
set_option linter.unusedVariables false
set_option linter.unusedSimpArgs false
set_option maxRecDepth 100000
set_option linter.unusedSimpArgs false
namespace Go.Proofs.Ythhcdjhdpbkgnaa
open Go Go.LS
end Go.Proofs.Ythhcdjhdpbkgnaa
