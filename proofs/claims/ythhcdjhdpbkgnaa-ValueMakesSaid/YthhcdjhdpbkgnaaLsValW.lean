import Derived.Test.YthhcdjhdpbkgnaaLsG5
import Derived.Test.YthhcdjhdpbkgnaaLsNm2
import Derived.Test.YthhcdjhdpbkgnaaLsG6
set_option linter.unusedVariables false
set_option linter.unusedSimpArgs false
set_option maxRecDepth 100000
namespace Go.Proofs.Ythhcdjhdpbkgnaa
open Go Go.LS
end Go.Proofs.Ythhcdjhdpbkgnaa
