import Derived.Test.YthhcdjhdpbkgnaaLsNm
set_option linter.unusedVariables false
set_option linter.unusedSimpArgs false
namespace Go.Proofs.Ythhcdjhdpbkgnaa
open Go Go.LS
end Go.Proofs.Ythhcdjhdpbkgnaa
