/- The codes that the program puts and the document's are the same: vcode. -/
import Derived.Test.YthhcdjhdpbkgnaaLsPut
set_option linter.unusedVariables false
set_option linter.unusedSimpArgs false
namespace Go.Proofs.Ythhcdjhdpbkgnaa
open Go Go.LS

end Go.Proofs.Ythhcdjhdpbkgnaa
