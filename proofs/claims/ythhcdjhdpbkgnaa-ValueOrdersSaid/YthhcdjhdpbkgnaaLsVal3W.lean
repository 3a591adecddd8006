/- Values: ways, printed by symex.py. -/
import Derived.Test.YthhcdjhdpbkgnaaLsVal2W
set_option linter.unusedVariables false
set_option maxRecDepth 100000
namespace Go.Proofs.Ythhcdjhdpbkgnaa
open Go Go.LS

end Go.Proofs.Ythhcdjhdpbkgnaa
