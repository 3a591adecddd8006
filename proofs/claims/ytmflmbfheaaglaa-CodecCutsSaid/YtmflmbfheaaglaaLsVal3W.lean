import Derived.Test.YtmflmbfheaaglaaLsVal2W
set_option linter.unusedVariables false
set_option maxRecDepth 100000
namespace Go.Proofs.Ytmflmbfheaaglaa
open Go Go.LS
end Go.Proofs.Ytmflmbfheaaglaa
