import Derived.Test.YtmflmbfheaaglaaLsVal3
import Derived.Test.YtmflmbfheaaglaaLsBack
import Derived.Test.YtmflmbfheaaglaaLsG6
set_option linter.unusedVariables false
set_option maxRecDepth 100000
namespace Go.Proofs.Ytmflmbfheaaglaa
open Go Go.LS
end Go.Proofs.Ytmflmbfheaaglaa
