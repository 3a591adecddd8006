import Derived.Test.YtmflmbfheaaglaaLsRd4
set_option linter.unusedVariables false
set_option linter.unusedSimpArgs false
namespace Go.Proofs.Ytmflmbfheaaglaa
open Go Go.LS
end Go.Proofs.Ytmflmbfheaaglaa
