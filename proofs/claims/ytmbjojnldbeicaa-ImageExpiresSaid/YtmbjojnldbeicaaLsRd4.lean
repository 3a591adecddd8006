import Derived.Test.YtmbjojnldbeicaaLsRd3
set_option linter.unusedVariables false
set_option linter.unusedSimpArgs false
namespace Go.Proofs.Ytmbjojnldbeicaa
open Go Go.LS
end Go.Proofs.Ytmbjojnldbeicaa
