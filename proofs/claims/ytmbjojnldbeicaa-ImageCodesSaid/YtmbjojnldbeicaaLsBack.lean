import Derived.Test.YtmbjojnldbeicaaLsRd4
set_option linter.unusedVariables false
set_option linter.unusedSimpArgs false
namespace Go.Proofs.Ytmbjojnldbeicaa
open Go Go.LS
end Go.Proofs.Ytmbjojnldbeicaa
