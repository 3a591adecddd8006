import Derived.Test.YtmbjojnldbeicaaLsCod3
set_option linter.unusedVariables false
set_option linter.unusedSimpArgs false
set_option maxRecDepth 100000
set_option linter.unusedSimpArgs false
namespace Go.Proofs.Ytmbjojnldbeicaa
open Go Go.LS
end Go.Proofs.Ytmbjojnldbeicaa
