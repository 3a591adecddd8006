import Derived.Test.YtmbjojnldbeicaaLsCodD
set_option linter.unusedVariables false
set_option linter.unusedSimpArgs false
set_option maxRecDepth 100000
namespace Go.Proofs.Ytmbjojnldbeicaa
open Go Go.LS
end Go.Proofs.Ytmbjojnldbeicaa
