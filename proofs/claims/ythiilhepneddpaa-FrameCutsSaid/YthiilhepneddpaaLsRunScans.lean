/- FrameScans' run in LS tells true. -/
import Derived.Test.YthiilhepneddpaaLsScan5
import Derived.Test.YthiilhepneddpaaLsG5
set_option linter.unusedVariables false
set_option linter.unusedSimpArgs false
namespace Go.Proofs.Ythiilhepneddpaa
open Go Go.LS
end Go.Proofs.Ythiilhepneddpaa
