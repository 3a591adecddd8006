import Derived.Test.YtmbjojnldbeicaaLsRd
set_option linter.unusedVariables false
set_option linter.unusedSimpArgs false
namespace Go.Proofs.Ytmbjojnldbeicaa
open Go Go.LS
abbrev rt (u i : Int) : List LV := tl 0 82 [(0, .ptr 0 0 0), (3, .p (.int .u64 u)), (4, .p (.int .i64 i))]
end Go.Proofs.Ytmbjojnldbeicaa
