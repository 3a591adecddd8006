import Derived.Test.YtmflmbfheaaglaaLsF
namespace Go.Proofs.Ytmflmbfheaaglaa
open Go Go.LS
set_option maxRecDepth 100000
theorem lives8 : runF lp 400 8 [] [] = some (.p (.bool true), []) := by kernel_rfl
end Go.Proofs.Ytmflmbfheaaglaa
