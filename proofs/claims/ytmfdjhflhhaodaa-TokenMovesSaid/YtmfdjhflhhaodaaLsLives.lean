/- Chapter 18's lives tells true. -/
import Derived.Test.YtmfdjhflhhaodaaLsF
import Derived.Test.YtmfdjhflhhaodaaLsG5
namespace Go.Proofs.Ytmfdjhflhhaodaa
open Go Go.LS
theorem lives_runs : Runs lp 7 [] [] (.p (.bool true), []) := ⟨200, by kernel_rfl⟩
end Go.Proofs.Ytmfdjhflhhaodaa
