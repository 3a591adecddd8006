import Derived.Test.YtmbjojnldbeicaaLsF
import Derived.Test.YtmbjojnldbeicaaLsG5
namespace Go.Proofs.Ytmbjojnldbeicaa
open Go Go.LS
theorem lives_runs : Runs lp 9 [] [] (.p (.bool true), []) := ⟨200, by kernel_rfl⟩
end Go.Proofs.Ytmbjojnldbeicaa
