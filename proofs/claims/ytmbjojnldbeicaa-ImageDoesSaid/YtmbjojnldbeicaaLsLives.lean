import Derived.Test.YtmbjojnldbeicaaLsAb
import Derived.Test.YtmbjojnldbeicaaLsF
import Derived.Test.YtmbjojnldbeicaaLsG5
namespace Go.Proofs.Ytmbjojnldbeicaa
open Go Go.LS
theorem Jr : Runs lp 9 [] [] (pB true, []) := ⟨200, by kernel_rfl⟩
end Go.Proofs.Ytmbjojnldbeicaa
