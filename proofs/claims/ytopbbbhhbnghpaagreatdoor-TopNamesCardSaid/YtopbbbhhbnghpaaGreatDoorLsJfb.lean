import Derived.Test.YtopbbbhhbnghpaaGreatDoorLsJf0
import Derived.KernelRfl
set_option linter.unusedVariables false
set_option maxRecDepth 100000
namespace Go.Proofs.YtopbbbhhbnghpaaGreatDoor
open Go
theorem szT : Tryz.pinned.checked.prog.funcs.size = 681 := by kernel_rfl
end Go.Proofs.YtopbbbhhbnghpaaGreatDoor
