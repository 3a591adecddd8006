import Derived.Test.YtopbbbhhbnghpaaGreatDoorLsJf0
import Derived.KernelRfl
set_option linter.unusedVariables false
set_option maxRecDepth 100000
namespace Go.Proofs.YtopbbbhhbnghpaaGreatDoor
open Go
theorem fuelT : 1 + (Tryz.pinned.checked.prog.funcs.toList.map fun g => (Tryz.pinned.checked.prog.leadsTo g).length + 1).sum = 2141 := by kernel_rfl
end Go.Proofs.YtopbbbhhbnghpaaGreatDoor
