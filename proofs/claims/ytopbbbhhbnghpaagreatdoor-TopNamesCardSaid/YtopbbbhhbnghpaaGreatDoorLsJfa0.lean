import Derived.Test.YtopbbbhhbnghpaaGreatDoorLsJf0
import Derived.KernelRfl
set_option linter.unusedVariables false
set_option maxRecDepth 100000
namespace Go.Proofs.YtopbbbhhbnghpaaGreatDoor
open Go
theorem ldT0 : ((List.range' 0 136).map fun g => (Tryz.pinned.checked.prog.funcs[g]?).elim [] Tryz.pinned.checked.prog.leadsTo) = tabT0 := by kernel_rfl
end Go.Proofs.YtopbbbhhbnghpaaGreatDoor
