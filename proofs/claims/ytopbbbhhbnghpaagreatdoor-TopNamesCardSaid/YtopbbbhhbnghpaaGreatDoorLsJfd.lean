import Derived.Test.YtopbbbhhbnghpaaGreatDoorLsJf0
import Derived.KernelRfl
set_option linter.unusedVariables false
set_option maxRecDepth 100000
namespace Go.Proofs.YtopbbbhhbnghpaaGreatDoor
open Go
theorem goT : Tryz.pinned.checked.prog.funcs.any Func.goes = false := by kernel_rfl
end Go.Proofs.YtopbbbhhbnghpaaGreatDoor
