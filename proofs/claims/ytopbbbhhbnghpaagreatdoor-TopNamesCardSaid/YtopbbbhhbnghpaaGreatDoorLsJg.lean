import Derived.Test.YtopbbbhhbnghpaaGreatDoorLsJfd
import Derived.KernelRfl
set_option linter.unusedVariables false
set_option maxRecDepth 100000
namespace Go.Proofs.YtopbbbhhbnghpaaGreatDoor
open Go
theorem fnT : Tryz.pinned.checked.prog.funcNamed "tributary/tributarytop.TopNames" = some 4 := by kernel_rfl
end Go.Proofs.YtopbbbhhbnghpaaGreatDoor
