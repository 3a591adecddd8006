import Derived.Test.YtopbbbhhbnghpaaGreatDoorLsJf0
import Derived.KernelRfl
set_option linter.unusedVariables false
set_option maxRecDepth 100000
namespace Go.Proofs.YtopbbbhhbnghpaaGreatDoor
open Go
theorem jfT23 : ((Rows.topNamesRow.plainKeys == Tryz.pinned.checked.prog.plainKeys)) = true := by kernel_rfl
end Go.Proofs.YtopbbbhhbnghpaaGreatDoor
