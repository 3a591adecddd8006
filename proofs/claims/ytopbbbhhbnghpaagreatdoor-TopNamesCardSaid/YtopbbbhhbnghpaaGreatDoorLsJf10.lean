import Derived.Test.YtopbbbhhbnghpaaGreatDoorLsJfe
import Derived.KernelRfl
set_option linter.unusedVariables false
set_option maxRecDepth 100000
namespace Go.Proofs.YtopbbbhhbnghpaaGreatDoor
open Go
theorem jfT10 : ((Rows.topNamesRow.inPlace == Tryz.pinned.checked.prog.inPlace 4)) = true := by
  unfold Program.inPlace
  rw [closT]
  kernel_rfl
end Go.Proofs.YtopbbbhhbnghpaaGreatDoor
