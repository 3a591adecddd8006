import Derived.Test.YtopbbbhhbnghpaaGreatDoorLsJfe
import Derived.KernelRfl
set_option linter.unusedVariables false
set_option maxRecDepth 100000
namespace Go.Proofs.YtopbbbhhbnghpaaGreatDoor
open Go
theorem jfT13 : ((Rows.topNamesRow.named == Tryz.pinned.checked.prog.varsNamed 4)) = true := by
  unfold Program.varsNamed
  rw [closT]
  kernel_rfl
end Go.Proofs.YtopbbbhhbnghpaaGreatDoor
