import Derived.Test.YtopbbbhhbnghpaaGreatDoorLsJfe
import Derived.KernelRfl
set_option linter.unusedVariables false
set_option maxRecDepth 100000
namespace Go.Proofs.YtopbbbhhbnghpaaGreatDoor
open Go
theorem unfT : Tryz.pinned.checked.prog.unfollowed 4 = true := by
  unfold Program.unfollowed
  rw [closT]
  kernel_rfl
theorem jfT11 : ((Rows.topNamesRow.unfollowed == Tryz.pinned.checked.prog.unfollowed 4)) = true := by rw [unfT]; kernel_rfl
theorem jfT12 : ((Rows.topNamesRow.recurses == Tryz.pinned.checked.prog.recurses 4)) = true := by
  unfold Program.recurses
  rw [unfT]
  rfl
end Go.Proofs.YtopbbbhhbnghpaaGreatDoor
