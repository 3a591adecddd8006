import Derived.Test.YtopbbbhhbnghpaaGreatDoorLsJg
import Derived.KernelRfl
set_option linter.unusedVariables false
set_option maxRecDepth 100000
namespace Go.Proofs.YtopbbbhhbnghpaaGreatDoor
open Go
theorem goes_by {c : OpenClaim} {P : Program} {f : FuncId} (h1 : c.start = .entering) (h2 : P.funcNamed c.func = some f) (h3 : P.goes f = false) : false = c.goesBy P := by
  unfold OpenClaim.goesBy Program.goesAt Program.goesFrom
  rw [h1, h2, Option.any_some, h3]
  rfl
theorem goesT : false = Rows.topNamesRow.goesBy Tryz.pinned.checked.prog := goes_by rfl fnT (goes_of goT)
end Go.Proofs.YtopbbbhhbnghpaaGreatDoor
