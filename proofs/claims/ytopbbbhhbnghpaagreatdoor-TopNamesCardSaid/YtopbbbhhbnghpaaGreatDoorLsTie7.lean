import Derived.Test.YtopbbbhhbnghpaaGreatDoorLsTie0
import Derived.LaidByTextLater
import Derived.SevenTiedAt
import Derived.LaidSub
import Derived.LaidOnce
import Derived.KernelRfl
set_option linter.unusedVariables false
set_option maxRecDepth 100000
namespace Go.Proofs.YtopbbbhhbnghpaaGreatDoor
open Go
theorem tieT7 : ∀ os tape, doorLeaves Tryz.prog 24 8 65 listedT os tape = some (listedT.filter fun x => x.2.handleName?.isNone, (funcsListed listedT).map (·.2.funcsOut)) := fun _ _ => by kernel_rfl
end Go.Proofs.YtopbbbhhbnghpaaGreatDoor
