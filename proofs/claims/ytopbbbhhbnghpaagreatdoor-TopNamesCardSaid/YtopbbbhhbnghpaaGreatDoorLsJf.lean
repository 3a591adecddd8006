import Derived.Test.YtopbbbhhbnghpaaGreatDoorLsJf1
import Derived.Test.YtopbbbhhbnghpaaGreatDoorLsJf2
import Derived.Test.YtopbbbhhbnghpaaGreatDoorLsJf3
import Derived.Test.YtopbbbhhbnghpaaGreatDoorLsJf10
import Derived.Test.YtopbbbhhbnghpaaGreatDoorLsJf11
import Derived.Test.YtopbbbhhbnghpaaGreatDoorLsJf13
import Derived.Test.YtopbbbhhbnghpaaGreatDoorLsJf14
import Derived.Test.YtopbbbhhbnghpaaGreatDoorLsJf23
import Derived.Test.YtopbbbhhbnghpaaGreatDoorLsJf25
import Derived.Test.YtopbbbhhbnghpaaGreatDoorLsJf26
import Derived.KernelRfl
set_option linter.unusedVariables false
set_option maxRecDepth 100000
namespace Go.Proofs.YtopbbbhhbnghpaaGreatDoor
open Go
theorem jfT : joinedFacts Tryz.pinned.checked.prog 4 Tryz.f4 Rows.topNamesSpec Rows.topNamesRow = true := (and_T (and_T (and_T (and_T (and_T (and_T (and_T (and_T (and_T (and_T (and_T (and_T (and_T (and_T (and_T (and_T (and_T (and_T (and_T (and_T (and_T (and_T (and_T (and_T (and_T (and_T (and_T (and_T (and_T (and_T (and_T jfT1 jfT2) jfT3) jfT4) jfT5) jfT6) jfT7) jfT8) jfT9) jfT10) jfT11) jfT12) jfT13) jfT14) jfT15) jfT16) jfT17) jfT18) jfT19) jfT20) jfT21) jfT22) jfT23) jfT24) jfT25) jfT26) jfT27) jfT28) jfT29) jfT30) jfT31) jfT32)
end Go.Proofs.YtopbbbhhbnghpaaGreatDoor
