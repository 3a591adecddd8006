import Derived.Test.YtopbbbhhbnghpaaGreatDoorLsTie1
import Derived.Test.YtopbbbhhbnghpaaGreatDoorLsTie2
import Derived.Test.YtopbbbhhbnghpaaGreatDoorLsTie3
import Derived.Test.YtopbbbhhbnghpaaGreatDoorLsTie4
import Derived.Test.YtopbbbhhbnghpaaGreatDoorLsTie5
import Derived.Test.YtopbbbhhbnghpaaGreatDoorLsTie6
import Derived.Test.YtopbbbhhbnghpaaGreatDoorLsTie7
import Derived.Test.YtopbbbhhbnghpaaGreatDoorLsTie8
import Derived.LaidByTextLater
import Derived.SevenTiedAt
import Derived.LaidSub
import Derived.LaidOnce
import Derived.KernelRfl
set_option linter.unusedVariables false
set_option maxRecDepth 100000
namespace Go.Proofs.YtopbbbhhbnghpaaGreatDoor
open Go
theorem seatTieT : Tryz.prog.laidByTextLater listedT [.data, .data, .data] true :=
  Program.laidByTextLater_by_one 24 8 65 tieT1 tieT2 tieT3 tieT4 tieT5 tieT6 tieT7
theorem topNames_row_tieT : Rows.topNamesRow.laidByTextAt .later Tryz.pinned [.data, .data, .data] true :=
  OpenClaim.laidByTextAt_later rfl rfl seatTieT tieT8
end Go.Proofs.YtopbbbhhbnghpaaGreatDoor
