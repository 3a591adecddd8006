import Derived.Test.YtopbbbhhbnghpaaGreatDoorLsJf0
import Derived.KernelRfl
set_option linter.unusedVariables false
set_option maxRecDepth 100000
namespace Go.Proofs.YtopbbbhhbnghpaaGreatDoor
open Go
theorem jfT1 : (Rows.topNamesRow.wf (OpenSpec.ofChange Rows.topNamesSpec)) = true := by kernel_rfl
theorem jfT4 : (Tryz.f4.params.all (Tryz.pinned.checked.prog.readableRec ·)) = true := by kernel_rfl
theorem jfT5 : (namedTie Tryz.pinned.checked.prog Rows.topNamesRow.named Rows.topNamesSpec.vars) = true := by kernel_rfl
theorem jfT6 : ((Rows.topNamesRow.stops == [])) = true := by kernel_rfl
theorem jfT7 : ((Tryz.pinned.checked.prog.stops == [])) = true := by kernel_rfl
theorem jfT8 : ((Rows.topNamesRow.knobs == [])) = true := by kernel_rfl
theorem jfT9 : ((Tryz.pinned.checked.prog.stopKnobs == [])) = true := by kernel_rfl
theorem jfT14 : ((Rows.topNamesRow.maps == (Tryz.f4.params.toList ++ Rows.topNamesSpec.plain.varTypes Tryz.pinned.checked.prog).any (Tryz.pinned.checked.prog.mapsRec ·))) = true := by kernel_rfl
theorem jfT15 : ((Rows.topNamesRow.ifaces == (Tryz.f4.params.toList ++ Rows.topNamesSpec.plain.varTypes Tryz.pinned.checked.prog).any (Tryz.pinned.checked.prog.ifacesRec ·))) = true := by kernel_rfl
theorem jfT16 : ((Rows.topNamesRow.mapsOut == Tryz.pinned.checked.prog.mapsAmong Tryz.f4.resultTypes.toList)) = true := by kernel_rfl
theorem jfT17 : ((Rows.topNamesRow.loops == (Tryz.f4.params.toList ++ Rows.topNamesSpec.plain.varTypes Tryz.pinned.checked.prog).any (Tryz.pinned.checked.prog.loopsFrom ·))) = true := by kernel_rfl
theorem jfT18 : ((Rows.topNamesRow.wideKeys == (Tryz.f4.params.toList ++ Rows.topNamesSpec.plain.varTypes Tryz.pinned.checked.prog ++ Tryz.f4.resultTypes.toList).any (Tryz.pinned.checked.prog.wideKeysFrom ·))) = true := by kernel_rfl
end Go.Proofs.YtopbbbhhbnghpaaGreatDoor
