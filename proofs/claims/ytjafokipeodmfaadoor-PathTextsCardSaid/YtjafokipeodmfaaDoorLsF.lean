import Derived.Test.YtjafokipeodmfaaDoorLsF1
import Derived.Test.YtjafokipeodmfaaDoorLsS
import Derived.Test.YtjafokipeodmfaaDoorLsSh
import Derived.Test.YtjafokipeodmfaaDoorLsG5
set_option maxRecDepth 100000
namespace Go.Proofs.YtjafokipeodmfaaDoor
open Go Go.LS
def tab : List (Option LFn) := [none, none, none, none, some lf4, none, none, none, some lf8, some lf9, none, some lf11, some lf12, some lf13, some lf14, some lf15, some lf16, none, some lf18, some lf19, some lf20, some lf21, some lf22, some lf23, some lf24, none, some lf26, some lf27, some lf28, some lf29, some lf30, some lf31, none, none, none, some lf35, some lf36, some lf37, some lf38, some lf39, none, some lf41, none, none, some lf44, some lf45, some lf46, none, some lf48, none, none, some lf51, none, none, some lf54, some lf55, none, some lf57, none, none, none, none, none, none, none, none, none, none, none, none, none, none, none, none, none, none, none, none, none, none]
def lp : LProg := lpS tab [11, 12, 13, 14, 15, 18, 19, 20, 21, 22, 25, 28, 29, 37] [9, 10, 21, 22, 23, 30] [(52, sIndexByte), (25, sJoin), (40, sCount1)]
theorem pr : PR Tryd.prog lp := prS tab [11, 12, 13, 14, 15, 18, 19, 20, 21, 22, 25, 28, 29, 37] [9, 10, 21, 22, 23, 30] [(52, sIndexByte), (25, sJoin), (40, sCount1)] (by
  intro x hx
  simp only [List.mem_cons, List.not_mem_nil, or_false] at hx
  rcases hx with rfl | rfl | rfl
  · exact so52
  · exact so25
  · exact so40
  ) (⟨fr4, ⟨fr8, ⟨fr9, ⟨fr11, ⟨fr12, ⟨fr13, ⟨fr14, ⟨fr15, ⟨fr16, ⟨fr18, ⟨fr19, ⟨fr20, ⟨fr21, ⟨fr22, ⟨fr23, ⟨fr24, ⟨fr26, ⟨fr27, ⟨fr28, ⟨fr29, ⟨fr30, ⟨fr31, ⟨fr35, ⟨fr36, ⟨fr37, ⟨fr38, ⟨fr39, ⟨fr41, ⟨fr44, ⟨fr45, ⟨fr46, ⟨fr48, ⟨fr51, ⟨fr54, ⟨fr55, ⟨fr57, trivial⟩⟩⟩⟩⟩⟩⟩⟩⟩⟩⟩⟩⟩⟩⟩⟩⟩⟩⟩⟩⟩⟩⟩⟩⟩⟩⟩⟩⟩⟩⟩⟩⟩⟩⟩⟩)
end Go.Proofs.YtjafokipeodmfaaDoor
