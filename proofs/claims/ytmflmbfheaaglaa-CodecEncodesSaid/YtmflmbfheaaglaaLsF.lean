import Derived.Test.YtmflmbfheaaglaaLsF1
import Derived.Test.YtmflmbfheaaglaaLsS
import Derived.Test.YtmflmbfheaaglaaLsG5
set_option maxRecDepth 100000
namespace Go.Proofs.Ytmflmbfheaaglaa
open Go Go.LS
def tab : List (Option LFn) := [none, none, none, some lf3, none, none, none, some lf7, some lf8, some lf9, some lf10, some lf11, some lf12, some lf13, some lf14, some lf15, none, some lf17, some lf18, none, some lf20, some lf21, none, some lf23, some lf24, some lf25, some lf26, some lf27, some lf28, some lf29, some lf30, some lf31, some lf32, none, some lf34, some lf35, none, some lf37, some lf38, some lf39, some lf40, some lf41, some lf42, some lf43, some lf44, some lf45, some lf46, some lf47, some lf48, some lf49, some lf50, none, none, none, none, some lf55, some lf56, some lf57, some lf58, some lf59, some lf60, some lf61, some lf62, some lf63, none, some lf65, some lf66, some lf67, some lf68, some lf69, some lf70, some lf71, none, none, some lf74, some lf75, none, some lf77]
def lp : LProg := lpS tab [7, 9, 10, 11, 12, 13, 14, 15, 16, 17, 23, 25, 28, 29, 37, 38, 39, 44, 55, 56, 57, 66] [10, 13, 18, 19, 34, 36, 50] [(72, sIndexByte)]
theorem pr : PR Try.prog lp := prS tab [7, 9, 10, 11, 12, 13, 14, 15, 16, 17, 23, 25, 28, 29, 37, 38, 39, 44, 55, 56, 57, 66] [10, 13, 18, 19, 34, 36, 50] [(72, sIndexByte)] (by
  intro x hx
  simp only [List.mem_cons, List.not_mem_nil, or_false] at hx
  rcases hx with rfl
  · exact so72
  ) (⟨fr3, ⟨fr7, ⟨fr8, ⟨fr9, ⟨fr10, ⟨fr11, ⟨fr12, ⟨fr13, ⟨fr14, ⟨fr15, ⟨fr17, ⟨fr18, ⟨fr20, ⟨fr21, ⟨fr23, ⟨fr24, ⟨fr25, ⟨fr26, ⟨fr27, ⟨fr28, ⟨fr29, ⟨fr30, ⟨fr31, ⟨fr32, ⟨fr34, ⟨fr35, ⟨fr37, ⟨fr38, ⟨fr39, ⟨fr40, ⟨fr41, ⟨fr42, ⟨fr43, ⟨fr44, ⟨fr45, ⟨fr46, ⟨fr47, ⟨fr48, ⟨fr49, ⟨fr50, ⟨fr55, ⟨fr56, ⟨fr57, ⟨fr58, ⟨fr59, ⟨fr60, ⟨fr61, ⟨fr62, ⟨fr63, ⟨fr65, ⟨fr66, ⟨fr67, ⟨fr68, ⟨fr69, ⟨fr70, ⟨fr71, ⟨fr74, ⟨fr75, ⟨fr77, trivial⟩⟩⟩⟩⟩⟩⟩⟩⟩⟩⟩⟩⟩⟩⟩⟩⟩⟩⟩⟩⟩⟩⟩⟩⟩⟩⟩⟩⟩⟩⟩⟩⟩⟩⟩⟩⟩⟩⟩⟩⟩⟩⟩⟩⟩⟩⟩⟩⟩⟩⟩⟩⟩⟩⟩⟩⟩⟩⟩)
end Go.Proofs.Ytmflmbfheaaglaa
