import Derived.Test.YtpkmddkodchanaaLsF1
import Derived.Test.YtpkmddkodchanaaLsS
import Derived.Test.YtpkmddkodchanaaLsG5
set_option maxRecDepth 100000
namespace Go.Proofs.Ytpkmddkodchanaa
open Go Go.LS
def tab : List (Option LFn) := [none, none, none, none, none, none, none, some lf7, some lf8, some lf9, some lf10, some lf11, some lf12, some lf13, some lf14, some lf15, some lf16, some lf17, some lf18, some lf19, some lf20, none, some lf22, some lf23, none, some lf25, some lf26, some lf27, some lf28, some lf29, some lf30, some lf31, some lf32, some lf33, some lf34, some lf35, some lf36, some lf37, some lf38, some lf39, some lf40, some lf41, some lf42, some lf43, some lf44, some lf45, some lf46, some lf47, some lf48, some lf49, some lf50, some lf51, some lf52, some lf53, some lf54, some lf55, some lf56, some lf57, some lf58, some lf59, some lf60, some lf61, some lf62, some lf63, some lf64, some lf65, some lf66, some lf67, none, none, some lf70, some lf71, none, some lf73]
def lp : LProg := lpS tab [10, 11, 13, 14, 15, 16, 17, 18, 19, 20, 21, 22, 23, 24, 25, 27, 28, 29, 30, 31, 32, 33, 34, 36, 37, 39, 40, 41, 42, 43, 44, 46, 47, 48, 50, 51, 54, 58, 59, 60, 61, 64] [10, 11, 18, 20, 22, 23, 24, 25, 26, 29, 34, 37, 39, 40, 41, 42, 50, 51] [(68, sIndexByte)]
theorem pr : PR Try.prog lp := prS tab [10, 11, 13, 14, 15, 16, 17, 18, 19, 20, 21, 22, 23, 24, 25, 27, 28, 29, 30, 31, 32, 33, 34, 36, 37, 39, 40, 41, 42, 43, 44, 46, 47, 48, 50, 51, 54, 58, 59, 60, 61, 64] [10, 11, 18, 20, 22, 23, 24, 25, 26, 29, 34, 37, 39, 40, 41, 42, 50, 51] [(68, sIndexByte)] (by
  intro x hx
  simp only [List.mem_cons, List.not_mem_nil, or_false] at hx
  rcases hx with rfl
  · exact so68
  ) (⟨fr7, ⟨fr8, ⟨fr9, ⟨fr10, ⟨fr11, ⟨fr12, ⟨fr13, ⟨fr14, ⟨fr15, ⟨fr16, ⟨fr17, ⟨fr18, ⟨fr19, ⟨fr20, ⟨fr22, ⟨fr23, ⟨fr25, ⟨fr26, ⟨fr27, ⟨fr28, ⟨fr29, ⟨fr30, ⟨fr31, ⟨fr32, ⟨fr33, ⟨fr34, ⟨fr35, ⟨fr36, ⟨fr37, ⟨fr38, ⟨fr39, ⟨fr40, ⟨fr41, ⟨fr42, ⟨fr43, ⟨fr44, ⟨fr45, ⟨fr46, ⟨fr47, ⟨fr48, ⟨fr49, ⟨fr50, ⟨fr51, ⟨fr52, ⟨fr53, ⟨fr54, ⟨fr55, ⟨fr56, ⟨fr57, ⟨fr58, ⟨fr59, ⟨fr60, ⟨fr61, ⟨fr62, ⟨fr63, ⟨fr64, ⟨fr65, ⟨fr66, ⟨fr67, ⟨fr70, ⟨fr71, ⟨fr73, trivial⟩⟩⟩⟩⟩⟩⟩⟩⟩⟩⟩⟩⟩⟩⟩⟩⟩⟩⟩⟩⟩⟩⟩⟩⟩⟩⟩⟩⟩⟩⟩⟩⟩⟩⟩⟩⟩⟩⟩⟩⟩⟩⟩⟩⟩⟩⟩⟩⟩⟩⟩⟩⟩⟩⟩⟩⟩⟩⟩⟩⟩⟩)
end Go.Proofs.Ytpkmddkodchanaa
