import Derived.Test.YtegboccilfofmaaLsF1
import Derived.Test.YtegboccilfofmaaLsS
import Derived.Test.YtegboccilfofmaaLsG5
set_option maxRecDepth 100000
namespace Go.Proofs.Ytegboccilfofmaa
open Go Go.LS
def tab : List (Option LFn) := [none, none, none, none, some lf4, none, some lf6, some lf7, some lf8, some lf9, none, some lf11, none, some lf13, some lf14, none, some lf16, some lf17, some lf18, some lf19, some lf20, some lf21, some lf22, some lf23, some lf24, some lf25, some lf26, some lf27, some lf28, some lf29, some lf30, some lf31, some lf32, some lf33, some lf34, none, none, some lf37, some lf38, none, some lf40, some lf41, some lf42, some lf43, some lf44, some lf45, some lf46, some lf47, some lf48, some lf49, some lf50, some lf51, some lf52, some lf53, some lf54, some lf55, some lf56, some lf57, some lf58, some lf59, some lf60, some lf61, some lf62, some lf63, none, some lf65, some lf66, some lf67, some lf68, some lf69, some lf70, some lf71, some lf72, some lf73, some lf74, some lf75, some lf76, some lf77, some lf78, some lf79, some lf80, some lf81, some lf82, some lf83, some lf84, some lf85, some lf86, some lf87, none, some lf89, some lf90, some lf91, some lf92, some lf93, some lf94, some lf95, some lf96, some lf97, none, none, some lf100, some lf101, none, some lf103]
def lp : LProg := lpS tab [5, 7, 8, 9, 10, 11, 12, 13, 14, 15, 16, 18, 19, 22, 23, 24, 25, 26, 27, 28, 29, 30, 31, 32, 33, 34, 35, 36, 37, 39, 41, 44, 51, 52, 53, 56, 57, 58, 59, 60, 61, 62, 63, 64, 73, 79, 80, 81, 82, 86, 87, 96] [9, 10, 16, 20, 29, 36, 48, 49, 71, 72, 91] [(98, sIndexByte)]
theorem pr : PR Try.prog lp := prS tab [5, 7, 8, 9, 10, 11, 12, 13, 14, 15, 16, 18, 19, 22, 23, 24, 25, 26, 27, 28, 29, 30, 31, 32, 33, 34, 35, 36, 37, 39, 41, 44, 51, 52, 53, 56, 57, 58, 59, 60, 61, 62, 63, 64, 73, 79, 80, 81, 82, 86, 87, 96] [9, 10, 16, 20, 29, 36, 48, 49, 71, 72, 91] [(98, sIndexByte)] (by
  intro x hx
  simp only [List.mem_cons, List.not_mem_nil, or_false] at hx
  rcases hx with rfl
  · exact so98
  ) (⟨fr4, ⟨fr6, ⟨fr7, ⟨fr8, ⟨fr9, ⟨fr11, ⟨fr13, ⟨fr14, ⟨fr16, ⟨fr17, ⟨fr18, ⟨fr19, ⟨fr20, ⟨fr21, ⟨fr22, ⟨fr23, ⟨fr24, ⟨fr25, ⟨fr26, ⟨fr27, ⟨fr28, ⟨fr29, ⟨fr30, ⟨fr31, ⟨fr32, ⟨fr33, ⟨fr34, ⟨fr37, ⟨fr38, ⟨fr40, ⟨fr41, ⟨fr42, ⟨fr43, ⟨fr44, ⟨fr45, ⟨fr46, ⟨fr47, ⟨fr48, ⟨fr49, ⟨fr50, ⟨fr51, ⟨fr52, ⟨fr53, ⟨fr54, ⟨fr55, ⟨fr56, ⟨fr57, ⟨fr58, ⟨fr59, ⟨fr60, ⟨fr61, ⟨fr62, ⟨fr63, ⟨fr65, ⟨fr66, ⟨fr67, ⟨fr68, ⟨fr69, ⟨fr70, ⟨fr71, ⟨fr72, ⟨fr73, ⟨fr74, ⟨fr75, ⟨fr76, ⟨fr77, ⟨fr78, ⟨fr79, ⟨fr80, ⟨fr81, ⟨fr82, ⟨fr83, ⟨fr84, ⟨fr85, ⟨fr86, ⟨fr87, ⟨fr89, ⟨fr90, ⟨fr91, ⟨fr92, ⟨fr93, ⟨fr94, ⟨fr95, ⟨fr96, ⟨fr97, ⟨fr100, ⟨fr101, ⟨fr103, trivial⟩⟩⟩⟩⟩⟩⟩⟩⟩⟩⟩⟩⟩⟩⟩⟩⟩⟩⟩⟩⟩⟩⟩⟩⟩⟩⟩⟩⟩⟩⟩⟩⟩⟩⟩⟩⟩⟩⟩⟩⟩⟩⟩⟩⟩⟩⟩⟩⟩⟩⟩⟩⟩⟩⟩⟩⟩⟩⟩⟩⟩⟩⟩⟩⟩⟩⟩⟩⟩⟩⟩⟩⟩⟩⟩⟩⟩⟩⟩⟩⟩⟩⟩⟩⟩⟩⟩⟩)
end Go.Proofs.Ytegboccilfofmaa
