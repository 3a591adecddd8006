import Derived.Test.YthhcdjhdpbkgnaaLsF1
import Derived.Test.YthhcdjhdpbkgnaaLsS
import Derived.Test.YthhcdjhdpbkgnaaLsG5
set_option maxRecDepth 100000
namespace Go.Proofs.Ythhcdjhdpbkgnaa
open Go Go.LS
def tab : List (Option LFn) := [none, none, none, none, none, none, none, some lf7, some lf8, some lf9, none, none, none, some lf13, some lf14, none, some lf16, some lf17, some lf18, some lf19, some lf20, none, some lf22, none, some lf24, some lf25, some lf26, some lf27, some lf28, some lf29, some lf30, some lf31, some lf32, none, none, none, none, some lf37, some lf38, some lf39, some lf40, some lf41, some lf42, some lf43, some lf44, some lf45, none, some lf47, none, none, some lf50, some lf51, some lf52, some lf53, some lf54, some lf55, some lf56, some lf57, some lf58, none, none, some lf61, some lf62, some lf63, some lf64, none, none, none, some lf68, some lf69, none, none, some lf72]
def lp : LProg := lpS tab [8, 10, 11, 12, 13, 14, 15, 16, 17, 18, 19, 22, 23, 24, 25, 26, 31, 32, 33, 37, 38, 39, 40, 41, 42, 45, 46, 47, 50, 56] [19, 25, 26] [(66, sIndexByte), (65, sCompare)]
theorem pr : PR Try.prog lp := prS tab [8, 10, 11, 12, 13, 14, 15, 16, 17, 18, 19, 22, 23, 24, 25, 26, 31, 32, 33, 37, 38, 39, 40, 41, 42, 45, 46, 47, 50, 56] [19, 25, 26] [(66, sIndexByte), (65, sCompare)] (by
  intro x hx
  simp only [List.mem_cons, List.not_mem_nil, or_false] at hx
  rcases hx with rfl | rfl
  · exact so66
  · exact so65
  ) (⟨fr7, ⟨fr8, ⟨fr9, ⟨fr13, ⟨fr14, ⟨fr16, ⟨fr17, ⟨fr18, ⟨fr19, ⟨fr20, ⟨fr22, ⟨fr24, ⟨fr25, ⟨fr26, ⟨fr27, ⟨fr28, ⟨fr29, ⟨fr30, ⟨fr31, ⟨fr32, ⟨fr37, ⟨fr38, ⟨fr39, ⟨fr40, ⟨fr41, ⟨fr42, ⟨fr43, ⟨fr44, ⟨fr45, ⟨fr47, ⟨fr50, ⟨fr51, ⟨fr52, ⟨fr53, ⟨fr54, ⟨fr55, ⟨fr56, ⟨fr57, ⟨fr58, ⟨fr61, ⟨fr62, ⟨fr63, ⟨fr64, ⟨fr68, ⟨fr69, ⟨fr72, trivial⟩⟩⟩⟩⟩⟩⟩⟩⟩⟩⟩⟩⟩⟩⟩⟩⟩⟩⟩⟩⟩⟩⟩⟩⟩⟩⟩⟩⟩⟩⟩⟩⟩⟩⟩⟩⟩⟩⟩⟩⟩⟩⟩⟩⟩⟩)
end Go.Proofs.Ythhcdjhdpbkgnaa
