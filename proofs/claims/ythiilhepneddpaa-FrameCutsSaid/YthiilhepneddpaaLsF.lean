/- The program in LS. -/
import Derived.Test.YthiilhepneddpaaLsF1
import Derived.Test.YthiilhepneddpaaLsG5
set_option maxRecDepth 100000
namespace Go.Proofs.Ythiilhepneddpaa
open Go.LS

def tab : List (Option LFn) := [none, none, some lf2, some lf3, some lf4, some lf5, some lf6, some lf7, some lf8, some lf9, some lf10, some lf11, some lf12, some lf13, some lf14, some lf15, some lf16, some lf17, some lf18, some lf19, some lf20, some lf21, some lf22, some lf23, some lf24, some lf25, some lf26, some lf27, some lf28, some lf29, some lf30, some lf31, some lf32, some lf33, some lf34, some lf35, some lf36, some lf37]
def lp : LProg := lpOf tab [8, 9, 10, 11, 12, 13, 14, 15, 22, 23, 27, 31]
theorem pr : PR Try.prog lp := prOf tab [8, 9, 10, 11, 12, 13, 14, 15, 22, 23, 27, 31] (⟨fr2, ⟨fr3, ⟨fr4, ⟨fr5, ⟨fr6, ⟨fr7, ⟨fr8, ⟨fr9, ⟨fr10, ⟨fr11, ⟨fr12, ⟨fr13, ⟨fr14, ⟨fr15, ⟨fr16, ⟨fr17, ⟨fr18, ⟨fr19, ⟨fr20, ⟨fr21, ⟨fr22, ⟨fr23, ⟨fr24, ⟨fr25, ⟨fr26, ⟨fr27, ⟨fr28, ⟨fr29, ⟨fr30, ⟨fr31, ⟨fr32, ⟨fr33, ⟨fr34, ⟨fr35, ⟨fr36, ⟨fr37, trivial⟩⟩⟩⟩⟩⟩⟩⟩⟩⟩⟩⟩⟩⟩⟩⟩⟩⟩⟩⟩⟩⟩⟩⟩⟩⟩⟩⟩⟩⟩⟩⟩⟩⟩⟩⟩)
end Go.Proofs.Ythiilhepneddpaa
