import Derived.Test.YtmbjojnldbeicaaLsF1
import Derived.Test.YtmbjojnldbeicaaLsS
import Derived.Test.YtmbjojnldbeicaaLsG5
set_option maxRecDepth 100000
namespace Go.Proofs.Ytmbjojnldbeicaa
open Go Go.LS
noncomputable def tab : List (Option LFn) := [none, none, none, some lf3, none, none, none, none, some lf8, some lf9, some lf10, some lf11, some lf12, some lf13, some lf14, some lf15, some lf16, some Em, some Mv, some lf19, some Fv, none, none, some lf23, some lf24, none, some lf26, some lf27, some H1, some lf29, some lf30, some Qb, some lf32, some lf33, some Mw, some lf35, some lf36, some lf37, some lf38, some lf39, some lf40, some lf41, some lf42, some lf43, some lf44, none, none, none, none, some H2, some Ow, some Lc, some lf52, some R1, some Ld, some lf55, some Le, some lf57, some Mx, some E7, some lf60, some lf61, some lf62, some Lf, some lf64, some lf65, none, none, some My, some H3, some Nz, some lf71, some lf72, some lf73, some lf74, some lf75, some lf76, some lf77, some lf78, none, none, some lf81, some Ox, some lf83, some lf84, some Gf, some lf86, some lf87, some lf88, some lf89, some lf90, none, none, some lf93, some lf94, none, some lf96]
noncomputable def lp : Bs := lpS tab [11, 13, 14, 16, 26, 28, 31, 33, 34, 38, 45, 49, 50, 51, 52, 53, 54, 55, 69, 70, 71, 72, 82] [27, 34, 42, 45, 48, 55, 62, 67, 77, 85] [(91, Fw)]
theorem pr : PR Try.prog lp := prS tab [11, 13, 14, 16, 26, 28, 31, 33, 34, 38, 45, 49, 50, 51, 52, 53, 54, 55, 69, 70, 71, 72, 82] [27, 34, 42, 45, 48, 55, 62, 67, 77, 85] [(91, Fw)] (by
 intro x hx
 simp only [List.mem_cons, List.not_mem_nil, or_false] at hx
 rcases hx with rfl
 ·exact so91
 ) (⟨fr3, ⟨fr8, ⟨fr9, ⟨fr10, ⟨fr11, ⟨fr12, ⟨fr13, ⟨fr14, ⟨fr15, ⟨fr16, ⟨fr17, ⟨fr18, ⟨fr19, ⟨fr20, ⟨fr23, ⟨fr24, ⟨fr26, ⟨fr27, ⟨fr28, ⟨fr29, ⟨fr30, ⟨fr31, ⟨fr32, ⟨fr33, ⟨fr34, ⟨fr35, ⟨fr36, ⟨fr37, ⟨fr38, ⟨fr39, ⟨fr40, ⟨fr41, ⟨fr42, ⟨fr43, ⟨fr44, ⟨fr49, ⟨fr50, ⟨fr51, ⟨fr52, ⟨fr53, ⟨fr54, ⟨fr55, ⟨fr56, ⟨fr57, ⟨fr58, ⟨fr59, ⟨fr60, ⟨fr61, ⟨fr62, ⟨fr63, ⟨fr64, ⟨fr65, ⟨fr68, ⟨fr69, ⟨fr70, ⟨fr71, ⟨fr72, ⟨fr73, ⟨fr74, ⟨fr75, ⟨fr76, ⟨fr77, ⟨fr78, ⟨fr81, ⟨fr82, ⟨fr83, ⟨fr84, ⟨fr85, ⟨fr86, ⟨fr87, ⟨fr88, ⟨fr89, ⟨fr90, ⟨fr93, ⟨fr94, ⟨fr96, trivial⟩⟩⟩⟩⟩⟩⟩⟩⟩⟩⟩⟩⟩⟩⟩⟩⟩⟩⟩⟩⟩⟩⟩⟩⟩⟩⟩⟩⟩⟩⟩⟩⟩⟩⟩⟩⟩⟩⟩⟩⟩⟩⟩⟩⟩⟩⟩⟩⟩⟩⟩⟩⟩⟩⟩⟩⟩⟩⟩⟩⟩⟩⟩⟩⟩⟩⟩⟩⟩⟩⟩⟩⟩⟩⟩⟩)
end Go.Proofs.Ytmbjojnldbeicaa
