import Derived.Test.YthmjaeflpgcmdaaLsF1
import Derived.Test.YthmjaeflpgcmdaaLsSh
import Derived.Test.YthmjaeflpgcmdaaLsG5
import Derived.Test.YthmjaeflpgcmdaaLsG6
import Derived.KernelRfl
set_option maxRecDepth 100000
namespace Go.Proofs.Ythmjaeflpgcmdaa
open Go Go.LS
def tab : List (Option LFn) := [none, none, none, none, some lf4, none, some lf6, some lf7, some lf8, some lf9, some lf10, some lf11, some lf12, some lf13, some M1, some lf15, none, some lf17, some Kc, some lf19, some lf20, some lf21, some lf22, some lf23, some lf24, some Cs, some lf26, some lf27, some lf28, some lf29, some lf30, some Px, some lf32, some lf33, some lf34, some lf35, some lf36, some lf37, none, some lf39, some Kd, some Fz, some lf42, some lf43, some lf44, some lf45, some lf46, some lf47, some lf48, some lf49, some lf50, some lf51, some lf52, some lf53, some lf54, some lf55, some lf56, some lf57, some lf58, some lf59, some M2, none, none, some lf63, some lf64, some Ie, some lf66, some lf67, some lf68, some lf69, some lf70, some lf71, some lf72, some lf73, some lf74, some F0, some D6, some lf77, none, none, none, some lf81, some lf82, none, none, none, none, none, none, none, none, none, none, none, none, none, none, none, none, none, none]
theorem allFR : AllFR Try.prog 0 tab := (⟨fr4, ⟨fr6, ⟨fr7, ⟨fr8, ⟨fr9, ⟨fr10, ⟨fr11, ⟨fr12, ⟨fr13, ⟨fr14, ⟨fr15, ⟨fr17, ⟨fr18, ⟨fr19, ⟨fr20, ⟨fr21, ⟨fr22, ⟨fr23, ⟨fr24, ⟨fr25, ⟨fr26, ⟨fr27, ⟨fr28, ⟨fr29, ⟨fr30, ⟨fr31, ⟨fr32, ⟨fr33, ⟨fr34, ⟨fr35, ⟨fr36, ⟨fr37, ⟨fr39, ⟨fr40, ⟨fr41, ⟨fr42, ⟨fr43, ⟨fr44, ⟨fr45, ⟨fr46, ⟨fr47, ⟨fr48, ⟨fr49, ⟨fr50, ⟨fr51, ⟨fr52, ⟨fr53, ⟨fr54, ⟨fr55, ⟨fr56, ⟨fr57, ⟨fr58, ⟨fr59, ⟨fr60, ⟨fr63, ⟨fr64, ⟨fr65, ⟨fr66, ⟨fr67, ⟨fr68, ⟨fr69, ⟨fr70, ⟨fr71, ⟨fr72, ⟨fr73, ⟨fr74, ⟨fr75, ⟨fr76, ⟨fr77, ⟨fr81, ⟨fr82, trivial⟩⟩⟩⟩⟩⟩⟩⟩⟩⟩⟩⟩⟩⟩⟩⟩⟩⟩⟩⟩⟩⟩⟩⟩⟩⟩⟩⟩⟩⟩⟩⟩⟩⟩⟩⟩⟩⟩⟩⟩⟩⟩⟩⟩⟩⟩⟩⟩⟩⟩⟩⟩⟩⟩⟩⟩⟩⟩⟩⟩⟩⟩⟩⟩⟩⟩⟩⟩⟩⟩⟩)
def lp0 : A1 := lpS tab [18, 22, 37, 42, 56, 60, 65] [18, 22, 36, 37, 42] [(38, (E5 63))]
theorem pr0 : PR Try.prog lp0 := prS tab [18, 22, 37, 42, 56, 60, 65] [18, 22, 36, 37, 42] [(38, (E5 63))] (by
 intro x hx
 simp only [List.mem_cons, List.not_mem_nil, or_false] at hx
 rcases hx with rfl
 ·exact so38
 ) allFR
theorem crashAt : L5 Try.prog 34 (Ur Try.f16) (Us Try.prog Try.f16).1 (Us Try.prog Try.f16).2 Try.f16 (Rt Try.f16) where
 body := by kernel_rfl
 ntmps := by kernel_rfl
 res := by kernel_rfl
 mixed := by kernel_rfl
 c0 := by kernel_rfl
 c1 := by kernel_rfl
 c2 := by kernel_rfl
 c3 := by kernel_rfl
 c4 := by kernel_rfl
 c5 := by kernel_rfl
 c6 := by kernel_rfl
 c7 := by kernel_rfl
 c8 := by kernel_rfl
 c9 := by kernel_rfl
 c10 := by kernel_rfl
 c11 := by kernel_rfl
 s11 := by kernel_rfl
 h11 := by kernel_rfl
 p11 := ⟨by kernel_rfl, by kernel_rfl, by kernel_rfl⟩
 c12 := by kernel_rfl
 s12 := by kernel_rfl
 h12 := by kernel_rfl
 p12 := ⟨by kernel_rfl, by kernel_rfl, by kernel_rfl⟩
 c13 := by kernel_rfl
 s13 := by kernel_rfl
 h13 := by kernel_rfl
 p13 := ⟨by kernel_rfl, by kernel_rfl, by kernel_rfl⟩
 c14 := by kernel_rfl
 c15 := by kernel_rfl
 p15 := ⟨by kernel_rfl, by kernel_rfl, by kernel_rfl⟩
 g15 := by kernel_rfl
 d15 := by kernel_rfl
 l15 := by kernel_rfl
 i15 := by kernel_rfl
 c16 := by kernel_rfl
 c17 := by kernel_rfl
 tm := by kernel_rfl
 tk := by kernel_rfl
theorem so16 : Fv Try.prog 16 Ih := Xv pr0 (by kernel_rfl) Try.func16 crashAt (fun s => Jp (lp := lp0) (K := 34) (by kernel_rfl) (by kernel_rfl) s)
def lp : A1 := lpS tab [18, 22, 37, 42, 56, 60, 65] [18, 22, 36, 37, 42] [(38, (E5 63)), (16, Ih)]
theorem pr : PR Try.prog lp := prS tab [18, 22, 37, 42, 56, 60, 65] [18, 22, 36, 37, 42] [(38, (E5 63)), (16, Ih)] (by
 intro x hx
 simp only [List.mem_cons, List.not_mem_nil, or_false] at hx
 rcases hx with rfl | rfl
 ·exact so38
 ·exact so16
 ) allFR
end Go.Proofs.Ythmjaeflpgcmdaa
