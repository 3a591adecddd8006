import Derived.Test.YtlkhoaoodgebjaaGreatDoorLsF1
import Derived.Test.YtlkhoaoodgebjaaGreatDoorLsF2
import Derived.Test.YtlkhoaoodgebjaaGreatDoorLsSh
import Derived.Test.YtlkhoaoodgebjaaGreatDoorLsG5
import Derived.Test.YtlkhoaoodgebjaaGreatDoorLsSq
import Derived.Test.YtlkhoaoodgebjaaGreatDoorLsG7
import Derived.KernelRfl
set_option maxRecDepth 100000
namespace Go.Proofs.YtlkhoaoodgebjaaGreatDoor
open Go Go.LS
def tab : List (Option LFn) := [none, none, none, some lf3, none, none, some lf6, some lf7, some lf8, some lf9, some lf10, some lf11, some lf12, some lf13, some lf14, none, none, none, none, some lf19, none, none, some lf22, some lf23, some lf24, some lf25, some lf26, some lf27, some lf28, some lf29, some lf30, some lf31, some lf32, some lf33, some lf34, some lf35, some lf36, some lf37, some lf38, some lf39, none, none, none, some lf43, some lf44, some lf45, some lf46, some lf47, some lf48, some lf49, some lf50, none, none, none, none, none, none, none, some lf58, some lf59, some lf60, some lf61, some lf62, some lf63, some lf64, some lf65, none, some lf67, some lf68, some lf69, some lf70, some lf71, none, none, none, none, none, none, some lf78, some lf79, none, some lf81, some lf82, some lf83, some lf84, some lf85, none, none, none, none, none, none, none, none, some lf94, some lf95, some lf96, some lf97, some lf98, some lf99, some lf100, some lf101, some lf102, some lf103, none, some lf105, some lf106, none, none, none, none, some lf111, some lf112, some lf113, some lf114, none, none, none, none, none, none, some lf121, some lf122, some lf123, some lf124, some lf125, some lf126, some lf127, none, none, none, some lf131, some lf132, some lf133, some lf134, some lf135, none, some lf137, some lf138, some lf139, some lf140, none, none, none, none, none, none, none, none, none, none, none, none, some lf153, none, some lf155, some lf156, some lf157, some lf158, some lf159, some lf160, none, none, none, none, none, none, some lf167, some lf168, some lf169, none, none, none, none, none, none, none, none, none, none, none, none, none, none, none, none, none, none, none, none, none, none, none, none, none, none]
theorem allFR : AllFR Tryz.prog 0 tab := (⟨fr3, ⟨fr6, ⟨fr7, ⟨fr8, ⟨fr9, ⟨fr10, ⟨fr11, ⟨fr12, ⟨fr13, ⟨fr14, ⟨fr19, ⟨fr22, ⟨fr23, ⟨fr24, ⟨fr25, ⟨fr26, ⟨fr27, ⟨fr28, ⟨fr29, ⟨fr30, ⟨fr31, ⟨fr32, ⟨fr33, ⟨fr34, ⟨fr35, ⟨fr36, ⟨fr37, ⟨fr38, ⟨fr39, ⟨fr43, ⟨fr44, ⟨fr45, ⟨fr46, ⟨fr47, ⟨fr48, ⟨fr49, ⟨fr50, ⟨fr58, ⟨fr59, ⟨fr60, ⟨fr61, ⟨fr62, ⟨fr63, ⟨fr64, ⟨fr65, ⟨fr67, ⟨fr68, ⟨fr69, ⟨fr70, ⟨fr71, ⟨fr78, ⟨fr79, ⟨fr81, ⟨fr82, ⟨fr83, ⟨fr84, ⟨fr85, ⟨fr94, ⟨fr95, ⟨fr96, ⟨fr97, ⟨fr98, ⟨fr99, ⟨fr100, ⟨fr101, ⟨fr102, ⟨fr103, ⟨fr105, ⟨fr106, ⟨fr111, ⟨fr112, ⟨fr113, ⟨fr114, ⟨fr121, ⟨fr122, ⟨fr123, ⟨fr124, ⟨fr125, ⟨fr126, ⟨fr127, ⟨fr131, ⟨fr132, ⟨fr133, ⟨fr134, ⟨fr135, ⟨fr137, ⟨fr138, ⟨fr139, ⟨fr140, ⟨fr153, ⟨fr155, ⟨fr156, ⟨fr157, ⟨fr158, ⟨fr159, ⟨fr160, ⟨fr167, ⟨fr168, ⟨fr169, trivial⟩⟩⟩⟩⟩⟩⟩⟩⟩⟩⟩⟩⟩⟩⟩⟩⟩⟩⟩⟩⟩⟩⟩⟩⟩⟩⟩⟩⟩⟩⟩⟩⟩⟩⟩⟩⟩⟩⟩⟩⟩⟩⟩⟩⟩⟩⟩⟩⟩⟩⟩⟩⟩⟩⟩⟩⟩⟩⟩⟩⟩⟩⟩⟩⟩⟩⟩⟩⟩⟩⟩⟩⟩⟩⟩⟩⟩⟩⟩⟩⟩⟩⟩⟩⟩⟩⟩⟩⟩⟩⟩⟩⟩⟩⟩⟩⟩⟩⟩)
def lp0 : LProg := lpS tab [] [] [(66, (sSorted 105))]
theorem pr0 : PR Tryz.prog lp0 := prS tab [] [] [(66, (sSorted 105))] (by
  intro x hx
  simp only [List.mem_cons, List.not_mem_nil, or_false] at hx
  rcases hx with rfl
  · exact so66
  ) allFR
theorem so80 : SummOK Tryz.prog 80 (sApp lp0 60 81) := sApp_ok (by kernel_rfl) pr0 app80
theorem crashAt : CrashAt Tryz.prog 44 (crashTM Tryz.f18) (crashKT Tryz.prog Tryz.f18).1 (crashKT Tryz.prog Tryz.f18).2 Tryz.f18 (crashGet Tryz.f18) where
  body := by kernel_rfl
  ntmps := by kernel_rfl
  res := by kernel_rfl
  mixed := by kernel_rfl
  c0 := by kernel_rfl
  c1 := by kernel_rfl
  c2 := by kernel_rfl
  c3 := by kernel_rfl
  c4 := by kernel_rfl
  c5 := by kernel_rfl
  c6 := by kernel_rfl
  c7 := by kernel_rfl
  c8 := by kernel_rfl
  c9 := by kernel_rfl
  c10 := by kernel_rfl
  c11 := by kernel_rfl
  s11 := by kernel_rfl
  h11 := by kernel_rfl
  p11 := ⟨by kernel_rfl, by kernel_rfl, by kernel_rfl⟩
  c12 := by kernel_rfl
  s12 := by kernel_rfl
  h12 := by kernel_rfl
  p12 := ⟨by kernel_rfl, by kernel_rfl, by kernel_rfl⟩
  c13 := by kernel_rfl
  s13 := by kernel_rfl
  h13 := by kernel_rfl
  p13 := ⟨by kernel_rfl, by kernel_rfl, by kernel_rfl⟩
  c14 := by kernel_rfl
  c15 := by kernel_rfl
  p15 := ⟨by kernel_rfl, by kernel_rfl, by kernel_rfl⟩
  g15 := by kernel_rfl
  d15 := by kernel_rfl
  l15 := by kernel_rfl
  i15 := by kernel_rfl
  c16 := by kernel_rfl
  c17 := by kernel_rfl
  tm := by kernel_rfl
  tk := by kernel_rfl
theorem so18 : SummOK Tryz.prog 18 sCrash := crash_ok pr0 (by kernel_rfl) Tryz.func18 crashAt (fun s => name_run (lp := lp0) (K := 44) (by kernel_rfl) (by kernel_rfl) s)
def lp : LProg := lpS tab [] [] [(66, (sSorted 105)), (80, sApp lp0 60 81), (18, sCrash)]
theorem pr : PR Tryz.prog lp := prS tab [] [] [(66, (sSorted 105)), (80, sApp lp0 60 81), (18, sCrash)] (by
  intro x hx
  simp only [List.mem_cons, List.not_mem_nil, or_false] at hx
  rcases hx with rfl | rfl | rfl
  · exact so66
  · exact so80
  · exact so18
  ) allFR
end Go.Proofs.YtlkhoaoodgebjaaGreatDoor
