import Derived.Test.YtgdbbmckmphnhaaLsF1
import Derived.Test.YtgdbbmckmphnhaaLsSh
import Derived.Test.YtgdbbmckmphnhaaLsG5
import Derived.Test.YtgdbbmckmphnhaaLsG7
import Derived.KernelRfl
set_option maxRecDepth 100000
namespace Go.Proofs.Ytgdbbmckmphnhaa
open Go Go.LS
def tab : List (Option LFn) := [none, none, none, some lf3, none, some lf5, some lf6, some lf7, some lf8, some lf9, some lf10, none, some lf12, some lf13, some lf14, none, none, none, some lf18, some lf19, some lf20, some lf21, some lf22, some lf23, some lf24, some lf25, some lf26, some lf27, some lf28, some lf29, none, none, none, none, some lf34, none, some lf36, some lf37, none, none, some lf40, none, some lf42, none, none, none, none, none, none, none, none, none, none, none, none, none, none, none, none, none, none, none, none, none]
theorem allFR : AllFR Try.prog 0 tab := (⟨fr3, ⟨fr5, ⟨fr6, ⟨fr7, ⟨fr8, ⟨fr9, ⟨fr10, ⟨fr12, ⟨fr13, ⟨fr14, ⟨fr18, ⟨fr19, ⟨fr20, ⟨fr21, ⟨fr22, ⟨fr23, ⟨fr24, ⟨fr25, ⟨fr26, ⟨fr27, ⟨fr28, ⟨fr29, ⟨fr34, ⟨fr36, ⟨fr37, ⟨fr40, ⟨fr42, trivial⟩⟩⟩⟩⟩⟩⟩⟩⟩⟩⟩⟩⟩⟩⟩⟩⟩⟩⟩⟩⟩⟩⟩⟩⟩⟩⟩)
def lp0 : LProg := lpS tab [] [29] [(33, (sSorted 40)), (35, sClone)]
theorem pr0 : PR Try.prog lp0 := prS tab [] [29] [(33, (sSorted 40)), (35, sClone)] (by
  intro x hx
  simp only [List.mem_cons, List.not_mem_nil, or_false] at hx
  rcases hx with rfl | rfl
  · exact so33
  · exact so35
  ) allFR
theorem crashAt : CrashAt Try.prog 27 (crashTM Try.f11) (crashKT Try.prog Try.f11).1 (crashKT Try.prog Try.f11).2 Try.f11 (crashGet Try.f11) where
  body := by kernel_rfl
  ntmps := by kernel_rfl
  res := by kernel_rfl
  mixed := by kernel_rfl
  c0 := by kernel_rfl
  c1 := by kernel_rfl
  c2 := by kernel_rfl
  c3 := by kernel_rfl
  c4 := by kernel_rfl
  c5 := by kernel_rfl
  c6 := by kernel_rfl
  c7 := by kernel_rfl
  c8 := by kernel_rfl
  c9 := by kernel_rfl
  c10 := by kernel_rfl
  c11 := by kernel_rfl
  s11 := by kernel_rfl
  h11 := by kernel_rfl
  p11 := ⟨by kernel_rfl, by kernel_rfl, by kernel_rfl⟩
  c12 := by kernel_rfl
  s12 := by kernel_rfl
  h12 := by kernel_rfl
  p12 := ⟨by kernel_rfl, by kernel_rfl, by kernel_rfl⟩
  c13 := by kernel_rfl
  s13 := by kernel_rfl
  h13 := by kernel_rfl
  p13 := ⟨by kernel_rfl, by kernel_rfl, by kernel_rfl⟩
  c14 := by kernel_rfl
  c15 := by kernel_rfl
  p15 := ⟨by kernel_rfl, by kernel_rfl, by kernel_rfl⟩
  g15 := by kernel_rfl
  d15 := by kernel_rfl
  l15 := by kernel_rfl
  i15 := by kernel_rfl
  c16 := by kernel_rfl
  c17 := by kernel_rfl
  tm := by kernel_rfl
  tk := by kernel_rfl
theorem so11 : SummOK Try.prog 11 sCrash := crash_ok pr0 (by kernel_rfl) Try.func11 crashAt (fun s => name_run (lp := lp0) (K := 27) (by kernel_rfl) (by kernel_rfl) s)
def lp : LProg := lpS tab [] [29] [(33, (sSorted 40)), (35, sClone), (11, sCrash)]
theorem pr : PR Try.prog lp := prS tab [] [29] [(33, (sSorted 40)), (35, sClone), (11, sCrash)] (by
  intro x hx
  simp only [List.mem_cons, List.not_mem_nil, or_false] at hx
  rcases hx with rfl | rfl | rfl
  · exact so33
  · exact so35
  · exact so11
  ) allFR
end Go.Proofs.Ytgdbbmckmphnhaa
