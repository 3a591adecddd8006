/- FrameSums' run in LS tells true. -/
import Derived.Test.YthiilhepneddpaaLsLawsA
import Derived.Test.YthiilhepneddpaaLsArg
set_option linter.unusedVariables false
namespace Go.Proofs.Ythiilhepneddpaa
open Go Go.LS
theorem run3 : ∀ vs, OkArgs [(false, [.sl [.int .u8] 1])] vs → ∃ k st', runF lp k 3 vs [] = some (.p (.bool true), st') := by
  rintro vs ⟨_, _, rfl, ⟨_, _, rfl, ⟨B, rfl, hB1, hB2, hB3⟩, rfl⟩, rfl⟩
  obtain ⟨b, rfl⟩ := okBytes hB3
  rw [bs_len] at hB1 hB2
  replace hB1 : b.length ≤ 140737488355328 := by simp [reachBytes] at hB1; omega
  have key : Runs lp 3 [.p (.sl (bs b))] [] (.p (.bool true), []) := by
    by_cases hl : b.length > 131072
    · exact sums_y (by rw [bs_len]; simp; omega)
    · have := @sums_n b (by rw [bs_len]; simp; omega) hB1
      simpa using this
  obtain ⟨k, hk⟩ := key
  exact ⟨k, _, hk⟩
end Go.Proofs.Ythiilhepneddpaa
