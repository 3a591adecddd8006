/- FrameScans' run in LS tells true. -/
import Derived.Test.YthiilhepneddpaaLsScan5
import Derived.Test.YthiilhepneddpaaLsG5
set_option linter.unusedVariables false
set_option linter.unusedSimpArgs false
namespace Go.Proofs.Ythiilhepneddpaa
open Go Go.LS
theorem scan_len (b : List UInt8) : (scan b).1.length ≤ b.length := scanF_len _ _
theorem run5 : ∀ vs, OkArgs [(false, [.sl [.int .u8] 1])] vs → ∃ k st', runF lp k 5 vs [] = some (.p (.bool true), st') := by
  rintro vs ⟨_, _, rfl, ⟨_, _, rfl, ⟨A, rfl, hA1, -, hA3⟩, rfl⟩, rfl⟩
  obtain ⟨b, rfl⟩ := okBytes hA3
  have key : Runs lp 5 [.p (.sl (bs b))] [] (.p (.bool true), []) := by
    by_cases hl : b.length > 5000
    · exact fscan_y (by rw [bs_len]; simp; omega)
    · have c1 : (decide (((List.length (bs b) : Nat) : Int) > 5000)) = false := by rw [bs_len]; simp; omega
      cases b with
      | nil => exact fscan0 (by simp) (by kernel_rfl)
      | cons x b =>
        have hs := scan_len (x :: b)
        cases hk : nok (x :: b) with
        | true =>
          have := fscan_ny (b := x :: b) c1 (by simp only [List.length_nil]; omega) (by simp) (by omega) hk (by omega)
          rw [beq_self_eq_true] at this
          exact this
        | false => exact fscan_nn (b := x :: b) c1 (by simp only [List.length_nil]; omega) (by simp) (by omega) hk
  obtain ⟨k, hk⟩ := key
  exact ⟨k, _, hk⟩
end Go.Proofs.Ythiilhepneddpaa
