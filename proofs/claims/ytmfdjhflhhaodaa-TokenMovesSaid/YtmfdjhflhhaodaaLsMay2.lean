/- May: which tokens may be. -/
import Derived.Test.YtmfdjhflhhaodaaLsMay
import Derived.Test.YtmfdjhflhhaodaaLsLives
set_option linter.unusedVariables false
set_option linter.unusedSimpArgs false
namespace Go.Proofs.Ytmfdjhflhhaodaa
open Go Go.LS

/-- May a token be? -/
def tmay (kd ix tm : Int) : Bool :=
  decide ((kd = 1 ∨ kd = 2) ∧ 0 ≤ ix ∧ ix ≤ 1099511627776 ∧ 0 ≤ tm ∧ tm ≤ 1099511627776 ∧ (ix = 0 ↔ tm = 0) ∧ (kd = 1 ∨ 0 < ix))

abbrev tok (kd ix tm : Int) : LV := .agg [.p (.int .i64 kd), .p (.int .i64 ix), .p (.int .i64 tm)]

theorem vMay (kd ix tm : Int) : Runs lp 8 [tok kd ix tm] [] (.p (.bool (tmay kd ix tm)), []) := by
  have h := @vmay kd ix tm
  repeat' split at h
  all_goals simp at *
  all_goals first
    | (rw [show tmay kd ix tm = false by simp [tmay]; omega]; exact h)
    | (rw [show tmay kd ix tm = true by simp [tmay]; omega]; exact h)
    | (rw [show tmay kd ix tm = (kd == 1 && (ix == 0 && tm == 0)) by rw [Bool.eq_iff_iff]; simp [tmay]; omega]; exact h)
theorem tmay_bounds {kd ix tm : Int} (h : tmay kd ix tm = true) : (0 ≤ ix ∧ ix ≤ 4611686018427387904) ∧ (0 ≤ tm ∧ tm ≤ 4611686018427387904) := by
  simp [tmay] at h
  omega
end Go.Proofs.Ytmfdjhflhhaodaa
