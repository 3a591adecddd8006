/- VarintCodes' run in LS tells true. -/
import Derived.Test.YtmbogbcgnplkcaaLsLaws
set_option linter.unusedVariables false
namespace Go.Proofs.Ytmbogbcgnplkcaa
open Go Go.LS
theorem run3 : ∀ vs, OkArgs [(false, [.int .i64]), (false, [.str])] vs → ∃ k st', runF lp k 3 vs [] = some (.p (.bool true), st') := by
  rintro vs ⟨_, _, rfl, ⟨_, _, rfl, ⟨x, rfl, h0, h1⟩, rfl⟩, ⟨_, _, rfl, ⟨_, _, rfl, ⟨s, rfl, hs⟩, rfl⟩, rfl⟩⟩
  replace h0 : -9223372036854775808 ≤ x := h0
  replace h1 : x ≤ 9223372036854775807 := h1
  have key : Runs lp 3 [.p (.int .i64 x), .p (.str s)] [] (.p (.bool true), []) := by
    by_cases hlo : x < 0
    · exact codes_lo (count_bad (.inl hlo)) (int_runs h0 h1) (rint_runs h0 h1) (by simp) (text_runs hs) (rtext_runs hs) (by simp) (by simpa using hlo)
    · by_cases hhi : x > 4611686018427387904
      · exact codes_hi (count_bad (.inr hhi)) (int_runs h0 h1) (rint_runs h0 h1) (by simp) (text_runs hs) (rtext_runs hs) (by simp) (by simpa using hlo) (by simpa using hhi)
      · obtain ⟨n, rfl⟩ : ∃ n : Nat, x = n := ⟨x.toNat, by omega⟩
        have := codes_ok (count_runs (by omega)) (int_runs h0 h1) (rint_runs h0 h1) (by simp) (text_runs hs) (rtext_runs hs) (by simp) (by simp) (by simp; omega) (rcount_runs (n := n) (by omega))
        simpa using this
  obtain ⟨k, hk⟩ := key
  exact ⟨k, [], hk⟩
end Go.Proofs.Ytmbogbcgnplkcaa
