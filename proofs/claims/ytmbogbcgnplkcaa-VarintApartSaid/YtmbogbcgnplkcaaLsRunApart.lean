/- VarintApart's run in LS tells true. -/
import Derived.Test.YtmbogbcgnplkcaaLsLaws
set_option linter.unusedVariables false
namespace Go.Proofs.Ytmbogbcgnplkcaa
open Go Go.LS
theorem zz_inj {x y : Int} (h : zz x = zz y) : x = y := by
  unfold zz at h
  split at h <;> split at h <;> omega

theorem run4 : ∀ vs, OkArgs [(false, [.int .i64]), (false, [.int .i64])] vs → ∃ k st', runF lp k 4 vs [] = some (.p (.bool true), st') := by
  rintro vs ⟨_, _, rfl, ⟨_, _, rfl, ⟨x, rfl, h0, h1⟩, rfl⟩, ⟨_, _, rfl, ⟨_, _, rfl, ⟨y, rfl, g0, g1⟩, rfl⟩, rfl⟩⟩
  replace h0 : -9223372036854775808 ≤ x := h0
  replace h1 : x ≤ 9223372036854775807 := h1
  replace g0 : -9223372036854775808 ≤ y := g0
  replace g1 : y ≤ 9223372036854775807 := g1
  have key : Runs lp 4 [.p (.int .i64 x), .p (.int .i64 y)] [] (.p (.bool true), []) := by
    have hx := int_runs h0 h1
    have hy := int_runs g0 g1
    by_cases hgt : (vcode (zz x)).length > (vcode (zz y)).length
    · have hne : x ≠ y := by rintro rfl; omega
      have := apart_gt hx hy (by simp [bs_len]; omega) (by simpa using hne) (opIs_sliceTake (bs_len _) (by rw [bs_len]; omega))
      have hb : ((vcode (zz x)).take (vcode (zz y)).length == vcode (zz y)) = false := by
        simp only [beq_eq_false_iff_ne]
        intro h
        exact hne (zz_inj (vcode_prefix _ _ h)).symm
      rwa [hb] at this
    · by_cases he : x = y
      · exact apart_eq hx hy (by simp [bs_len]; omega) (by simpa using he)
      · by_cases hl : (vcode (zz x)).length = (vcode (zz y)).length
        · have := apart_le hx hy (by simp [bs_len]; omega) (by simpa using he) (opIs_sliceAll (by rw [bs_len]; exact hl) (vcode_pos _))
          have hb : (vcode (zz y) == vcode (zz x)) = false := by
            simp only [beq_eq_false_iff_ne]
            intro h
            exact he (zz_inj (vcode_prefix _ _ (by rw [h, List.take_length])))
          rwa [hb] at this
        · have := apart_lt hx hy (by simp [bs_len]; omega) (by simpa using he) (opIs_sliceTake (bs_len _) (by rw [bs_len]; omega))
          have hb : ((vcode (zz y)).take (vcode (zz x)).length == vcode (zz x)) = false := by
            simp only [beq_eq_false_iff_ne]
            intro h
            exact he (zz_inj (vcode_prefix _ _ h))
          rwa [hb] at this
  obtain ⟨k, hk⟩ := key
  exact ⟨k, [], hk⟩
end Go.Proofs.Ytmbogbcgnplkcaa
