/- TokenCodes' and TokenDecodes' runs in LS tell true. -/
import Derived.Test.YtmfdjhflhhaodaaLsLaws
import Derived.Test.YtmfdjhflhhaodaaLsArg
set_option linter.unusedVariables false
namespace Go.Proofs.Ytmfdjhflhhaodaa
open Go Go.LS

theorem run3 : ∀ vs, OkArgs [(true, [.int .i64, .int .i64, .int .i64])] vs → ∃ k st', runF lp k 3 vs [] = some (.p (.bool true), st') := by
  rintro vs ⟨ps, m, rfl, ⟨_, _, rfl, ⟨kd, rfl, _, _⟩, ⟨_, _, rfl, ⟨ix, rfl, _, _⟩, ⟨_, _, rfl, ⟨tm, rfl, _, _⟩, rfl⟩⟩⟩, rfl⟩
  have key : Runs lp 3 [tok kd ix tm] [] (.p (.bool true), []) := by
    by_cases h : tmay kd ix tm = true
    · obtain ⟨g1, g2⟩ := tmay_bounds h
      obtain ⟨h1, h2, h3, h4⟩ := dok_code h
      have he : dE (tcode kd ix tm) = 0 := by simp [dE, h1]
      have := @codes_ny kd ix tm (by simp [h]) g1 g2 (by simp [he])
      simpa [h2, h3, h4] using this
    · exact codes_y (by simp [h])
  obtain ⟨k, hk⟩ := key
  exact ⟨k, _, hk⟩

theorem run4 : ∀ vs, OkArgs [(false, [.sl [.int .u8] 1])] vs → ∃ k st', runF lp k 4 vs [] = some (.p (.bool true), st') := by
  rintro vs ⟨_, _, rfl, ⟨_, _, rfl, ⟨B, rfl, hB1, hB2, hB3⟩, rfl⟩, rfl⟩
  obtain ⟨b, rfl⟩ := okBytes hB3
  have key : Runs lp 4 [.p (.sl (bs b))] [] (.p (.bool true), []) := by
    by_cases hl : b.length > 1000
    · exact decs_y (by rw [bs_len]; simp; omega)
    · have hl' : (decide (((List.length (bs b) : Nat) : Int) > 1000)) = false := by rw [bs_len]; simp; omega
      by_cases hb : b = []
      · subst hb
        by_cases hk : dok [] = true
        · have he : dE [] = 0 := by simp [dE, hk]
          exact decs0_yyy (by simp) (by simp [he, hk]) hk
        · have hk : dok [] = false := by simpa using hk
          have he : dE [] = 180 := by simp [dE, hk]
          have := decs0_yyn (by simp) (by simp [he, hk]) hk
          simpa [he, bs] using this
      · by_cases hk : dok b = true
        · have he : dE b = 0 := by simp [dE, hk]
          exact decs_nyyy hl' (by simp; omega) hb (by simp) (by simp [he, hk]) hk
        · have hk : dok b = false := by simpa using hk
          have he : dE b = 180 := by simp [dE, hk]
          have := decs_nyyn hl' (by simp; omega) hb (by simp) (by simp [he, hk]) hk
          simpa [he] using this
  obtain ⟨k, hk⟩ := key
  exact ⟨k, _, hk⟩
end Go.Proofs.Ytmfdjhflhhaodaa
