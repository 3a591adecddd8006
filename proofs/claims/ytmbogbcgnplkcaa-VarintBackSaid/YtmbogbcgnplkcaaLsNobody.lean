/- VarintNobody's run in LS. -/
import Derived.Test.YtmbogbcgnplkcaaLsF
import Derived.Test.YtmbogbcgnplkcaaLsLaw
namespace Go.Proofs.Ytmbogbcgnplkcaa
open Go.LS
theorem nobody7 (k N : Int) : runF lp 200 7 [.agg [.p (.int .i64 k), .p (.int .i64 N)]] [] = some (.p (.bool true), []) := by
  cases N with
  | ofNat n => kernel_rfl
  | negSucc a => cases a <;> kernel_rfl
theorem run7 : ∀ vs, OkArgs [(true, [.int .i64, .int .i64])] vs → ∃ k st', runF lp k 7 vs [] = some (.p (.bool true), st') := by
  rintro vs ⟨ps, m, rfl, ⟨p, r, rfl, ⟨a, rfl, _, _⟩, ⟨q, r', rfl, ⟨b, rfl, _, _⟩, rfl⟩⟩, rfl⟩
  exact ⟨200, [], nobody7 a b⟩
end Go.Proofs.Ytmbogbcgnplkcaa
