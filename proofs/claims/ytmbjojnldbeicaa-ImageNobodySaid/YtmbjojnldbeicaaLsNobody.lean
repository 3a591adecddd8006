/- ImageNobody's run in LS tells true. -/
import Derived.Test.YtmbjojnldbeicaaLsF
import Derived.Test.YtmbjojnldbeicaaLsArg
set_option linter.unusedVariables false
namespace Go.Proofs.Ytmbjojnldbeicaa
open Go Go.LS
theorem nobody7 (k a n i : Int) (s : List UInt8) (l m : List (List PV)) (b : Bool) :
    runF lp 200 7 [.agg [.p (.int .i64 k), .p (.int .i64 a), .p (.int .i64 n), .p (.str s), .p (.sl l), .p (.sl m), .p (.bool b)], .p (.int .i64 i)] [] = some (.p (.bool true), []) := by kernel_rfl
theorem run7 : ∀ k vs, OkArgs [(true, [.int .i64, .int .i64, .int .i64, .str, .pr (RecOk Try.prog [36] 12 k 36) 80, .sl [.str] 16, .bool]), (false, [.int .i64])] vs → ∃ k st', runF lp k 7 vs [] = some (.p (.bool true), st') := by
  rintro k vs ⟨ps, m, rfl, ⟨_, _, rfl, ⟨kd, rfl, _, _⟩, ⟨_, _, rfl, ⟨a, rfl, _, _⟩, ⟨_, _, rfl, ⟨n, rfl, _, _⟩, ⟨_, _, rfl, ⟨s, rfl, _⟩, ⟨_, _, rfl, ⟨l, rfl, _, _, _⟩, ⟨_, _, rfl, ⟨q, rfl, _, _, _⟩, ⟨_, _, rfl, ⟨b, rfl⟩, rfl⟩⟩⟩⟩⟩⟩⟩, ⟨_, _, rfl, ⟨_, _, rfl, ⟨i, rfl, _, _⟩, rfl⟩, rfl⟩⟩
  exact ⟨200, [], nobody7 kd a n i s l q b⟩
end Go.Proofs.Ytmbjojnldbeicaa
