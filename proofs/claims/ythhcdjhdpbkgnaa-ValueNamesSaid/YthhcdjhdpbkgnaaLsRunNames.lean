/- Values: ways, printed by symex.py. -/
import Derived.Test.YthhcdjhdpbkgnaaLsNm2
set_option linter.unusedVariables false
set_option maxRecDepth 100000
namespace Go.Proofs.Ythhcdjhdpbkgnaa
open Go Go.LS

theorem names_t {s : List UInt8} (w1 : List.length (α := UInt8) s ≤ 140737488355328) :
    Runs lp 4 [(.p (.str s))] [] (((.p (.bool (((nameB s) == (nameB s)) != false))), [])) := by
  exact
    have q1 : Runs lp 9 [] [] ((.p (.bool true)), []) := ⟨400, lives9⟩
    have q2 : Runs lp 20 [(.p (.str s))] [] ((.p (.bool (nameB s))), []) := (vName s)
    have q3 : Runs lp 21 [(.p (.str s))] [] ((.p (.bool (nameB s))), []) := (rName s w1)
    runO_sound (N := 100) (os := [(1, oC q1), (4, oC q2), (3, oC q3)]) (ps := [_, _, _]) (by kernel_rfl) ⟨q1, q2, q3, trivial⟩

theorem run4 : ∀ vs, OkArgs [(false, [.str])] vs → ∃ k st', runF lp k 4 vs [] = some (.p (.bool true), st') := by
  rintro vs ⟨_, _, rfl, ⟨_, _, rfl, ⟨s, rfl, hs⟩, rfl⟩, rfl⟩
  replace hs : s.length ≤ 140737488355328 := by simp [reachBytes] at hs; omega
  have := names_t hs
  rw [show ((nameB s == nameB s) != false) = true by simp] at this
  obtain ⟨k, hk⟩ := this
  exact ⟨k, _, hk⟩

end Go.Proofs.Ythhcdjhdpbkgnaa
