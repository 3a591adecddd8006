import Derived.Test.YtopbbbhhbnghpaaGreatDoorLsTn3
import Derived.Test.YtopbbbhhbnghpaaGreatDoorLsG7
namespace Go.Proofs.YtopbbbhhbnghpaaGreatDoor
open Go Go.LS
theorem run4 : ∀ vs, OkArgs [] vs → ∃ k st', runF lp k 4 vs [] = some (.p (.bool true), st') := by
  intro vs h
  obtain rfl := okEnd h
  obtain ⟨m, hm⟩ := topNames4
  exact ⟨m, [], hm⟩
end Go.Proofs.YtopbbbhhbnghpaaGreatDoor
