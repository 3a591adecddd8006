import Derived.Test.YtkhkacbejilafaaGreatLsEl1
import Derived.Test.YtkhkacbejilafaaGreatLsEl2
import Derived.Test.YtkhkacbejilafaaGreatLsEl3
import Derived.Test.YtkhkacbejilafaaGreatLsEl4
import Derived.Test.YtkhkacbejilafaaGreatLsEl5
import Derived.Test.YtkhkacbejilafaaGreatLsEl6
import Derived.Test.YtkhkacbejilafaaGreatLsEl7
import Derived.Test.YtkhkacbejilafaaGreatLsEl8
import Derived.Test.YtkhkacbejilafaaGreatLsEl9
import Derived.Test.YtkhkacbejilafaaGreatLsG7
set_option linter.unusedVariables false
set_option linter.unusedSimpArgs false
set_option maxRecDepth 100000
namespace Go.Proofs.YtkhkacbejilafaaGreat
open Go Go.LS
theorem elA {n : Int} (c1 : (decide (n < 1)) = true) (h2 : Runs lp 12 [] [] (.p (.bool true), [])) :
    Runs lp 4 [.p (.int .i64 n)] [] (.p (.bool true), []) :=
  runO_sound (N := 400) (os := [(4, .b true), (0, .b true), (0, .b true), (1, oC h2)]) (ps := [_, _, _, _]) (by kernel_rfl) ⟨cI c1, cI c1, cI c1, h2, trivial⟩
theorem elB {n : Int} (c1 : (decide (n < 1)) = false) (c2 : (decide (n > 7)) = true) (h3 : Runs lp 12 [] [] (.p (.bool true), [])) :
    Runs lp 4 [.p (.int .i64 n)] [] (.p (.bool true), []) :=
  runO_sound (N := 400) (os := [(4, .b false), (1, .b false), (1, .b false), (0, .b true), (0, oC h3)]) (ps := [_, _, _, _, _]) (by kernel_rfl) ⟨cI c1, cI c1, cI c1, cI c2, h3, trivial⟩
theorem elLives : Runs lp 12 [] [] (.p (.bool true), []) := El_c3
theorem elAll (n : Int) : Runs lp 4 [.p (.int .i64 n)] [] (.p (.bool true), []) := by
  by_cases a : n < 1
  · exact elA (decide_eq_true a) elLives
  · by_cases b : n > 7
    · exact elB (decide_eq_false a) (decide_eq_true b) elLives
    · have : n = 1 ∨ n = 2 ∨ n = 3 ∨ n = 4 ∨ n = 5 ∨ n = 6 ∨ n = 7 := by omega
      rcases this with rfl | rfl | rfl | rfl | rfl | rfl | rfl
      · exact el_1
      · exact el_2
      · exact el_3
      · exact el_4
      · exact el_5
      · exact el_6
      · exact el_7
theorem run4 : ∀ vs, OkArgs [(false, [.int .i64])] vs → ∃ k st', runF lp k 4 vs [] = some (.p (.bool true), st') := by
  intro vs h
  obtain ⟨p0, v0, rfl, h0, g0⟩ := okArg h
  obtain ⟨n, p0, rfl, _, h0⟩ := okI h0
  obtain rfl := okNil h0
  obtain rfl := okEnd g0
  obtain ⟨m, hm⟩ := elAll n
  exact ⟨m, [], hm⟩
end Go.Proofs.YtkhkacbejilafaaGreat
