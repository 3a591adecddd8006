/- FramePuts' run in LS tells true. -/
import Derived.Test.YthiilhepneddpaaLsPuts5
import Derived.Test.YthiilhepneddpaaLsG5
set_option linter.unusedVariables false
set_option linter.unusedSimpArgs false
namespace Go.Proofs.Ythiilhepneddpaa
open Go Go.LS
theorem run4 : ∀ vs, OkArgs [(false, [.sl [.int .u8] 1]), (false, [.sl [.int .u8] 1])] vs → ∃ k st', runF lp k 4 vs [] = some (.p (.bool true), st') := by
  rintro vs ⟨_, _, rfl, ⟨_, _, rfl, ⟨A, rfl, hA1, -, hA3⟩, rfl⟩, ⟨_, _, rfl, ⟨_, _, rfl, ⟨B, rfl, -, -, hB3⟩, rfl⟩, rfl⟩⟩
  obtain ⟨ah, rfl⟩ := okBytes hA3
  obtain ⟨bd, rfl⟩ := okBytes hB3
  rw [bs_len] at hA1
  replace hA1 : ah.length ≤ 140737488355328 := by simp [reachBytes] at hA1; omega
  have key : Runs lp 4 [.p (.sl (bs ah)), .p (.sl (bs bd))] [] (.p (.bool true), []) := by
    by_cases hl : bd.length > 131072
    · exact puts_y (by rw [bs_len]; simp; omega)
    · have c1 : (decide (((List.length (bs bd) : Nat) : Int) > 131072)) = false := by rw [bs_len]; simp; omega
      have hw : IntKind.wrap .i64 (((List.length (bs ah) : Nat) : Int) + 9) = (ah.length : Int) + 9 := by rw [bs_len, wrap_i64 (by omega) (by omega)]
      have h2 : 0 < IntKind.wrap .i64 (((List.length (bs ah) : Nat) : Int) + 9) ∧ IntKind.wrap .i64 (((List.length (bs ah) : Nat) : Int) + 9) * (1 : Int) ≤ 281474976710656 ∧ IntKind.wrap .i64 (((List.length (bs ah) : Nat) : Int) + 9) ≤ 9223372036854775807 := by
        rw [hw]; omega
      by_cases hb : bd.length > 65536
      · have c4 : (decide (((List.length (bs bd) : Nat) : Int) > 65536)) = true := by rw [bs_len]; simp; omega
        have := @puts_nyn ah bd c1 h2 (by simp only [List.length_nil]; omega) c4 (by simp)
        rw [show fsize bd = 0 by simp [fsize]; omega] at this
        exact this
      · have c4 : (decide (((List.length (bs bd) : Nat) : Int) > 65536)) = false := by rw [bs_len]; simp; omega
        have hf := fpre_len (b := bd) (by omega)
        have hfl : (frame bd).length ≤ 65550 := by simp only [frame, List.length_append, four_len]; omega
        have := @puts_nnny ah bd c1 h2 (by simp only [List.length_nil]; omega) c4 (by simp only [List.nil_append]; omega) (by simp) (by omega) (by omega) (by simp)
        rw [bs_len, show fsize bd = ((frame bd).length : Int) by simp only [fsize]; rw [if_pos (by omega)]] at this
        simpa using this
  obtain ⟨k, hk⟩ := key
  exact ⟨k, _, hk⟩
end Go.Proofs.Ythiilhepneddpaa
