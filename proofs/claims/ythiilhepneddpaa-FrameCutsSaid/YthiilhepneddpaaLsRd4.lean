/- What the readers tell, the program's and the document's the same. -/
import Derived.Test.YthiilhepneddpaaLsRd3
set_option linter.unusedVariables false
set_option linter.unusedSimpArgs false
namespace Go.Proofs.Ythiilhepneddpaa
open Go Go.LS

theorem wrapI_nat {n : Nat} (h : n < 2 ^ 63) : IntKind.wrap .i64 (n : Int) = (n : Int) := wrap_i64 (by omega) (by omega)

/-- A source: what is left, and whether it is bad. -/
abbrev Src := List UInt8 × Bool
abbrev sto (s : Src) : List LObj := stL s.1 s.2

def sCount (s : Src) (most : Int) : Int × Src :=
  if s.2 = true ∨ glen s.1 = 0 ∨ 4611686018427387904 < gnum s.1 ∨ most < (gnum s.1 : Int) then (0, s.1, true) else ((gnum s.1 : Int), s.1.drop (glen s.1), false)
theorem vCount (s : Src) (most : Int) : Runs lp 28 [.ptr 0 0 0, .p (.int .i64 most)] (sto s) (.p (.int .i64 (sCount s most).1), sto (sCount s most).2) := by
  obtain ⟨L, bad⟩ := s
  cases bad with
  | true => simpa [sCount] using @vcount_b L most
  | false =>
    by_cases h1 : gnum L ≤ 4611686018427387904
    · have e := wrapI_nat (n := gnum L) (by omega)
      have h1' : (gnum L : Int) ≤ 4611686018427387904 := by omega
      by_cases h : glen L = 0
      · simpa [sCount, h] using @vcount_o_yy L most (by simp [h1']) (by simp [h])
      · by_cases h2 : (gnum L : Int) ≤ most
        · have := @vcount_o_yny L most (by simp [h1']) (by simp [h]) (by rw [e]; simpa using h2) (glen_le L)
          rw [e] at this
          have q1 : ¬ 4611686018427387904 < gnum L := by omega
          have q2 : ¬ most < (gnum L : Int) := by omega
          simpa [sCount, h, q1, q2] using this
        · have q2 : most < (gnum L : Int) := by omega
          simpa [sCount, h, q2] using @vcount_o_ynn L most (by simp [h1']) (by simp [h]) (by rw [e]; simpa using q2)
    · have h1' : ¬ (gnum L : Int) ≤ 4611686018427387904 := by omega
      have q1 : 4611686018427387904 < gnum L := by omega
      by_cases h : glen L = 0
      · simpa [sCount, h] using @vcount_o_ny L most (by simp; omega) (by simp [h])
      · simpa [sCount, h, q1] using @vcount_o_nn L most (by simp; omega) (by simp [h])
def sLeft (s : Src) : Int := if s.2 then 0 else (s.1.length : Int)
theorem vLeft (s : Src) : Runs lp 29 [.ptr 0 0 0] (sto s) (.p (.int .i64 (sLeft s)), sto s) := by
  obtain ⟨L, bad⟩ := s
  have := @vleft L bad
  cases bad <;> simpa [sLeft, bs_len] using this
theorem vBad (s : Src) : Runs lp 30 [.ptr 0 0 0] (sto s) (.p (.bool s.2), sto s) := @vbad s.1 s.2
end Go.Proofs.Ythiilhepneddpaa
