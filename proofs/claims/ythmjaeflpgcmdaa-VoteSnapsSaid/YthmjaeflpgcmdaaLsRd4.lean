import Derived.Test.YthmjaeflpgcmdaaLsAb
import Derived.Test.YthmjaeflpgcmdaaLsRd3
set_option linter.unusedVariables false
set_option linter.unusedSimpArgs false
namespace Go.Proofs.Ythmjaeflpgcmdaa
open Go Go.LS
theorem Vh {n : Nat} (h : n < 2 ^ 63) : IntKind.wrap .i64 (n : Int) = (n : Int) := A1 (by omega) (by omega)
abbrev Src := BY × Bool
abbrev sto (s : Src) : List LObj := stL s.1 s.2
def Af (s : Src) (most : Int) : Int × Src :=
 if s.2 = true ∨ B9 s.1 = 0 ∨ 4611686018427387904 < Cn s.1 ∨ most < (Cn s.1 : Int) then (0, s.1, true) else ((Cn s.1 : Int), s.1.drop (B9 s.1), false)
theorem P2 (s : Src) (most : Int) : Runs lp 57 [P00, pI most] (sto s) (pI (Af s most).1, sto (Af s most).2) := by
 obtain ⟨L, bad⟩ := s
 cases bad with
 | true => simpa [Af] using @Xx L most
 | false =>
  by_cases h1 : Cn L ≤ 4611686018427387904
  ·have e := Vh (n := Cn L) (by omega)
   have h1' : (Cn L : Int) ≤ 4611686018427387904 := by omega
   by_cases h : B9 L = 0
   ·simpa [Af, h] using @Rr L most (by simp [h1']) (by simp [h])
   ·by_cases h2 : (Cn L : Int) ≤ most
    ·have := @P0 L most (by simp [h1']) (by simp [h]) (by rw [e]; simpa using h2) (Pz L)
     rw [e] at this
     have q1 : ¬ 4611686018427387904 < Cn L := by omega
     have q2 : ¬ most < (Cn L : Int) := by omega
     simpa [Af, h, q1, q2] using this
    ·have q2 : most < (Cn L : Int) := by omega
     simpa [Af, h, q2] using @P1 L most (by simp [h1']) (by simp [h]) (by rw [e]; simpa using q2)
  ·have h1' : ¬ (Cn L : Int) ≤ 4611686018427387904 := by omega
   have q1 : 4611686018427387904 < Cn L := by omega
   by_cases h : B9 L = 0
   ·simpa [Af, h] using @Rs L most (by simp; omega) (by simp [h])
   ·simpa [Af, h, q1] using @Rt L most (by simp; omega) (by simp [h])
def Au (s : Src) : Int := if s.2 then 0 else (s.1.length : Int)
theorem M2 (s : Src) : Runs lp 58 [P00] (sto s) (pI (Au s), sto s) := by
 obtain ⟨L, bad⟩ := s
 have := @vleft L bad
 cases bad <;> simpa [Au, A9] using this
theorem Zr (s : Src) : Runs lp 59 [P00] (sto s) (pB s.2, sto s) := @Tc s.1 s.2
end Go.Proofs.Ythmjaeflpgcmdaa
