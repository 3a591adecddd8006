import Derived.Test.YtegboccilfofmaaGreatLsCod4
set_option linter.unusedVariables false
set_option maxRecDepth 100000
set_option linter.unusedSimpArgs false
namespace Go.Proofs.YtegboccilfofmaaGreat
open Go Go.LS
theorem Rm {k n : Int} {s : List UInt8} {l : Nat} {ns : List (List UInt8)} (h : De k n s l ns = true) :
  (k = 1 ∧ n = 0 ∧ s = [] ∧ l = 0 ∧ ns = []) ∨ (k = 2 ∧ (0 ≤ n ∧ n ≤ 1) ∧ s = [] ∧ l = 0 ∧ ns = []) ∨ (k = 3 ∧ s = [] ∧ l = 0 ∧ ns = []) ∨ ((k = 4 ∨ k = 5) ∧ n = 0 ∧ l = 0 ∧ ns = []) ∨ (k = 6 ∧ n = 0 ∧ s = [] ∧ ns = []) ∨ (k = 7 ∧ n = 0 ∧ s = [] ∧ ns.length = l) := by
 unfold De at h
 by_cases h1 : k = 1
 ·subst h1; simp at h; simp [h]
 ·by_cases h2 : k = 2
  ·subst h2; simp at h; simp [h]
  ·by_cases h3 : k = 3
   ·subst h3; simp at h; simp [h]
   ·by_cases h4 : k = 4 ∨ k = 5
    ·have h4' : (k == 4 || k == 5) = true := by simpa using h4
     rw [if_neg (by simpa using h1), if_neg (by simpa using h2), if_neg (by simpa using h3), if_pos h4'] at h
     simp at h
     exact .inr (.inr (.inr (.inl ⟨h4, by simp [h]⟩)))
    ·have h4' : ¬ (k == 4 || k == 5) = true := by simpa using h4
     rw [if_neg (by simpa using h1), if_neg (by simpa using h2), if_neg (by simpa using h3), if_neg h4'] at h
     by_cases h6 : k = 6
     ·subst h6; simp at h; simp [h]
     ·by_cases h7 : k = 7
      ·subst h7; simp at h; simp [h]
      ·rw [if_neg (by simpa using h6), if_neg (by simpa using h7)] at h; cases h
end Go.Proofs.YtegboccilfofmaaGreat
