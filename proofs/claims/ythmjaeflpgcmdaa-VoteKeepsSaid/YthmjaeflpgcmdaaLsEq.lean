import Derived.Test.YthmjaeflpgcmdaaLsEq0
set_option linter.unusedVariables false
set_option linter.unusedSimpArgs false
namespace Go.Proofs.Ythmjaeflpgcmdaa
open Go Go.LS
theorem eq_loop {A B : List UInt8} (hA : A.length ≤ 140737488355328) (hl : A.length = B.length) : ∀ (j i : Nat), j + i = A.length → A.take i = B.take i →
  LoopAt lp 0 (Aj M2 0).1 (Aj M2 0).2 (tl 0 26 [(0, .p (.sl (bs A))), (1, .p (.sl (bs B))), (12, .p (.int .i64 ((List.length (bs A) : Nat) : Int))), (13, .p (.int .i64 (i : Int)))]) []
   (if A = B then (.exit 0, tl 0 26 [], []) else (.ret, tl 0 26 [(4, .p (.bool false))], [])) := by
 intro j
 induction j with
 | zero =>
  intro i hi ht
  have e1 : A.take i = A := List.take_of_length_le (by omega)
  have e2 : B.take i = B := List.take_of_length_le (by omega)
  rw [e1, e2] at ht
  rw [if_pos ht]
  exact eqR_n (by rw [A6]; simp; omega)
 | succ j ih =>
  intro i hi ht
  have hw : IntKind.wrap .i64 ((i : Int) + 1) = ((i + 1 : Nat) : Int) := by rw [Aw (by omega) (by omega)]; rfl
  have h1 : (decide ((i : Int) < ((List.length (bs A) : Nat) : Int))) = true := by rw [A6]; simp; omega
  by_cases hc : A.getD i 0 = B.getD i 0
  ·refine eqR_yy h1 (by omega) (by omega) (by simp only [hc]; simp) ?_
   rw [hw]
   refine ih (i + 1) (by omega) ?_
   rw [Km (by omega), Km (by omega), ht, hc]
  ·have hne : A ≠ B := by rintro rfl; exact hc rfl
   rw [if_neg hne]
   refine eqR_yn h1 (by omega) (by omega) ?_
   simp only [beq_eq_false_iff_ne, ne_eq]
   intro h
   exact hc (UInt8.toNat_inj.1 (by omega))
theorem vEq {A B : List UInt8} (hA : A.length ≤ 140737488355328) : Runs lp 60 [.p (.sl (bs A)), .p (.sl (bs B))] [] (.p (.bool (decide (A = B))), []) := by
 by_cases hl : A.length = B.length
 ·have h := eq_loop hA hl A.length 0 rfl (by simp)
  by_cases he : A = B
  ·rw [if_pos he] at h
   rw [decide_eq_true he]
   exact Vz (by rw [A6, A6, hl]; simp) h
  ·rw [if_neg he] at h
   rw [decide_eq_false he]
   exact Yd (by rw [A6, A6, hl]; simp) h
 ·have he : A ≠ B := by rintro rfl; exact hl rfl
  rw [decide_eq_false he]
  exact Ye (by rw [A6, A6]; simp; omega)
end Go.Proofs.Ythmjaeflpgcmdaa
