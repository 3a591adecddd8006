import Derived.Test.YtmbjojnldbeicaaLsNm
set_option linter.unusedVariables false
set_option linter.unusedSimpArgs false
namespace Go.Proofs.Ytmbjojnldbeicaa
open Go Go.LS
theorem I3 : ∀ (s : List UInt8) (c : UInt8), (decide (Lib.indexByte s c ≥ 0)) = s.contains c
 | [], c => by simp [Lib.indexByte]
 | b :: l, c => by
  have ih := I3 l c
  have h1 := Lib.indexByte_ge l c
  by_cases hb : b = c
  ·subst hb; simp [Lib.indexByte]
  ·have hb' : ¬ c = b := fun h => hb h.symm
   rw [Lib.indexByte, if_neg (by simpa using hb), List.contains_cons, ← ih, show (c == b) = false by simpa using hb', Bool.false_or]
   by_cases h2 : Lib.indexByte l c = -1
   ·simp [h2]
   ·rw [if_neg (by simpa using h2)]
    congr 1
    simp only [ge_iff_le, eq_iff_iff]
    omega
theorem vName (s : List UInt8) : Runs lp 81 [.p (.str s)] [] (.p (.bool (B3 s)), []) := by
 have := @vName0 s (fun _ _ => by omega) (fun h _ => by simp at h; omega)
 revert this
 have e46 : (Int.toNat 46).toUInt8 = 46 := rfl
 rw [e46, I3, show Int.toNat (1 : Int) = 1 from rfl]
 unfold B3
 by_cases h1 : s.length < 1
 ·have e1 : decide (((s.length : Nat) : Int) ≥ 1) = false := decide_eq_false (by omega)
  have e2 : decide (1 ≤ s.length) = false := decide_eq_false (by omega)
  simp only [e1, e2]
  simp
 ·have e1 : decide (((s.length : Nat) : Int) ≥ 1) = true := decide_eq_true (by omega)
  have e2 : decide (1 ≤ s.length) = true := decide_eq_true (by omega)
  by_cases h2 : 32 < s.length
  ·have e3 : decide (((s.length : Nat) : Int) ≤ 32) = false := decide_eq_false (by omega)
   have e4 : decide (s.length ≤ 32) = false := decide_eq_false (by omega)
   simp only [e1, e2, e3, e4]
   simp
  ·have e3 : decide (((s.length : Nat) : Int) ≤ 32) = true := decide_eq_true (by omega)
   have e4 : decide (s.length ≤ 32) = true := decide_eq_true (by omega)
   simp only [e1, e2, e3, e4]
   cases s with
   | nil => simp at h1
   | cons b r =>
    by_cases hb : b = 36
    ·subst hb; simp
    ·have hb2 : (b == 36) = false := by simpa using hb
     by_cases h46 : [46] = b :: r
     ·cases h46; simp
     ·have : ([46] == b :: r) = false := by simpa using h46
      simp [hb2, this, hb]
theorem Uq (s : List UInt8) (hs : s.length ≤ 140737488355328) : ∀ (k i : Nat), k + i = s.length →
  LoopN lp 0 (Ae My 0) (tl 0 27 [(0, .p (.str s)), (3, .p (.int .i64 (i : Int)))]) [] (if (s.drop i).contains 46 = true then (.ret, tl 0 27 [(2, .p (.bool false))], []) else (.exit 0, tl 0 27 [(0, .p (.str s))], [])) := by
 intro k
 induction k with
 | zero =>
  intro i h
  rw [List.drop_eq_nil_of_le (by omega)]
  exact rNameR_n (decide_eq_false (by omega))
 | succ k ih =>
  intro i h
  have hi : i < s.length := by omega
  have e : s.drop i = s.getD i 0 :: s.drop (i + 1) := by
   rw [List.drop_eq_getElem_cons hi, List.getD, List.getElem?_eq_getElem hi]; rfl
  rw [e, List.contains_cons]
  have ihh := ih (i + 1) (by omega)
  by_cases hb : s.getD i 0 = 46
  ·rw [hb, if_pos (by simp)]
   exact X8 (decide_eq_true (by omega)) hi (by rw [hb]; rfl)
  ·have hb2 : ((46 : UInt8) == s.getD i 0) = false := by simpa using fun h => hb h.symm
   rw [hb2, Bool.false_or]
   refine X9 (decide_eq_true (by omega)) hi ?_ ?_
   ·rw [beq_eq_false_iff_ne]
    intro h2
    exact hb (UInt8.toNat_inj.1 (by rw [show (46 : UInt8).toNat = 46 from rfl]; omega))
   ·rw [A9 (by omega) (by omega)]
    exact ihh
theorem rName (s : List UInt8) (hs : s.length ≤ 140737488355328) : Runs lp 68 [.p (.str s)] [] (.p (.bool (B3 s)), []) := by
 have hl := Uq s hs s.length 0 rfl
 rw [List.drop_zero] at hl
 unfold B3
 cases hc : s.contains 46 with
 | true =>
  rw [hc] at hl
  exact rName0_y (hasDot := true) rfl hl
 | false =>
  rw [hc] at hl
  simp only [Bool.not_false, Bool.true_and]
  by_cases h1 : s.length < 1
  ·have e2 : decide (1 ≤ s.length) = false := decide_eq_false (by omega)
   rw [e2]
   exact Ya (hasDot := false) rfl hl (decide_eq_false (by omega))
  ·have e2 : decide (1 ≤ s.length) = true := decide_eq_true (by omega)
   by_cases h2 : 32 < s.length
   ·have e4 : decide (s.length ≤ 32) = false := decide_eq_false (by omega)
    rw [e2, e4]
    exact Up (hasDot := false) rfl hl (decide_eq_true (by omega)) (decide_eq_false (by omega))
   ·have e4 : decide (s.length ≤ 32) = true := decide_eq_true (by omega)
    have := Uo (s := s) (hasDot := false) rfl hl (decide_eq_true (by omega)) (decide_eq_true (by omega)) (by omega)
    rw [e2, e4]
    cases s with
    | nil => simp at h1
    | cons b r =>
     simp only [Bool.true_and, List.headD_cons]
     have e5 : (((List.getD (b :: r) 0 0).toNat : Int) != 36) = !(b == 36) := by
      rw [List.getD_cons_zero]
      by_cases hb : b = 36
      ·subst hb; rfl
      ·rw [show (b == 36) = false by simpa using hb, Bool.not_false, bne_iff_ne]
       intro h2
       exact hb (UInt8.toNat_inj.1 (by rw [show (36 : UInt8).toNat = 36 from rfl]; omega))
     rw [e5] at this
     exact this
end Go.Proofs.Ytmbjojnldbeicaa
