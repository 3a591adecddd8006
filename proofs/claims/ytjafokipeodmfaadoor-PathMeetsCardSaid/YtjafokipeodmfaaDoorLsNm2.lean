import Derived.Test.YtjafokipeodmfaaDoorLsNm
set_option linter.unusedVariables false
set_option linter.unusedSimpArgs false
namespace Go.Proofs.YtjafokipeodmfaaDoor
open Go Go.LS
theorem indexByte_has : ∀ (s : List UInt8) (c : UInt8), (decide (Lib.indexByte s c ≥ 0)) = s.contains c
  | [], c => by simp [Lib.indexByte]
  | b :: l, c => by
    have ih := indexByte_has l c
    have h1 := Lib.indexByte_ge l c
    by_cases hb : b = c
    · subst hb; simp [Lib.indexByte]
    · have hb' : ¬ c = b := fun h => hb h.symm
      rw [Lib.indexByte, if_neg (by simpa using hb), List.contains_cons, ← ih, show (c == b) = false by simpa using hb', Bool.false_or]
      by_cases h2 : Lib.indexByte l c = -1
      · simp [h2]
      · rw [if_neg (by simpa using h2)]
        congr 1
        simp only [ge_iff_le, eq_iff_iff]
        omega
theorem vName (s : List UInt8) : Runs lp 27 [.p (.str s)] [] (.p (.bool (nameB s)), []) := by
  have := @vName0 s (fun _ _ => by omega) (fun h _ => by simp at h; omega)
  revert this
  have e46 : (Int.toNat 46).toUInt8 = 46 := rfl
  rw [e46, indexByte_has, show Int.toNat (1 : Int) = 1 from rfl]
  unfold nameB
  by_cases h1 : s.length < 1
  · have e1 : decide (((s.length : Nat) : Int) ≥ 1) = false := decide_eq_false (by omega)
    have e2 : decide (1 ≤ s.length) = false := decide_eq_false (by omega)
    simp only [e1, e2]
    simp
  · have e1 : decide (((s.length : Nat) : Int) ≥ 1) = true := decide_eq_true (by omega)
    have e2 : decide (1 ≤ s.length) = true := decide_eq_true (by omega)
    by_cases h2 : 32 < s.length
    · have e3 : decide (((s.length : Nat) : Int) ≤ 32) = false := decide_eq_false (by omega)
      have e4 : decide (s.length ≤ 32) = false := decide_eq_false (by omega)
      simp only [e1, e2, e3, e4]
      simp
    · have e3 : decide (((s.length : Nat) : Int) ≤ 32) = true := decide_eq_true (by omega)
      have e4 : decide (s.length ≤ 32) = true := decide_eq_true (by omega)
      simp only [e1, e2, e3, e4]
      cases s with
      | nil => simp at h1
      | cons b r =>
        by_cases hb : b = 36
        · subst hb; simp
        · have hb2 : (b == 36) = false := by simpa using hb
          by_cases h46 : [46] = b :: r
          · cases h46; simp
          · have : ([46] == b :: r) = false := by simpa using h46
            simp [hb2, this, hb]
end Go.Proofs.YtjafokipeodmfaaDoor
