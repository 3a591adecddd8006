/- What the functions on tokens come to. -/
import Derived.Test.YtmfdjhflhhaodaaLsTok
set_option linter.unusedVariables false
set_option linter.unusedSimpArgs false
namespace Go.Proofs.Ytmfdjhflhhaodaa
open Go Go.LS

/-- May a token be? -/
def tmay (kd ix tm : Int) : Bool :=
  decide ((kd = 1 ∨ kd = 2) ∧ 0 ≤ ix ∧ ix ≤ 1099511627776 ∧ 0 ≤ tm ∧ tm ≤ 1099511627776 ∧ (ix = 0 ↔ tm = 0) ∧ (kd = 1 ∨ 0 < ix))

abbrev tok (kd ix tm : Int) : LV := .agg [.p (.int .i64 kd), .p (.int .i64 ix), .p (.int .i64 tm)]

theorem vMay (kd ix tm : Int) : Runs lp 8 [tok kd ix tm] [] (.p (.bool (tmay kd ix tm)), []) := by
  have h := @vmay kd ix tm
  repeat' split at h
  all_goals simp at *
  all_goals first
    | (rw [show tmay kd ix tm = false by simp [tmay]; omega]; exact h)
    | (rw [show tmay kd ix tm = true by simp [tmay]; omega]; exact h)
    | (rw [show tmay kd ix tm = (kd == 1 && (ix == 0 && tm == 0)) by rw [Bool.eq_iff_iff]; simp [tmay]; omega]; exact h)
theorem rMay (kd ix tm : Int) : Runs lp 9 [tok kd ix tm] [] (.p (.bool (tmay kd ix tm)), []) := by
  have h := @rmay kd ix tm
  by_cases a : ix = 0 <;> by_cases b : tm = 0
  · subst a; subst b
    simp only [show ((0 : Int) == 0) = true from rfl] at h
    repeat' split at h
    all_goals simp at *
    all_goals first
      | (rw [show tmay kd 0 0 = false by simp [tmay]; try omega]; exact h)
      | (rw [show tmay kd 0 0 = true by simp [tmay]; omega]; exact h)
      | (rw [show tmay kd 0 0 = decide (0 < 0) by rw [Bool.eq_iff_iff]; simp [tmay]; omega]; exact h)
      | (rw [show tmay kd 0 0 = false by simp [tmay]]; exact h)
  · subst a
    simp only [show ((0 : Int) == 0) = true from rfl, show (tm == 0) = false by simpa using b] at h
    repeat' split at h
    all_goals simp at *
    all_goals first
      | (rw [show tmay kd 0 tm = false by simp [tmay]; try omega]; exact h)
      | (rw [show tmay kd 0 tm = true by simp [tmay]; omega]; exact h)
      | (rw [show tmay kd 0 tm = decide (0 < 0) by rw [Bool.eq_iff_iff]; simp [tmay]; omega]; exact h)
      | (rw [show tmay kd 0 tm = false by simp [tmay]]; exact h)
  · subst b
    simp only [show ((0 : Int) == 0) = true from rfl, show (ix == 0) = false by simpa using a] at h
    repeat' split at h
    all_goals simp at *
    all_goals first
      | (rw [show tmay kd ix 0 = false by simp [tmay]; try omega]; exact h)
      | (rw [show tmay kd ix 0 = true by simp [tmay]; omega]; exact h)
      | (rw [show tmay kd ix 0 = decide (0 < ix) by rw [Bool.eq_iff_iff]; simp [tmay]; omega]; exact h)
      | (rw [show tmay kd ix 0 = false by simp [tmay]]; exact h)
  · simp only [show (tm == 0) = false by simpa using b, show (ix == 0) = false by simpa using a] at h
    repeat' split at h
    all_goals simp at *
    all_goals first
      | (rw [show tmay kd ix tm = false by simp [tmay]; try omega]; exact h)
      | (rw [show tmay kd ix tm = true by simp [tmay]; omega]; exact h)
      | (rw [show tmay kd ix tm = decide (0 < ix) by rw [Bool.eq_iff_iff]; simp [tmay]; omega]; exact h)
      | (rw [show tmay kd ix tm = false by simp [tmay]]; exact h)

/-- A token's code. -/
def tpre (kd ix tm : Int) : List UInt8 := UInt8.ofNat (Int.toNat (IntKind.wrap .u8 kd)) :: (vcode ix.toNat ++ vcode tm.toNat)
def tcode (kd ix tm : Int) : List UInt8 := tpre kd ix tm ++ four (crcS (tpre kd ix tm))

theorem four_a (n : Nat) : [UInt8.ofNat (Int.toNat (IntKind.wrap .u8 (n : Int)))] ++ ([UInt8.ofNat (Int.toNat (IntKind.wrap .u8 (Int.fdiv (n : Int) (2 ^ 8))))] ++ ([UInt8.ofNat (Int.toNat (IntKind.wrap .u8 (Int.fdiv (Int.fdiv (n : Int) (2 ^ 8)) (2 ^ 8))))] ++ [UInt8.ofNat (Int.toNat (IntKind.wrap .u8 (Int.fdiv (Int.fdiv (Int.fdiv (n : Int) (2 ^ 8)) (2 ^ 8)) (2 ^ 8))))])) = four n := by
  simp only [fdiv8, wrap_u8_ofNat, four, Nat.div_div_eq_div_mul]
  simp
theorem four_b (n : Nat) : [UInt8.ofNat (Int.toNat (IntKind.wrap .u8 (n : Int))), UInt8.ofNat (Int.toNat (IntKind.wrap .u8 (Int.fdiv (n : Int) (2 ^ 8)))), UInt8.ofNat (Int.toNat (IntKind.wrap .u8 (Int.fdiv (n : Int) (2 ^ 16)))), UInt8.ofNat (Int.toNat (IntKind.wrap .u8 (Int.fdiv (n : Int) (2 ^ 24))))] = four n := by
  simp only [fdiv8, wrap_u8_ofNat, four]

theorem tpre_eq (kd ix tm : Int) : (([UInt8.ofNat (Int.toNat (IntKind.wrap .u8 kd))] ++ (vcode (Int.toNat ix))) ++ (vcode (Int.toNat tm))) = tpre kd ix tm := by simp [tpre]
theorem tpre_len {kd ix tm : Int} (h1 : ix ≤ 4611686018427387904) (h2 : tm ≤ 4611686018427387904) : (tpre kd ix tm).length ≤ 21 := by
  have := vcode_len ix.toNat (by omega)
  have := vcode_len tm.toNat (by omega)
  simp [tpre]; omega

theorem vCode {kd ix tm : Int} (h1 : 0 ≤ ix ∧ ix ≤ 4611686018427387904) (h2 : 0 ≤ tm ∧ tm ≤ 4611686018427387904) :
    Runs lp 14 [tok kd ix tm] [] (.sl (bs (tcode kd ix tm)) 0 (tcode kd ix tm).length, [.spare 1 (tcode kd ix tm).length]) := by
  have hp := vcode_pos ix.toNat
  have l1 := vcode_len ix.toNat (by omega)
  have l2 := vcode_len tm.toNat (by omega)
  have l3 := tpre_len (kd := kd) h1.2 h2.2
  have h := @vcodeT kd ix tm
  rw [tpre_eq] at h
  have e := four_a (crcS (tpre kd ix tm))
  simp only [List.append_assoc] at h
  rw [e] at h
  have hne : vcode ix.toNat ≠ [] := by intro h0; rw [h0] at hp; simp at hp
  exact h h1 (by simp only [List.length_append, List.length_cons, List.length_nil]; omega) hne h2 (by simp only [List.length_append, List.length_cons, List.length_nil]; omega) (by omega) (by simp only [List.length_append, List.length_cons, List.length_nil]; omega) (by simp only [List.length_append, List.length_cons, List.length_nil]; omega) (by simp only [List.length_append, List.length_cons, List.length_nil]; omega) (by simp only [List.length_append, List.length_cons, List.length_nil]; omega)
theorem rCode {kd ix tm : Int} (h1 : 0 ≤ ix ∧ ix ≤ 4611686018427387904) (h2 : 0 ≤ tm ∧ tm ≤ 4611686018427387904) :
    Runs lp 11 [tok kd ix tm] [] (.sl (bs (tcode kd ix tm)) 0 (tcode kd ix tm).length, [.spare 1 (tcode kd ix tm).length]) := by
  have hp := vcode_pos ix.toNat
  have l1 := vcode_len ix.toNat (by omega)
  have l2 := vcode_len tm.toNat (by omega)
  have l3 := tpre_len (kd := kd) h1.2 h2.2
  have h := @rcodeT kd ix tm
  rw [tpre_eq] at h
  have e := four_b (crcS (tpre kd ix tm))
  rw [e] at h
  have hne : vcode ix.toNat ≠ [] := by intro h0; rw [h0] at hp; simp at hp
  exact h h1 (by simp only [List.length_append, List.length_cons, List.length_nil]; omega) hne h2 (by simp only [List.length_append, List.length_cons, List.length_nil]; omega) (by omega) (by simp only [four, List.length_cons, List.length_nil]; omega)
end Go.Proofs.Ytmfdjhflhhaodaa
