import Derived.Test.YthmjaeflpgcmdaaLsFrW
set_option linter.unusedVariables false
set_option linter.unusedSimpArgs false
set_option maxRecDepth 100000
namespace Go.Proofs.Ythmjaeflpgcmdaa
open Go Go.LS
theorem four_b (n : Nat) : [UInt8.ofNat (Int.toNat (IntKind.wrap .u8 (n : Int))), UInt8.ofNat (Int.toNat (IntKind.wrap .u8 (Int.fdiv (n : Int) (2 ^ 8)))), UInt8.ofNat (Int.toNat (IntKind.wrap .u8 (Int.fdiv (n : Int) (2 ^ 16)))), UInt8.ofNat (Int.toNat (IntKind.wrap .u8 (Int.fdiv (n : Int) (2 ^ 24))))] = C1 n := by
 simp only [fdiv8, Od, C1]
theorem four_bs (n : Nat) : [[PV.int .u8 (IntKind.wrap .u8 (n : Int))], [PV.int .u8 (IntKind.wrap .u8 (Int.fdiv (n : Int) (2 ^ 8)))], [PV.int .u8 (IntKind.wrap .u8 (Int.fdiv (n : Int) (2 ^ 16)))], [PV.int .u8 (IntKind.wrap .u8 (Int.fdiv (n : Int) (2 ^ 24)))]] = bs (C1 n) := by
 rw [Rm, four_b]
theorem Yv {L : List UInt8} (hl : L.length ≤ 140737488355328) : Runs lp 42 [.p (.sl (bs L))] [] (.p (.sl (bs (C1 (Ct L)))), []) := by
 have := @sum4 L hl
 rwa [four_bs] at this
theorem vCl {L : List UInt8} (hl : L.length ≤ 140737488355328) : Runs lp 36 [.p (.sl (bs L))] [] (.p (.sl (bs L)), []) := by
 by_cases hm : L = []
 ·subst hm; exact ⟨40, by kernel_rfl⟩
 ·have h1 := clone0 (L := L) hm (by simp; omega)
  simpa using h1
theorem vCat {X Y Z : List UInt8} (hx : X.length ≤ 199999999000000) (hy : Y.length ≤ 100000) (hz : 0 < Z.length ∧ Z.length ≤ 100000) :
  Runs lp 41 [.tight [[.sl (bs X)], [.sl (bs Y)], [.sl (bs Z)]]] [] (.sl (bs (X ++ Y ++ Z)) 0 (X ++ Y ++ Z).length, [.spare 1 (X ++ Y ++ Z).length]) := by
 have e0 : IntKind.wrap .i64 (0 + ((List.length (bs X) : Nat) : Int)) = (X.length : Int) := by rw [A6, Aw (by omega) (by omega)]; omega
 have e1 : IntKind.wrap .i64 ((X.length : Int) + ((List.length (bs Y) : Nat) : Int)) = ((X.length + Y.length : Nat) : Int) := by rw [A6, Aw (by omega) (by omega)]; omega
 have e2 : IntKind.wrap .i64 (((X.length + Y.length : Nat) : Int) + ((List.length (bs Z) : Nat) : Int)) = ((X.length + Y.length + Z.length : Nat) : Int) := by rw [A6, Aw (by omega) (by omega)]; omega
 have e3 : IntKind.wrap .i64 (((X.length + Y.length + Z.length : Nat) : Int) - 0) = ((X.length + Y.length + Z.length : Nat) : Int) := by rw [Aw (by omega) (by omega)]; omega
 have h := @V8 X Y Z
 rw [e0, e1, e2, e3] at h
 exact h (by simp <;> omega) (by simp <;> omega) (by simp <;> omega) (by simp <;> omega) ⟨by omega, by rw [Int.toNat_natCast]; exact Su (by omega), by omega⟩ (by simp only [List.length_nil]; omega) (by simp only [List.nil_append]; omega) (by simp only [List.nil_append, List.length_append]; omega)
def Ip (b : List UInt8) : List UInt8 := Af b.length ++ b
def frame (b : List UInt8) : List UInt8 := Ip b ++ C1 (Ct (Ip b))
theorem Sk {b : List UInt8} (h : b.length ≤ 65536) : (Ip b).length ≤ 65546 := by
 have := Fk b.length (by omega)
 simp [Ip]; omega
theorem Hl (n : Nat) : (C1 n).length = 4 := rfl
theorem Yw {b : List UInt8} (h : b.length ≤ 65536) : (frame b).length ≤ 65550 := by
 have := Sk h
 simp [frame, Hl]; omega
theorem Lg {x : Int} (h : 0 ≤ x ∧ x ≤ 4611686018427387904) : Runs lp 21 [.p (.int .i64 x)] [] (.tup [.sl (bs (Af x.toNat)) 0 (Af x.toNat).length, .p (.int .i64 0)], [.spare 1 (Af x.toNat).length]) := by
 have := T1 (n := x.toNat) (by omega)
 rwa [Int.toNat_of_nonneg h.1] at this
theorem lenBs (b : List UInt8) : (((List.length (bs b) : Nat) : Int)).toNat = b.length := by rw [A6]; omega
end Go.Proofs.Ythmjaeflpgcmdaa
