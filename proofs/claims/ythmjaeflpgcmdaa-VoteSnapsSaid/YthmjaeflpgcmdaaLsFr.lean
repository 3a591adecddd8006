import Derived.Test.YthmjaeflpgcmdaaLsFrW
set_option linter.unusedVariables false
set_option linter.unusedSimpArgs false
set_option maxRecDepth 100000
namespace Go.Proofs.Ythmjaeflpgcmdaa
open Go Go.LS
theorem four_b (n : Nat) : [UInt8.ofNat (Int.toNat (IntKind.wrap .u8 (n : Int))), UInt8.ofNat (Int.toNat (IntKind.wrap .u8 (Int.fdiv (n : Int) (2 ^ 8)))), UInt8.ofNat (Int.toNat (IntKind.wrap .u8 (Int.fdiv (n : Int) (2 ^ 16)))), UInt8.ofNat (Int.toNat (IntKind.wrap .u8 (Int.fdiv (n : Int) (2 ^ 24))))] = Cy n := by
 simp only [fdiv8, Nx, Cy]
theorem Zt (n : Nat) : [[PV.int .u8 (IntKind.wrap .u8 (n : Int))], [PV.int .u8 (IntKind.wrap .u8 (Int.fdiv (n : Int) (2 ^ 8)))], [PV.int .u8 (IntKind.wrap .u8 (Int.fdiv (n : Int) (2 ^ 16)))], [PV.int .u8 (IntKind.wrap .u8 (Int.fdiv (n : Int) (2 ^ 24)))]] = bs (Cy n) := by
 rw [Qz, four_b]
theorem Xy {L : List UInt8} (hl : L.length ≤ 140737488355328) : Runs lp 42 [.p (.sl (bs L))] [] (.p (.sl (bs (Cy (Cr L)))), []) := by
 have := @sum4 L hl
 rwa [Zt] at this
theorem vCl {L : List UInt8} (hl : L.length ≤ 140737488355328) : Runs lp 36 [.p (.sl (bs L))] [] (.p (.sl (bs L)), []) := by
 by_cases hm : L = []
 ·subst hm; exact ⟨40, by kernel_rfl⟩
 ·have h1 := clone0 (L := L) hm (by simp; omega)
  simpa using h1
theorem vCat {X Y Z : List UInt8} (hx : X.length ≤ 199999999000000) (hy : Y.length ≤ 100000) (hz : 0 < Z.length ∧ Z.length ≤ 100000) :
  Runs lp 41 [.tight [[.sl (bs X)], [.sl (bs Y)], [.sl (bs Z)]]] [] (.sl (bs (X ++ Y ++ Z)) 0 (X ++ Y ++ Z).length, [.spare 1 (X ++ Y ++ Z).length]) := by
 have e0 : IntKind.wrap .i64 (0 + ((List.length (bs X) : Nat) : Int)) = (X.length : Int) := by rw [A9, A1 (by omega) (by omega)]; omega
 have e1 : IntKind.wrap .i64 ((X.length : Int) + ((List.length (bs Y) : Nat) : Int)) = ((X.length + Y.length : Nat) : Int) := by rw [A9, A1 (by omega) (by omega)]; omega
 have e2 : IntKind.wrap .i64 (((X.length + Y.length : Nat) : Int) + ((List.length (bs Z) : Nat) : Int)) = ((X.length + Y.length + Z.length : Nat) : Int) := by rw [A9, A1 (by omega) (by omega)]; omega
 have e3 : IntKind.wrap .i64 (((X.length + Y.length + Z.length : Nat) : Int) - 0) = ((X.length + Y.length + Z.length : Nat) : Int) := by rw [A1 (by omega) (by omega)]; omega
 have h := @Vi X Y Z
 rw [e0, e1, e2, e3] at h
 exact h (by simp <;> omega) (by simp <;> omega) (by simp <;> omega) (by simp <;> omega) ⟨by omega, by rw [Int.toNat_natCast]; exact R5 (by omega), by omega⟩ (by simp only [List.length_nil]; omega) (by simp only [List.nil_append]; omega) (by simp only [List.nil_append, List.length_append]; omega)
def Ic (b : List UInt8) : List UInt8 := Av b.length ++ b
def frame (b : List UInt8) : List UInt8 := Ic b ++ Cy (Cr (Ic b))
theorem Rv {b : List UInt8} (h : b.length ≤ 65536) : (Ic b).length ≤ 65546 := by
 have := J1 b.length (by omega)
 simp [Ic]; omega
theorem Hd (n : Nat) : (Cy n).length = 4 := rfl
theorem Rw {b : List UInt8} (h : b.length ≤ 65536) : (frame b).length ≤ 65550 := by
 have := Rv h
 simp [frame, Hd]; omega
theorem Rx {x : Int} (h : 0 ≤ x ∧ x ≤ 4611686018427387904) : Runs lp 21 [.p (.int .i64 x)] [] (.tup [.sl (bs (Av x.toNat)) 0 (Av x.toNat).length, .p (.int .i64 0)], [.spare 1 (Av x.toNat).length]) := by
 have := Tb (n := x.toNat) (by omega)
 rwa [Int.toNat_of_nonneg h.1] at this
theorem lenBs (b : List UInt8) : (((List.length (bs b) : Nat) : Int)).toNat = b.length := by rw [A9]; omega
end Go.Proofs.Ythmjaeflpgcmdaa
