import Derived.Test.YthmjaeflpgcmdaaLsVar
import Derived.Test.YthmjaeflpgcmdaaLsG6
set_option linter.unusedVariables false
set_option linter.unusedSimpArgs false
namespace Go.Proofs.Ythmjaeflpgcmdaa
open Go Go.LS
def zz (x : Int) : Nat := if 0 ≤ x then (2 * x).toNat else (-(2 * x) - 1).toNat
theorem Yj {x : Int} (h0 : -9223372036854775808 ≤ x) (h1 : x ≤ 9223372036854775807) : zz x < 2 ^ 64 := by
 unfold zz; split <;> omega
theorem xor_zero (a : Int) (h0 : 0 ≤ a) (h1 : a < 18446744073709551616) : ((BitVec.ofInt 64 a ^^^ BitVec.ofInt 64 0).toNat : Int) = a := by
 have : BitVec.ofInt 64 0 = 0#64 := rfl
 rw [this, BitVec.xor_zero, BitVec.toNat_ofInt]
 omega
theorem Yk (a : Int) (h0 : 0 ≤ a) (h1 : a < 18446744073709551616) : ((BitVec.ofInt 64 a ^^^ BitVec.ofInt 64 18446744073709551615).toNat : Int) = 18446744073709551615 - a := by
 have : BitVec.ofInt 64 18446744073709551615 = BitVec.allOnes 64 := by decide
 rw [this, BitVec.xor_allOnes, BitVec.toNat_not, BitVec.toNat_ofInt]
 omega
theorem V0 (a : Int) (h0 : 0 ≤ a) (h1 : a < 18446744073709551616) : ((BitVec.ofInt (IntKind.bits .u64) a ^^^ BitVec.ofInt (IntKind.bits .u64) 0).toNat : Int) = a := xor_zero a h0 h1
theorem V1 (a : Int) (h0 : 0 ≤ a) (h1 : a < 18446744073709551616) : ((BitVec.ofInt (IntKind.bits .u64) a ^^^ BitVec.ofInt (IntKind.bits .u64) 18446744073709551615).toNat : Int) = 18446744073709551615 - a := Yk a h0 h1
theorem zz_put {x : Int} (h0 : -9223372036854775808 ≤ x) (h1 : x ≤ 9223372036854775807) :
  IntKind.wrap .u64 ↑(BitVec.ofInt (IntKind.bits .u64) (IntKind.wrap .u64 ((IntKind.wrap .u64 x) * 2 ^ 1)) ^^^ BitVec.ofInt (IntKind.bits .u64) (IntKind.wrap .u64 (Int.fdiv x (2 ^ 63)))).toNat = (zz x : Int) := by
 simp only [Xm]
 rw [Int.fdiv_eq_ediv_of_nonneg _ (by omega)]
 by_cases h : 0 ≤ x
 ·have e : x / 2 ^ 63 % 18446744073709551616 = 0 := by omega
  rw [e, V0 _ (by omega) (by omega)]
  unfold zz
  rw [if_pos h]
  omega
 ·have e : x / 2 ^ 63 % 18446744073709551616 = 18446744073709551615 := by omega
  rw [e, V1 _ (by omega) (by omega)]
  unfold zz
  rw [if_neg h]
  omega
theorem Yl {x : Int} (h0 : -9223372036854775808 ≤ x) (h1 : x ≤ 9223372036854775807) :
  Runs lp 23 [.p (.int .i64 x)] [] (.sl (bs (Af (zz x))) 0 (Af (zz x)).length, [.spare 1 (Af (zz x)).length]) := by
 refine int_fn ?_
 rw [zz_put h0 h1]
 exact Sa (Yj h0 h1)
theorem T1 {n : Nat} (h : n ≤ 4611686018427387904) : Runs lp 21 [.p (.int .i64 n)] [] (.tup [.sl (bs (Af n)) 0 (Af n).length, .p (.int .i64 0)], [.spare 1 (Af n).length]) := by
 refine Yg (by simp) (by simp; omega) ?_
 rw [Dl (by omega)]
 exact Sa (by omega)
end Go.Proofs.Ythmjaeflpgcmdaa
