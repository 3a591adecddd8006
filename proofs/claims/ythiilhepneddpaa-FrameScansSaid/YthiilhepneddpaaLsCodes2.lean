/- What the functions that put numbers and texts come to. -/
import Derived.Test.YthiilhepneddpaaLsVar
import Derived.Test.YthiilhepneddpaaLsG5
set_option linter.unusedVariables false
set_option linter.unusedSimpArgs false
namespace Go.Proofs.Ythiilhepneddpaa
open Go Go.LS

/-- A number as a count. -/
def zz (x : Int) : Nat := if 0 ≤ x then (2 * x).toNat else (-(2 * x) - 1).toNat

theorem zz_lt {x : Int} (h0 : -9223372036854775808 ≤ x) (h1 : x ≤ 9223372036854775807) : zz x < 2 ^ 64 := by
  unfold zz; split <;> omega

theorem xor_zero (a : Int) (h0 : 0 ≤ a) (h1 : a < 18446744073709551616) : ((BitVec.ofInt 64 a ^^^ BitVec.ofInt 64 0).toNat : Int) = a := by
  have : BitVec.ofInt 64 0 = 0#64 := rfl
  rw [this, BitVec.xor_zero, BitVec.toNat_ofInt]
  omega
theorem xor_ones (a : Int) (h0 : 0 ≤ a) (h1 : a < 18446744073709551616) : ((BitVec.ofInt 64 a ^^^ BitVec.ofInt 64 18446744073709551615).toNat : Int) = 18446744073709551615 - a := by
  have : BitVec.ofInt 64 18446744073709551615 = BitVec.allOnes 64 := by decide
  rw [this, BitVec.xor_allOnes, BitVec.toNat_not, BitVec.toNat_ofInt]
  omega

theorem xor_zero' (a : Int) (h0 : 0 ≤ a) (h1 : a < 18446744073709551616) : ((BitVec.ofInt (IntKind.bits .u64) a ^^^ BitVec.ofInt (IntKind.bits .u64) 0).toNat : Int) = a := xor_zero a h0 h1
theorem xor_ones' (a : Int) (h0 : 0 ≤ a) (h1 : a < 18446744073709551616) : ((BitVec.ofInt (IntKind.bits .u64) a ^^^ BitVec.ofInt (IntKind.bits .u64) 18446744073709551615).toNat : Int) = 18446744073709551615 - a := xor_ones a h0 h1

theorem zz_put {x : Int} (h0 : -9223372036854775808 ≤ x) (h1 : x ≤ 9223372036854775807) :
    IntKind.wrap .u64 ↑(BitVec.ofInt (IntKind.bits .u64) (IntKind.wrap .u64 ((IntKind.wrap .u64 x) * 2 ^ 1)) ^^^ BitVec.ofInt (IntKind.bits .u64) (IntKind.wrap .u64 (Int.fdiv x (2 ^ 63)))).toNat = (zz x : Int) := by
  simp only [wrap_u64]
  rw [Int.fdiv_eq_ediv_of_nonneg _ (by omega)]
  by_cases h : 0 ≤ x
  · have e : x / 2 ^ 63 % 18446744073709551616 = 0 := by omega
    rw [e, xor_zero' _ (by omega) (by omega)]
    unfold zz
    rw [if_pos h]
    omega
  · have e : x / 2 ^ 63 % 18446744073709551616 = 18446744073709551615 := by omega
    rw [e, xor_ones' _ (by omega) (by omega)]
    unfold zz
    rw [if_neg h]
    omega

theorem rcount_runs {n : Nat} (h : n < 2 ^ 64) : Runs lp 20 [.p (.int .i64 n)] [] (.sl (bs (vcode n)) 0 (vcode n).length, [.spare 1 (vcode n).length]) := by
  refine rcount_fn ?_
  rw [wrap_u64_nat h]
  exact grp_runs h

theorem count_runs {n : Nat} (h : n ≤ 4611686018427387904) : Runs lp 17 [.p (.int .i64 n)] [] (.tup [.sl (bs (vcode n)) 0 (vcode n).length, .p (.int .i64 0)], [.spare 1 (vcode n).length]) := by
  refine count_ok (by simp) (by simp; omega) ?_
  rw [wrap_u64_nat (by omega)]
  exact put_runs (by omega)

theorem count_bad {x : Int} (h : x < 0 ∨ x > 4611686018427387904) : Runs lp 17 [.p (.int .i64 x)] [] (.tup [.tight [], .p (.int .i64 1)], []) := by
  by_cases h0 : x < 0
  · exact count_lo (by simpa using h0)
  · exact count_hi (by simpa using h0) (by simp; omega)

end Go.Proofs.Ythiilhepneddpaa
