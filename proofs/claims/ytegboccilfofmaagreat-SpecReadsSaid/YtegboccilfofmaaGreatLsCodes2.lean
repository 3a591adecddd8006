import Derived.Test.YtegboccilfofmaaGreatLsVar
import Derived.Test.YtegboccilfofmaaGreatLsG5
set_option linter.unusedVariables false
set_option linter.unusedSimpArgs false
namespace Go.Proofs.YtegboccilfofmaaGreat
open Go Go.LS
def zz (x : Int) : Nat := if 0 ≤ x then (2 * x).toNat else (-(2 * x) - 1).toNat
theorem zz_lt {x : Int} (h0 : -9223372036854775808 ≤ x) (h1 : x ≤ 9223372036854775807) : zz x < 2 ^ 64 := by
 unfold zz; split <;> omega
theorem xor_zero (a : Int) (h0 : 0 ≤ a) (h1 : a < 18446744073709551616) : ((BitVec.ofInt 64 a ^^^ BitVec.ofInt 64 0).toNat : Int) = a := by
 have : BitVec.ofInt 64 0 = 0#64 := rfl
 rw [this, BitVec.xor_zero, BitVec.toNat_ofInt]
 omega
theorem Xo (a : Int) (h0 : 0 ≤ a) (h1 : a < 18446744073709551616) : ((BitVec.ofInt 64 a ^^^ BitVec.ofInt 64 18446744073709551615).toNat : Int) = 18446744073709551615 - a := by
 have : BitVec.ofInt 64 18446744073709551615 = BitVec.allOnes 64 := by decide
 rw [this, BitVec.xor_allOnes, BitVec.toNat_not, BitVec.toNat_ofInt]
 omega
theorem Uw (a : Int) (h0 : 0 ≤ a) (h1 : a < 18446744073709551616) : ((BitVec.ofInt (IntKind.bits .u64) a ^^^ BitVec.ofInt (IntKind.bits .u64) 0).toNat : Int) = a := xor_zero a h0 h1
theorem Ux (a : Int) (h0 : 0 ≤ a) (h1 : a < 18446744073709551616) : ((BitVec.ofInt (IntKind.bits .u64) a ^^^ BitVec.ofInt (IntKind.bits .u64) 18446744073709551615).toNat : Int) = 18446744073709551615 - a := Xo a h0 h1
theorem zz_put {x : Int} (h0 : -9223372036854775808 ≤ x) (h1 : x ≤ 9223372036854775807) :
  IntKind.wrap .u64 ↑(BitVec.ofInt (IntKind.bits .u64) (IntKind.wrap .u64 ((IntKind.wrap .u64 x) * 2 ^ 1)) ^^^ BitVec.ofInt (IntKind.bits .u64) (IntKind.wrap .u64 (Int.fdiv x (2 ^ 63)))).toNat = (zz x : Int) := by
 simp only [Mp]
 rw [Int.fdiv_eq_ediv_of_nonneg _ (by omega)]
 by_cases h : 0 ≤ x
 ·have e : x / 2 ^ 63 % 18446744073709551616 = 0 := by omega
  rw [e, Uw _ (by omega) (by omega)]
  unfold zz
  rw [if_pos h]
  omega
 ·have e : x / 2 ^ 63 % 18446744073709551616 = 18446744073709551615 := by omega
  rw [e, Ux _ (by omega) (by omega)]
  unfold zz
  rw [if_neg h]
  omega
theorem Xp {x : Int} (h0 : -9223372036854775808 ≤ x) (h1 : x ≤ 9223372036854775807) :
  Runs lp 84 [.p (.int .i64 x)] [] (.sl (bs (As (zz x))) 0 (As (zz x)).length, [.spare 1 (As (zz x)).length]) := by
 refine int_fn ?_
 rw [zz_put h0 h1]
 exact Qv (zz_lt h0 h1)
theorem Xq {x : Int} (h0 : -9223372036854775808 ≤ x) (h1 : x ≤ 9223372036854775807) : Runs lp 90 [.p (.int .i64 x)] [] (.p (.int .u64 (zz x)), []) := by
 by_cases h : 0 ≤ x
 ·have := zig_p (x := x) (by simpa using h)
  have e : IntKind.wrap .u64 (2 * IntKind.wrap .u64 x) = (zz x : Int) := by
   simp only [Mp]; unfold zz; rw [if_pos h]; omega
  rwa [e] at this
 ·have := zig_n (x := x) (by simpa using h)
  have e : IntKind.wrap .u64 (IntKind.wrap .u64 (2 * IntKind.wrap .u64 (IntKind.wrap .i64 (0 - IntKind.wrap .i64 (x + 1)))) + 1) = (zz x : Int) := by
   rw [A8 (n := x + 1) (by omega) (by omega), A8 (by omega) (by omega)]
   simp only [Mp]; unfold zz; rw [if_neg h]; omega
  rwa [e] at this
theorem Uy {x : Int} (h0 : -9223372036854775808 ≤ x) (h1 : x ≤ 9223372036854775807) :
  Runs lp 64 [.p (.int .i64 x)] [] (.sl (bs (As (zz x))) 0 (As (zz x)).length, [.spare 1 (As (zz x)).length]) :=
 rint_fn (Xq h0 h1) (Qw (zz_lt h0 h1))
theorem Hh {n : Nat} (h : n < 2 ^ 64) : Runs lp 32 [.p (.int .i64 n)] [] (.sl (bs (As n)) 0 (As n).length, [.spare 1 (As n).length]) := by
 refine Uu ?_
 rw [B6 h]
 exact Qw h
theorem Sh {n : Nat} (h : n ≤ 4611686018427387904) : Runs lp 25 [.p (.int .i64 n)] [] (.tup [.sl (bs (As n)) 0 (As n).length, .p (.int .i64 0)], [.spare 1 (As n).length]) := by
 refine Xh (by simp) (by simp; omega) ?_
 rw [B6 (by omega)]
 exact Qv (by omega)
theorem Ip {s : List UInt8} (h : s.length ≤ reachBytes) : Runs lp 65 [.p (.str s)] [] (.sl (bs (As s.length ++ s)) 0 (As s.length ++ s).length, [.spare 1 (As s.length ++ s).length]) := by
 have hr : reachBytes = 140737488351232 := rfl
 have := vcode_len s.length (by omega)
 exact Xi (Hh (by omega)) (Xd (by omega)) (by omega)
end Go.Proofs.YtegboccilfofmaaGreat
