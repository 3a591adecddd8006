import Derived.Test.YtegboccilfofmaaGreatLsVar
import Derived.Test.YtegboccilfofmaaGreatLsG5
set_option linter.unusedVariables false
set_option linter.unusedSimpArgs false
namespace Go.Proofs.YtegboccilfofmaaGreat
open Go Go.LS
def zz (x : Int) : Nat := if 0 ≤ x then (2 * x).toNat else (-(2 * x) - 1).toNat
theorem T1 {x : Int} (h0 : -9223372036854775808 ≤ x) (h1 : x ≤ 9223372036854775807) : zz x < 2 ^ 64 := by
 unfold zz; split <;> omega
theorem xor_zero (a : Int) (h0 : 0 ≤ a) (h1 : a < 18446744073709551616) : ((BitVec.ofInt 64 a ^^^ BitVec.ofInt 64 0).toNat : Int) = a := by
 have : BitVec.ofInt 64 0 = 0#64 := rfl
 rw [this, BitVec.xor_zero, BitVec.toNat_ofInt]
 omega
theorem Xl (a : Int) (h0 : 0 ≤ a) (h1 : a < 18446744073709551616) : ((BitVec.ofInt 64 a ^^^ BitVec.ofInt 64 18446744073709551615).toNat : Int) = 18446744073709551615 - a := by
 have : BitVec.ofInt 64 18446744073709551615 = BitVec.allOnes 64 := by decide
 rw [this, BitVec.xor_allOnes, BitVec.toNat_not, BitVec.toNat_ofInt]
 omega
theorem Uy (a : Int) (h0 : 0 ≤ a) (h1 : a < 18446744073709551616) : ((BitVec.ofInt (IntKind.bits .u64) a ^^^ BitVec.ofInt (IntKind.bits .u64) 0).toNat : Int) = a := xor_zero a h0 h1
theorem Uz (a : Int) (h0 : 0 ≤ a) (h1 : a < 18446744073709551616) : ((BitVec.ofInt (IntKind.bits .u64) a ^^^ BitVec.ofInt (IntKind.bits .u64) 18446744073709551615).toNat : Int) = 18446744073709551615 - a := Xl a h0 h1
theorem zz_put {x : Int} (h0 : -9223372036854775808 ≤ x) (h1 : x ≤ 9223372036854775807) :
  IntKind.wrap .u64 ↑(BitVec.ofInt (IntKind.bits .u64) (IntKind.wrap .u64 ((IntKind.wrap .u64 x) * 2 ^ 1)) ^^^ BitVec.ofInt (IntKind.bits .u64) (IntKind.wrap .u64 (Int.fdiv x (2 ^ 63)))).toNat = (zz x : Int) := by
 simp only [Mx]
 rw [Int.fdiv_eq_ediv_of_nonneg _ (by omega)]
 by_cases h : 0 ≤ x
 ·have e : x / 2 ^ 63 % 18446744073709551616 = 0 := by omega
  rw [e, Uy _ (by omega) (by omega)]
  unfold zz
  rw [if_pos h]
  omega
 ·have e : x / 2 ^ 63 % 18446744073709551616 = 18446744073709551615 := by omega
  rw [e, Uz _ (by omega) (by omega)]
  unfold zz
  rw [if_neg h]
  omega
theorem Rf {x : Int} (h0 : -9223372036854775808 ≤ x) (h1 : x ≤ 9223372036854775807) :
  Runs lp 84 [.p (.int .i64 x)] [] (.sl (bs (Ae (zz x))) 0 (Ae (zz x)).length, [.spare 1 (Ae (zz x)).length]) := by
 refine int_fn ?_
 rw [zz_put h0 h1]
 exact Mz (T1 h0 h1)
theorem Xm {x : Int} (h0 : -9223372036854775808 ≤ x) (h1 : x ≤ 9223372036854775807) : Runs lp 90 [.p (.int .i64 x)] [] (.p (.int .u64 (zz x)), []) := by
 by_cases h : 0 ≤ x
 ·have := zig_p (x := x) (by simpa using h)
  have e : IntKind.wrap .u64 (2 * IntKind.wrap .u64 x) = (zz x : Int) := by
   simp only [Mx]; unfold zz; rw [if_pos h]; omega
  rwa [e] at this
 ·have := zig_n (x := x) (by simpa using h)
  have e : IntKind.wrap .u64 (IntKind.wrap .u64 (2 * IntKind.wrap .u64 (IntKind.wrap .i64 (0 - IntKind.wrap .i64 (x + 1)))) + 1) = (zz x : Int) := by
   rw [A9 (n := x + 1) (by omega) (by omega), A9 (by omega) (by omega)]
   simp only [Mx]; unfold zz; rw [if_neg h]; omega
  rwa [e] at this
theorem Or {x : Int} (h0 : -9223372036854775808 ≤ x) (h1 : x ≤ 9223372036854775807) :
  Runs lp 64 [.p (.int .i64 x)] [] (.sl (bs (Ae (zz x))) 0 (Ae (zz x)).length, [.spare 1 (Ae (zz x)).length]) :=
 rint_fn (Xm h0 h1) (Re (T1 h0 h1))
theorem Da {n : Nat} (h : n < 2 ^ 64) : Runs lp 32 [.p (.int .i64 n)] [] (.sl (bs (Ae n)) 0 (Ae n).length, [.spare 1 (Ae n).length]) := by
 refine Uw ?_
 rw [C0 h]
 exact Re h
theorem E3 {n : Nat} (h : n ≤ 4611686018427387904) : Runs lp 25 [.p (.int .i64 n)] [] (.tup [.sl (bs (Ae n)) 0 (Ae n).length, .p (.int .i64 0)], [.spare 1 (Ae n).length]) := by
 refine Xe (by simp) (by simp; omega) ?_
 rw [C0 (by omega)]
 exact Mz (by omega)
theorem H4 {s : List UInt8} (h : s.length ≤ reachBytes) : Runs lp 59 [.p (.str s)] [] (.sl (bs (Ae s.length ++ s)) 0 (Ae s.length ++ s).length, [.spare 1 (Ae s.length ++ s).length]) := by
 have hr : reachBytes = 140737488351232 := rfl
 have := vcode_len s.length (by omega)
 refine text_fn ?_ (by omega)
 rw [C0 (by omega)]
 exact Mz (by omega)
theorem Dn {s : List UInt8} (h : s.length ≤ reachBytes) : Runs lp 65 [.p (.str s)] [] (.sl (bs (Ae s.length ++ s)) 0 (Ae s.length ++ s).length, [.spare 1 (Ae s.length ++ s).length]) := by
 have hr : reachBytes = 140737488351232 := rfl
 have := vcode_len s.length (by omega)
 exact Xf (Da (by omega)) (W7 (by omega)) (by omega)
end Go.Proofs.YtegboccilfofmaaGreat
