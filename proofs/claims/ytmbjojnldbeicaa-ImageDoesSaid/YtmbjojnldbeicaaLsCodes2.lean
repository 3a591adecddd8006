import Derived.Test.YtmbjojnldbeicaaLsVar
import Derived.Test.YtmbjojnldbeicaaLsG5
set_option linter.unusedVariables false
set_option linter.unusedSimpArgs false
namespace Go.Proofs.Ytmbjojnldbeicaa
open Go Go.LS
def zz (x : Int) : Nat := if 0 ≤ x then (2 * x).toNat else (-(2 * x) - 1).toNat
theorem Wv {x : Int} (h0 : -9223372036854775808 ≤ x) (h1 : x ≤ 9223372036854775807) : zz x < 2 ^ 64 := by
 unfold zz; split <;> omega
theorem xor_zero (a : Int) (h0 : 0 ≤ a) (h1 : a < 18446744073709551616) : ((BitVec.ofInt 64 a ^^^ BitVec.ofInt 64 0).toNat : Int) = a := by
 have : BitVec.ofInt 64 0 = 0#64 := rfl
 rw [this, BitVec.xor_zero, BitVec.toNat_ofInt]
 omega
theorem xor_ones (a : Int) (h0 : 0 ≤ a) (h1 : a < 18446744073709551616) : ((BitVec.ofInt 64 a ^^^ BitVec.ofInt 64 18446744073709551615).toNat : Int) = 18446744073709551615 - a := by
 have : BitVec.ofInt 64 18446744073709551615 = BitVec.allOnes 64 := by decide
 rw [this, BitVec.xor_allOnes, BitVec.toNat_not, BitVec.toNat_ofInt]
 omega
theorem X4 (a : Int) (h0 : 0 ≤ a) (h1 : a < 18446744073709551616) : ((BitVec.ofInt (IntKind.bits .u64) a ^^^ BitVec.ofInt (IntKind.bits .u64) 0).toNat : Int) = a := xor_zero a h0 h1
theorem X5 (a : Int) (h0 : 0 ≤ a) (h1 : a < 18446744073709551616) : ((BitVec.ofInt (IntKind.bits .u64) a ^^^ BitVec.ofInt (IntKind.bits .u64) 18446744073709551615).toNat : Int) = 18446744073709551615 - a := xor_ones a h0 h1
theorem zz_put {x : Int} (h0 : -9223372036854775808 ≤ x) (h1 : x ≤ 9223372036854775807) :
  IntKind.wrap .u64 ↑(BitVec.ofInt (IntKind.bits .u64) (IntKind.wrap .u64 ((IntKind.wrap .u64 x) * 2 ^ 1)) ^^^ BitVec.ofInt (IntKind.bits .u64) (IntKind.wrap .u64 (Int.fdiv x (2 ^ 63)))).toNat = (zz x : Int) := by
 simp only [N3]
 rw [Int.fdiv_eq_ediv_of_nonneg _ (by omega)]
 by_cases h : 0 ≤ x
 ·have e : x / 2 ^ 63 % 18446744073709551616 = 0 := by omega
  rw [e, X4 _ (by omega) (by omega)]
  unfold zz
  rw [if_pos h]
  omega
 ·have e : x / 2 ^ 63 % 18446744073709551616 = 18446744073709551615 := by omega
  rw [e, X5 _ (by omega) (by omega)]
  unfold zz
  rw [if_neg h]
  omega
theorem Sd {x : Int} (h0 : -9223372036854775808 ≤ x) (h1 : x ≤ 9223372036854775807) :
  Runs lp 73 [.p (.int .i64 x)] [] (.sl (bs (Ab (zz x))) 0 (Ab (zz x)).length, [.spare 1 (Ab (zz x)).length]) := by
 refine int_fn ?_
 rw [zz_put h0 h1]
 exact N6 (Wv h0 h1)
theorem zig_runs {x : Int} (h0 : -9223372036854775808 ≤ x) (h1 : x ≤ 9223372036854775807) : Runs lp 78 [.p (.int .i64 x)] [] (.p (.int .u64 (zz x)), []) := by
 by_cases h : 0 ≤ x
 ·have := zig_p (x := x) (by simpa using h)
  have e : IntKind.wrap .u64 (2 * IntKind.wrap .u64 x) = (zz x : Int) := by
   simp only [N3]; unfold zz; rw [if_pos h]; omega
  rwa [e] at this
 ·have := zig_n (x := x) (by simpa using h)
  have e : IntKind.wrap .u64 (IntKind.wrap .u64 (2 * IntKind.wrap .u64 (IntKind.wrap .i64 (0 - IntKind.wrap .i64 (x + 1)))) + 1) = (zz x : Int) := by
   rw [A9 (n := x + 1) (by omega) (by omega), A9 (by omega) (by omega)]
   simp only [N3]; unfold zz; rw [if_neg h]; omega
  rwa [e] at this
theorem X6 {x : Int} (h0 : -9223372036854775808 ≤ x) (h1 : x ≤ 9223372036854775807) :
  Runs lp 64 [.p (.int .i64 x)] [] (.sl (bs (Ab (zz x))) 0 (Ab (zz x)).length, [.spare 1 (Ab (zz x)).length]) :=
 rint_fn (zig_runs h0 h1) (Sb (Wv h0 h1))
theorem H8 {n : Nat} (h : n < 2 ^ 64) : Runs lp 43 [.p (.int .i64 n)] [] (.sl (bs (Ab n)) 0 (Ab n).length, [.spare 1 (Ab n).length]) := by
 refine X2 ?_
 rw [Dl h]
 exact Sb h
theorem Dz {n : Nat} (h : n ≤ 4611686018427387904) : Runs lp 36 [.p (.int .i64 n)] [] (.tup [.sl (bs (Ab n)) 0 (Ab n).length, .p (.int .i64 0)], [.spare 1 (Ab n).length]) := by
 refine count_ok (by simp) (by simp; omega) ?_
 rw [Dl (by omega)]
 exact N6 (by omega)
theorem Lj {s : List UInt8} (h : s.length ≤ reachBytes) : Runs lp 76 [.p (.str s)] [] (.sl (bs (Ab s.length ++ s)) 0 (Ab s.length ++ s).length, [.spare 1 (Ab s.length ++ s).length]) := by
 have hr : reachBytes = 140737488351232 := rfl
 have := Ef s.length (by omega)
 refine text_fn ?_ (by omega)
 rw [Dl (by omega)]
 exact N6 (by omega)
theorem Je {s : List UInt8} (h : s.length ≤ reachBytes) : Runs lp 65 [.p (.str s)] [] (.sl (bs (Ab s.length ++ s)) 0 (Ab s.length ++ s).length, [.spare 1 (Ab s.length ++ s).length]) := by
 have hr : reachBytes = 140737488351232 := rfl
 have := Ef s.length (by omega)
 exact rtext_fn (H8 (by omega)) (Z9 (by omega)) (by omega)
end Go.Proofs.Ytmbjojnldbeicaa
