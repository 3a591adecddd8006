/- The sum of bytes, as plain numbers. -/
import Derived.Test.YthiilhepneddpaaLsLem
set_option linter.unusedVariables false
namespace Go.LS

/-- A register behind one bit. -/
def crc1 (n : Nat) : Nat := if n % 2 = 1 then (n / 2) ^^^ 3988292384 else n / 2
def crcN : Nat → Nat → Nat
  | 0, x => x
  | k + 1, x => crcN k (crc1 x)
/-- Behind bytes. -/
def crcB : Nat → List UInt8 → Nat
  | x, [] => x
  | x, c :: r => crcB (crcN 8 (x ^^^ c.toNat)) r
/-- The sum. -/
def crcS (L : List UInt8) : Nat := 4294967295 ^^^ crcB 4294967295 L

theorem xor_lt32 {a b : Nat} (ha : a < 4294967296) (hb : b < 4294967296) : a ^^^ b < 4294967296 := Nat.xor_lt_two_pow (n := 32) ha hb
theorem crc1_lt {x : Nat} (h : x < 4294967296) : crc1 x < 4294967296 := by
  unfold crc1
  split
  · exact xor_lt32 (by omega) (by omega)
  · omega
theorem crcN_lt : ∀ k {x : Nat}, x < 4294967296 → crcN k x < 4294967296
  | 0, _, h => h
  | k + 1, _, h => crcN_lt k (crc1_lt h)
theorem crcB_lt : ∀ (L : List UInt8) {x : Nat}, x < 4294967296 → crcB x L < 4294967296
  | [], _, h => h
  | c :: r, _, h => crcB_lt r (crcN_lt 8 (xor_lt32 h (by have := c.toNat_lt; omega)))
theorem crcS_lt (L : List UInt8) : crcS L < 4294967296 := xor_lt32 (by omega) (crcB_lt L (by omega))
theorem crcB_snoc : ∀ (L : List UInt8) (x : Nat) (c : UInt8), crcB x (L ++ [c]) = crcN 8 (crcB x L ^^^ c.toNat)
  | [], _, _ => rfl
  | d :: r, x, c => crcB_snoc r _ c

theorem wrap_u32_nat {n : Nat} (h : n < 4294967296) : IntKind.wrap .u32 (n : Int) = (n : Int) := by
  simp only [IntKind.wrap, IntKind.bits, IntKind.signed]
  simp
  omega
theorem xor32 {a b : Nat} (ha : a < 4294967296) (hb : b < 4294967296) :
    IntKind.wrap .u32 ↑(BitVec.ofInt (IntKind.bits .u32) (a : Int) ^^^ BitVec.ofInt (IntKind.bits .u32) (b : Int)).toNat = ((a ^^^ b : Nat) : Int) := by
  have : (BitVec.ofInt (IntKind.bits .u32) (a : Int) ^^^ BitVec.ofInt (IntKind.bits .u32) (b : Int)).toNat = a ^^^ b := by
    show (BitVec.ofInt 32 (a : Int) ^^^ BitVec.ofInt 32 (b : Int)).toNat = a ^^^ b
    rw [BitVec.toNat_xor, BitVec.toNat_ofInt, BitVec.toNat_ofInt]
    congr 1 <;> omega
  rw [this, wrap_u32_nat (xor_lt32 ha hb)]
theorem and1_32 {a : Nat} (ha : a < 4294967296) :
    IntKind.wrap .u32 ↑(BitVec.ofInt (IntKind.bits .u32) (a : Int) &&& BitVec.ofInt (IntKind.bits .u32) 1).toNat = ((a % 2 : Nat) : Int) := by
  have : (BitVec.ofInt (IntKind.bits .u32) (a : Int) &&& BitVec.ofInt (IntKind.bits .u32) 1).toNat = a % 2 := by
    show (BitVec.ofInt 32 (a : Int) &&& BitVec.ofInt 32 1).toNat = a % 2
    rw [BitVec.toNat_and, BitVec.toNat_ofInt, BitVec.toNat_ofInt]
    have e1 : ((a : Int) % ((2 ^ 32 : Nat) : Int)).toNat = a := by omega
    have e2 : ((1 : Int) % ((2 ^ 32 : Nat) : Int)).toNat = 1 := by omega
    rw [e1, e2, Nat.and_one_is_mod]
  rw [this, wrap_u32_nat (by omega)]
theorem fdiv2 (u : Nat) : Int.fdiv (u : Int) (2 ^ 1) = ((u / 2 : Nat) : Int) := by
  rw [show (2 : Int) ^ 1 = 2 from rfl, Int.fdiv_eq_ediv_of_nonneg _ (by omega)]; rfl
theorem tdiv2_32 {u : Nat} (h : u < 4294967296) : IntKind.wrap .u32 (Int.tdiv (u : Int) 2) = ((u / 2 : Nat) : Int) := by
  have : Int.tdiv (u : Int) 2 = ((u / 2 : Nat) : Int) := by rw [Int.tdiv_eq_ediv_of_nonneg (by omega)]; rfl
  rw [this, wrap_u32_nat (by omega)]
theorem tmod2' (u : Nat) : Int.tmod (u : Int) 2 = ((u % 2 : Nat) : Int) := by rw [Int.tmod_eq_emod_of_nonneg (by omega)]; rfl
theorem not32 {a : Nat} (ha : a < 4294967296) :
    IntKind.wrap .i64 (IntKind.wrap .u32 ↑(BitVec.ofInt (IntKind.bits .u32) 4294967295 ^^^ BitVec.ofInt (IntKind.bits .u32) (a : Int)).toNat) = ((4294967295 ^^^ a : Nat) : Int) := by
  have := xor32 (a := 4294967295) (b := a) (by omega) ha
  rw [show ((4294967295 : Nat) : Int) = 4294967295 from rfl] at this
  have h2 := xor_lt32 (a := 4294967295) (by omega) ha
  rw [this, wrap_i64 (by omega) (by omega)]
theorem u8_32 (c : UInt8) : IntKind.wrap .u32 (c.toNat : Int) = (c.toNat : Int) := wrap_u32_nat (by have := c.toNat_lt; omega)

/-- A sum's four bytes, the lowest first. -/
def four (n : Nat) : List UInt8 := [UInt8.ofNat n, UInt8.ofNat (n / 256), UInt8.ofNat (n / 65536), UInt8.ofNat (n / 16777216)]
theorem wrap_u8_ofNat (n : Nat) : UInt8.ofNat (Int.toNat (IntKind.wrap .u8 (n : Int))) = UInt8.ofNat n := by
  have : IntKind.wrap .u8 (n : Int) = ((n % 256 : Nat) : Int) := by
    simp only [IntKind.wrap, IntKind.bits, IntKind.signed]
    simp
  rw [this, Int.toNat_natCast]
  apply UInt8.toNat_inj.1
  simp
theorem fdiv8 (u k : Nat) : Int.fdiv (u : Int) (2 ^ k) = ((u / 2 ^ k : Nat) : Int) := by
  rw [Int.fdiv_eq_ediv_of_nonneg _ (Int.pow_nonneg (by omega))]
  push_cast; rfl
end Go.LS
