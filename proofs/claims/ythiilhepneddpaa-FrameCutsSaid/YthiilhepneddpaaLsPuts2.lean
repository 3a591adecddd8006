/- What sums' bytes and slices one behind the other come to. -/
import Derived.Test.YthiilhepneddpaaLsPuts
set_option linter.unusedVariables false
set_option linter.unusedSimpArgs false
namespace Go.Proofs.Ythiilhepneddpaa
open Go Go.LS

theorem four_b (n : Nat) : [UInt8.ofNat (Int.toNat (IntKind.wrap .u8 (n : Int))), UInt8.ofNat (Int.toNat (IntKind.wrap .u8 (Int.fdiv (n : Int) (2 ^ 8)))), UInt8.ofNat (Int.toNat (IntKind.wrap .u8 (Int.fdiv (n : Int) (2 ^ 16)))), UInt8.ofNat (Int.toNat (IntKind.wrap .u8 (Int.fdiv (n : Int) (2 ^ 24))))] = four n := by
  simp only [fdiv8, wrap_u8_ofNat, four]
theorem four_bs (n : Nat) : [[PV.int .u8 (IntKind.wrap .u8 (n : Int))], [PV.int .u8 (IntKind.wrap .u8 (Int.fdiv (n : Int) (2 ^ 8)))], [PV.int .u8 (IntKind.wrap .u8 (Int.fdiv (n : Int) (2 ^ 16)))], [PV.int .u8 (IntKind.wrap .u8 (Int.fdiv (n : Int) (2 ^ 24)))]] = bs (four n) := by
  rw [wrap_u8_bs4, four_b]
theorem vSum4 {L : List UInt8} (hl : L.length ≤ 140737488355328) : Runs lp 19 [.p (.sl (bs L))] [] (.tight (bs (four (crcS L))), []) := by
  have := @sum4 L hl
  rwa [four_bs] at this
theorem vSum4_s {L : List UInt8} {m : Nat} (hl : L.length ≤ 140737488355328) : Runs lp 19 [.sl (bs L) 0 m] [.spare 1 m] (.tight (bs (four (crcS L))), [.spare 1 m]) := by
  have := @sum4_s L m hl
  rwa [four_bs] at this
theorem rFour (n : Nat) : Runs lp 21 [.p (.int .i64 (n : Int))] [] (.tight (bs (four n)), []) := by
  have := @four4 n
  rwa [four_bs] at this

theorem vCat {X Y Z : List UInt8} (hx : X.length ≤ 199999999000000) (hy : Y.length ≤ 100000) (hz : 0 < Z.length ∧ Z.length ≤ 100000) :
    Runs lp 18 [.tight [[.sl (bs X)], [.sl (bs Y)], [.sl (bs Z)]]] [] (.sl (bs (X ++ Y ++ Z)) 0 (X ++ Y ++ Z).length, [.spare 1 (X ++ Y ++ Z).length]) := by
  have e0 : IntKind.wrap .i64 (0 + ((List.length (bs X) : Nat) : Int)) = (X.length : Int) := by rw [bs_len, wrap_i64 (by omega) (by omega)]; omega
  have e1 : IntKind.wrap .i64 ((X.length : Int) + ((List.length (bs Y) : Nat) : Int)) = ((X.length + Y.length : Nat) : Int) := by rw [bs_len, wrap_i64 (by omega) (by omega)]; omega
  have e2 : IntKind.wrap .i64 (((X.length + Y.length : Nat) : Int) + ((List.length (bs Z) : Nat) : Int)) = ((X.length + Y.length + Z.length : Nat) : Int) := by rw [bs_len, wrap_i64 (by omega) (by omega)]; omega
  have e3 : IntKind.wrap .i64 (((X.length + Y.length + Z.length : Nat) : Int) - 0) = ((X.length + Y.length + Z.length : Nat) : Int) := by rw [wrap_i64 (by omega) (by omega)]; omega
  have h := @cat3_nnny X Y Z
  rw [e0, e1, e2, e3] at h
  exact h (by simp <;> omega) (by simp <;> omega) (by simp <;> omega) (by simp <;> omega) ⟨by omega, by rw [Int.toNat_natCast]; exact roomy1 (by omega), by omega⟩ (by simp only [List.length_nil]; omega) (by simp only [List.nil_append]; omega) (by simp only [List.nil_append, List.length_append]; omega)

/-- A body's frame. -/
def fpre (b : List UInt8) : List UInt8 := vcode b.length ++ b
def frame (b : List UInt8) : List UInt8 := fpre b ++ four (crcS (fpre b))
theorem fpre_len {b : List UInt8} (h : b.length ≤ 65536) : (fpre b).length ≤ 65546 := by
  have := vcode_len b.length (by omega)
  simp [fpre]; omega
theorem four_len (n : Nat) : (four n).length = 4 := rfl
end Go.Proofs.Ythiilhepneddpaa
