import Derived.Test.YthmjaeflpgcmdaaLsAb
import Derived.Test.YthmjaeflpgcmdaaLsRd3
set_option linter.unusedVariables false
set_option linter.unusedSimpArgs false
namespace Go.Proofs.Ythmjaeflpgcmdaa
open Go Go.LS
def Yu (u : Nat) : Int := if u % 2 = 0 then ((u / 2 : Nat) : Int) else -((u / 2 : Nat) : Int) - 1
theorem Hv {n : Nat} (h : n < 2 ^ 63) : IntKind.wrap .i64 (n : Int) = (n : Int) := Aw (by omega) (by omega)
theorem V6 {u : Nat} (h : u < 2 ^ 64) : IntKind.wrap .i64 ↑(BitVec.ofInt (IntKind.bits .i64) (IntKind.wrap .i64 (Int.fdiv (u : Int) (2 ^ 1))) ^^^ BitVec.ofInt (IntKind.bits .i64) (IntKind.wrap .i64 (0 - (IntKind.wrap .i64 (IntKind.wrap .u64 ↑(BitVec.ofInt (IntKind.bits .u64) (u : Int) &&& BitVec.ofInt (IntKind.bits .u64) 1).toNat))))).toNat = Yu u := by
 have h1 : Int.fdiv (u : Int) (2 ^ 1) = ((u / 2 : Nat) : Int) := by
  rw [show (2 : Int) ^ 1 = 2 from rfl, Int.fdiv_eq_ediv_of_nonneg _ (by omega)]; rfl
 have h2 : (BitVec.ofInt (IntKind.bits .u64) (u : Int) &&& BitVec.ofInt (IntKind.bits .u64) 1).toNat = u % 2 := by
  show (BitVec.ofInt 64 (u : Int) &&& BitVec.ofInt 64 1).toNat = u % 2
  rw [BitVec.toNat_and, BitVec.toNat_ofInt, BitVec.toNat_ofInt]
  have e1 : ((u : Int) % ((2 ^ 64 : Nat) : Int)).toNat = u := by omega
  have e2 : ((1 : Int) % ((2 ^ 64 : Nat) : Int)).toNat = 1 := by omega
  rw [e1, e2, Nat.and_one_is_mod]
 rw [h1, h2, Hv (n := u / 2) (by omega), Dl (n := u % 2) (by omega), Hv (n := u % 2) (by omega)]
 unfold Yu
 by_cases hu : u % 2 = 0
 ·rw [if_pos hu, hu]
  have e : IntKind.wrap .i64 (0 - ((0 : Nat) : Int)) = 0 := by decide +kernel
  rw [e]
  show IntKind.wrap .i64 ↑(BitVec.ofInt 64 ((u / 2 : Nat) : Int) ^^^ BitVec.ofInt 64 0).toNat = _
  have e0 : BitVec.ofInt 64 0 = 0#64 := by decide +kernel
  rw [e0, BitVec.xor_zero, BitVec.toNat_ofInt]
  have e1 : (((u / 2 : Nat) : Int) % ((2 ^ 64 : Nat) : Int)).toNat = u / 2 := by omega
  rw [e1, Hv (by omega)]
 ·have h1 : u % 2 = 1 := by omega
  rw [if_neg hu, h1]
  have e : IntKind.wrap .i64 (0 - ((1 : Nat) : Int)) = -1 := by decide +kernel
  rw [e]
  show IntKind.wrap .i64 ↑(BitVec.ofInt 64 ((u / 2 : Nat) : Int) ^^^ BitVec.ofInt 64 (-1)).toNat = _
  have e0 : BitVec.ofInt 64 (-1) = BitVec.allOnes 64 := by decide +kernel
  rw [e0, BitVec.xor_allOnes, BitVec.toNat_not, BitVec.toNat_ofInt]
  have e1 : (((u / 2 : Nat) : Int) % ((2 ^ 64 : Nat) : Int)).toNat = u / 2 := by omega
  rw [e1]
  simp only [IntKind.wrap, IntKind.bits, IntKind.signed]
  simp
  omega
abbrev Src := BY × Bool
abbrev sto (s : Src) : List LObj := stL s.1 s.2
def B1 (s : Src) : Int × Src := if s.2 = true ∨ By s.1 = 0 then (0, s.1, true) else (Yu (B6 s.1), s.1.drop (By s.1), false)
def Ab (s : Src) (most : Int) : Int × Src :=
 if s.2 = true ∨ By s.1 = 0 ∨ 4611686018427387904 < B6 s.1 ∨ most < (B6 s.1 : Int) then (0, s.1, true) else ((B6 s.1 : Int), s.1.drop (By s.1), false)
theorem vInt (s : Src) : Runs lp 73 [P00] (sto s) (pI (B1 s).1, sto (B1 s).2) := by
 obtain ⟨L, bad⟩ := s
 cases bad with
 | true => simpa [B1] using @vint_b L
 | false =>
  by_cases h : By L = 0
  ·simpa [B1, h] using @Ys L (by simp [h])
  ·have := @Yt L (by simp [h]) (L7 L)
   rw [V6 (gnum_lt L)] at this
   simpa [B1, h] using this
theorem Nm (s : Src) (most : Int) : Runs lp 57 [P00, pI most] (sto s) (pI (Ab s most).1, sto (Ab s most).2) := by
 obtain ⟨L, bad⟩ := s
 cases bad with
 | true => simpa [Ab] using @Yr L most
 | false =>
  by_cases h1 : B6 L ≤ 4611686018427387904
  ·have e := Hv (n := B6 L) (by omega)
   have h1' : (B6 L : Int) ≤ 4611686018427387904 := by omega
   by_cases h : By L = 0
   ·simpa [Ab, h] using @Sh L most (by simp [h1']) (by simp [h])
   ·by_cases h2 : (B6 L : Int) ≤ most
    ·have := @Qk L most (by simp [h1']) (by simp [h]) (by rw [e]; simpa using h2) (L7 L)
     rw [e] at this
     have q1 : ¬ 4611686018427387904 < B6 L := by omega
     have q2 : ¬ most < (B6 L : Int) := by omega
     simpa [Ab, h, q1, q2] using this
    ·have q2 : most < (B6 L : Int) := by omega
     simpa [Ab, h, q2] using @Ql L most (by simp [h1']) (by simp [h]) (by rw [e]; simpa using q2)
  ·have h1' : ¬ (B6 L : Int) ≤ 4611686018427387904 := by omega
   have q1 : 4611686018427387904 < B6 L := by omega
   by_cases h : By L = 0
   ·simpa [Ab, h] using @Si L most (by simp; omega) (by simp [h])
   ·simpa [Ab, h, q1] using @Sj L most (by simp; omega) (by simp [h])
def At (s : Src) : Int := if s.2 then 0 else (s.1.length : Int)
def Le (s : Src) : Int := if s.2 = true ∨ s.1 ≠ [] then 10 else 0
theorem Nn (s : Src) : Runs lp 58 [P00] (sto s) (pI (At s), sto s) := by
 obtain ⟨L, bad⟩ := s
 have := @vleft L bad
 cases bad <;> simpa [At, A6] using this
theorem vDone (s : Src) : Runs lp 74 [P00] (sto s) (pI (Le s), sto s) := by
 obtain ⟨L, bad⟩ := s
 have := @vdone L bad
 cases bad with
 | true => simpa [Le] using this
 | false =>
  cases L with
  | nil => simpa [Le, sto, stL, bs] using this
  | cons c r => 
   have h0 : (0 : Int) < (r.length : Int) + 1 := by omega
   simpa [Le, A6, h0] using this
theorem vBad (s : Src) : Runs lp 59 [P00] (sto s) (pB s.2, sto s) := @Oe s.1 s.2
end Go.Proofs.Ythmjaeflpgcmdaa
