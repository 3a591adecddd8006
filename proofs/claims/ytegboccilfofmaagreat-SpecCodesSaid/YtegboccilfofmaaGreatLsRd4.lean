import Derived.Test.YtegboccilfofmaaGreatLsAb
import Derived.Test.YtegboccilfofmaaGreatLsRd3
set_option linter.unusedVariables false
set_option linter.unusedSimpArgs false
namespace Go.Proofs.YtegboccilfofmaaGreat
open Go Go.LS
def Vm (u : Nat) : Int := if u % 2 = 0 then ((u / 2 : Nat) : Int) else -((u / 2 : Nat) : Int) - 1
theorem F3 {n : Nat} (h : n < 2 ^ 63) : IntKind.wrap .i64 (n : Int) = (n : Int) := A9 (by omega) (by omega)
theorem Vn {u : Nat} (h : u < 2 ^ 64) : IntKind.wrap .i64 ↑(BitVec.ofInt (IntKind.bits .i64) (IntKind.wrap .i64 (Int.fdiv (u : Int) (2 ^ 1))) ^^^ BitVec.ofInt (IntKind.bits .i64) (IntKind.wrap .i64 (0 - (IntKind.wrap .i64 (IntKind.wrap .u64 ↑(BitVec.ofInt (IntKind.bits .u64) (u : Int) &&& BitVec.ofInt (IntKind.bits .u64) 1).toNat))))).toNat = Vm u := by
 have h1 : Int.fdiv (u : Int) (2 ^ 1) = ((u / 2 : Nat) : Int) := by
  rw [show (2 : Int) ^ 1 = 2 from rfl, Int.fdiv_eq_ediv_of_nonneg _ (by omega)]; rfl
 have h2 : (BitVec.ofInt (IntKind.bits .u64) (u : Int) &&& BitVec.ofInt (IntKind.bits .u64) 1).toNat = u % 2 := by
  show (BitVec.ofInt 64 (u : Int) &&& BitVec.ofInt 64 1).toNat = u % 2
  rw [BitVec.toNat_and, BitVec.toNat_ofInt, BitVec.toNat_ofInt]
  have e1 : ((u : Int) % ((2 ^ 64 : Nat) : Int)).toNat = u := by omega
  have e2 : ((1 : Int) % ((2 ^ 64 : Nat) : Int)).toNat = 1 := by omega
  rw [e1, e2, Nat.and_one_is_mod]
 rw [h1, h2, F3 (n := u / 2) (by omega), C0 (n := u % 2) (by omega), F3 (n := u % 2) (by omega)]
 unfold Vm
 by_cases hu : u % 2 = 0
 ·rw [if_pos hu, hu]
  have e : IntKind.wrap .i64 (0 - ((0 : Nat) : Int)) = 0 := by decide +kernel
  rw [e]
  show IntKind.wrap .i64 ↑(BitVec.ofInt 64 ((u / 2 : Nat) : Int) ^^^ BitVec.ofInt 64 0).toNat = _
  have e0 : BitVec.ofInt 64 0 = 0#64 := by decide +kernel
  rw [e0, BitVec.xor_zero, BitVec.toNat_ofInt]
  have e1 : (((u / 2 : Nat) : Int) % ((2 ^ 64 : Nat) : Int)).toNat = u / 2 := by omega
  rw [e1, F3 (by omega)]
 ·have h1 : u % 2 = 1 := by omega
  rw [if_neg hu, h1]
  have e : IntKind.wrap .i64 (0 - ((1 : Nat) : Int)) = -1 := by decide +kernel
  rw [e]
  show IntKind.wrap .i64 ↑(BitVec.ofInt 64 ((u / 2 : Nat) : Int) ^^^ BitVec.ofInt 64 (-1)).toNat = _
  have e0 : BitVec.ofInt 64 (-1) = BitVec.allOnes 64 := by decide +kernel
  rw [e0, BitVec.xor_allOnes, BitVec.toNat_not, BitVec.toNat_ofInt]
  have e1 : (((u / 2 : Nat) : Int) % ((2 ^ 64 : Nat) : Int)).toNat = u / 2 := by omega
  rw [e1]
  simp only [IntKind.wrap, IntKind.bits, IntKind.signed]
  simp
  omega
abbrev Src := BY × Bool
abbrev sto (s : Src) : List LObj := stL s.1 s.2
def Af (s : Src) : Int × Src := if s.2 = true ∨ s.1 = [] then (0, s.1, true) else (((s.1.getD 0 0).toNat : Int), s.1.drop 1, false)
def F4 (s : Src) : Int × Src := if s.2 = true ∨ Bj s.1 = 0 then (0, s.1, true) else (Vm (Bl s.1), s.1.drop (Bj s.1), false)
def Ar (s : Src) (most : Int) : Int × Src :=
 if s.2 = true ∨ Bj s.1 = 0 ∨ 4611686018427387904 < Bl s.1 ∨ most < (Bl s.1 : Int) then (0, s.1, true) else ((Bl s.1 : Int), s.1.drop (Bj s.1), false)
def Aq (s : Src) (most : Int) : BY × Src :=
 if s.2 = true ∨ Bj s.1 = 0 ∨ 4611686018427387904 < Bl s.1 ∨ most < (Bl s.1 : Int) ∨ s.1.length < Bj s.1 + Bl s.1 then ([], s.1, true)
 else ((s.1.drop (Bj s.1)).take (Bl s.1), s.1.drop (Bj s.1 + Bl s.1), false)
theorem Dd (s : Src) : Runs lp 36 [P00] (sto s) (pI (Af s).1, sto (Af s).2) := by
 obtain ⟨L, bad⟩ := s
 have := @vbyte L bad (by cases L <;> simp [bs]) (by simp) (by cases L <;> simp [bs] <;> try omega)
 cases bad with
 | true => simpa [Af] using this
 | false =>
  cases L with
  | nil => simpa [Af, sto, stL, bs] using this
  | cons c r =>
   have hc := c.toNat_lt
   have e : IntKind.wrap .i64 (c.toNat : Int) = (c.toNat : Int) := A9 (by omega) (by omega)
   have h0 : ¬ ((r.length : Int) + 1 = 0) := by omega
   simpa [Af, Cl, e, h0] using this
theorem vInt (s : Src) : Runs lp 92 [P00] (sto s) (pI (F4 s).1, sto (F4 s).2) := by
 obtain ⟨L, bad⟩ := s
 cases bad with
 | true => simpa [F4] using @vint_b L
 | false =>
  by_cases h : Bj L = 0
  ·simpa [F4, h] using @Y9 L (by simp [h])
  ·have := @Za L (by simp [h]) (P3 L)
   rw [Vn (Uc L)] at this
   simpa [F4, h] using this
theorem E7 (s : Src) (most : Int) : Runs lp 37 [P00, pI most] (sto s) (pI (Ar s most).1, sto (Ar s most).2) := by
 obtain ⟨L, bad⟩ := s
 cases bad with
 | true => simpa [Ar] using @Y8 L most
 | false =>
  by_cases h1 : Bl L ≤ 4611686018427387904
  ·have e := F3 (n := Bl L) (by omega)
   have h1' : (Bl L : Int) ≤ 4611686018427387904 := by omega
   by_cases h : Bj L = 0
   ·simpa [Ar, h] using @Rr L most (by simp [h1']) (by simp [h])
   ·by_cases h2 : (Bl L : Int) ≤ most
    ·have := @P5 L most (by simp [h1']) (by simp [h]) (by rw [e]; simpa using h2) (P3 L)
     rw [e] at this
     have q1 : ¬ 4611686018427387904 < Bl L := by omega
     have q2 : ¬ most < (Bl L : Int) := by omega
     simpa [Ar, h, q1, q2] using this
    ·have q2 : most < (Bl L : Int) := by omega
     simpa [Ar, h, q2] using @P6 L most (by simp [h1']) (by simp [h]) (by rw [e]; simpa using q2)
  ·have h1' : ¬ (Bl L : Int) ≤ 4611686018427387904 := by omega
   have q1 : 4611686018427387904 < Bl L := by omega
   by_cases h : Bj L = 0
   ·simpa [Ar, h] using @Rs L most (by simp; omega) (by simp [h])
   ·simpa [Ar, h, q1] using @Rt L most (by simp; omega) (by simp [h])
theorem O1 (s : Src) (most : Int) (hl : s.1.length ≤ 140737488355328) : Runs lp 91 [P00, pI most] (sto s) (pT (Aq s most).1, sto (Aq s most).2) := by
 obtain ⟨L, bad⟩ := s
 replace hl : L.length ≤ 140737488355328 := hl
 cases bad with
 | true => simpa [Aq] using @vtext_b L most
 | false =>
  have hg := P3 L
  by_cases h1 : 4611686018427387904 < Bl L
  ·by_cases h : Bj L = 0
   ·simpa [Aq, h] using @O0 L most (by simp; omega)
   ·simpa [Aq, h, h1] using @O0 L most (by simp; omega)
  ·have e := F3 (n := Bl L) (by omega)
   by_cases h2 : most < (Bl L : Int)
   ·simpa [Aq, h2] using @S7 L most (by simp; omega) (by rw [e]; simpa using h2)
   ·have e3 : IntKind.wrap .i64 (((List.length (bs L) : Nat) : Int) - (Bj L : Int)) = (L.length : Int) - Bj L := by rw [Cl, A9 (by omega) (by omega)]
    by_cases h3 : L.length < Bj L + Bl L
    ·simpa [Aq, h3] using @Ru L most (by simp; omega) (by rw [e]; simp; omega) (by rw [e, e3]; simp; omega)
    ·by_cases h : Bj L = 0
     ·simpa [Aq, h] using @P7 L most (by simp; omega) (by rw [e]; simp; omega) (by rw [e, e3]; simp; omega) (by simp [h])
     ·have e4 : IntKind.wrap .i64 ((Bj L : Int) + (Bl L : Int)) = ((Bj L + Bl L : Nat) : Int) := by rw [A9 (by omega) (by omega)]; rfl
      have := @P8 L most (by simp; omega) (by rw [e]; simp; omega) (by rw [e, e3]; simp; omega) (by simp [h]) (by omega) (by rw [e, e4]; omega) (by rw [e, e4]; omega) (by rw [e, e4]; omega)
      rw [e, e4] at this
      simp only [Int.toNat_natCast] at this
      have e5 : List.drop (Bj L) (List.take (Bj L + Bl L) L) = List.take (Bl L) (List.drop (Bj L) L) := by rw [List.drop_take]; congr 1; omega
      rw [e5] at this
      simpa [Aq, h, h1, h2, h3] using this
def O2 (s : Src) : Int := if s.2 = true ∨ s.1 ≠ [] then 10 else 0
theorem vDone (s : Src) : Runs lp 13 [P00] (sto s) (pI (O2 s), sto s) := by
 obtain ⟨L, bad⟩ := s
 have := @vdone L bad
 cases bad with
 | true => simpa [O2] using this
 | false =>
  cases L with
  | nil => simpa [O2, sto, stL, bs] using this
  | cons c r => 
   have h0 : (0 : Int) < (r.length : Int) + 1 := by omega
   simpa [O2, Cl, h0] using this
theorem Eo (s : Src) : Runs lp 15 [P00] (sto s) (pB s.2, sto s) := @N4 s.1 s.2
theorem Ei (s : Src) : Runs lp 40 [P00] (sto s) (.tup [], sto (s.1, true)) := @Eh s.1 s.2
end Go.Proofs.YtegboccilfofmaaGreat
