import Derived.Test.YtmbjojnldbeicaaLsAb
import Derived.Test.YtmbjojnldbeicaaLsRd3
set_option linter.unusedVariables false
set_option linter.unusedSimpArgs false
namespace Go.Proofs.Ytmbjojnldbeicaa
open Go Go.LS
def U9 (u : Nat) : Int := if u % 2 = 0 then ((u / 2 : Nat) : Int) else -((u / 2 : Nat) : Int) - 1
theorem C7 {n : Nat} (h : n < 2 ^ 63) : IntKind.wrap .i64 (n : Int) = (n : Int) := A6 (by omega) (by omega)
theorem Va {u : Nat} (h : u < 2 ^ 64) : IntKind.wrap .i64 ↑(BitVec.ofInt (IntKind.bits .i64) (IntKind.wrap .i64 (Int.fdiv (u : Int) (2 ^ 1))) ^^^ BitVec.ofInt (IntKind.bits .i64) (IntKind.wrap .i64 (0 - (IntKind.wrap .i64 (IntKind.wrap .u64 ↑(BitVec.ofInt (IntKind.bits .u64) (u : Int) &&& BitVec.ofInt (IntKind.bits .u64) 1).toNat))))).toNat = U9 u := by
 have h1 : Int.fdiv (u : Int) (2 ^ 1) = ((u / 2 : Nat) : Int) := by
  rw [show (2 : Int) ^ 1 = 2 from rfl, Int.fdiv_eq_ediv_of_nonneg _ (by omega)]; rfl
 have h2 : (BitVec.ofInt (IntKind.bits .u64) (u : Int) &&& BitVec.ofInt (IntKind.bits .u64) 1).toNat = u % 2 := by
  show (BitVec.ofInt 64 (u : Int) &&& BitVec.ofInt 64 1).toNat = u % 2
  rw [BitVec.toNat_and, BitVec.toNat_ofInt, BitVec.toNat_ofInt]
  have e1 : ((u : Int) % ((2 ^ 64 : Nat) : Int)).toNat = u := by omega
  have e2 : ((1 : Int) % ((2 ^ 64 : Nat) : Int)).toNat = 1 := by omega
  rw [e1, e2, Nat.and_one_is_mod]
 rw [h1, h2, C7 (n := u / 2) (by omega), Ch (n := u % 2) (by omega), C7 (n := u % 2) (by omega)]
 unfold U9
 by_cases hu : u % 2 = 0
 ·rw [if_pos hu, hu]
  have e : IntKind.wrap .i64 (0 - ((0 : Nat) : Int)) = 0 := by decide +kernel
  rw [e]
  show IntKind.wrap .i64 ↑(BitVec.ofInt 64 ((u / 2 : Nat) : Int) ^^^ BitVec.ofInt 64 0).toNat = _
  have e0 : BitVec.ofInt 64 0 = 0#64 := by decide +kernel
  rw [e0, BitVec.xor_zero, BitVec.toNat_ofInt]
  have e1 : (((u / 2 : Nat) : Int) % ((2 ^ 64 : Nat) : Int)).toNat = u / 2 := by omega
  rw [e1, C7 (by omega)]
 ·have h1 : u % 2 = 1 := by omega
  rw [if_neg hu, h1]
  have e : IntKind.wrap .i64 (0 - ((1 : Nat) : Int)) = -1 := by decide +kernel
  rw [e]
  show IntKind.wrap .i64 ↑(BitVec.ofInt 64 ((u / 2 : Nat) : Int) ^^^ BitVec.ofInt 64 (-1)).toNat = _
  have e0 : BitVec.ofInt 64 (-1) = BitVec.allOnes 64 := by decide +kernel
  rw [e0, BitVec.xor_allOnes, BitVec.toNat_not, BitVec.toNat_ofInt]
  have e1 : (((u / 2 : Nat) : Int) % ((2 ^ 64 : Nat) : Int)).toNat = u / 2 := by omega
  rw [e1]
  simp only [IntKind.wrap, IntKind.bits, IntKind.signed]
  simp
  omega
theorem tdiv2 {u : Nat} (h : u < 2 ^ 64) : IntKind.wrap .u64 (Int.tdiv (u : Int) 2) = ((u / 2 : Nat) : Int) := by
 have : Int.tdiv (u : Int) 2 = ((u / 2 : Nat) : Int) := by rw [Int.tdiv_eq_ediv_of_nonneg (by omega)]; rfl
 rw [this, Ch (by omega)]
theorem tmod2 (u : Nat) : Int.tmod (u : Int) 2 = ((u % 2 : Nat) : Int) := by rw [Int.tmod_eq_emod_of_nonneg (by omega)]; rfl
abbrev Src := BY × Bool
abbrev sto (s : Src) : List LObj := stL s.1 s.2
def Ab (s : Src) : Int × Src := if s.2 = true ∨ s.1 = [] then (0, s.1, true) else (((s.1.getD 0 0).toNat : Int), s.1.drop 1, false)
def Dl (s : Src) : Int × Src := if s.2 = true ∨ Bc s.1 = 0 then (0, s.1, true) else (U9 (Ba s.1), s.1.drop (Bc s.1), false)
def Aa (s : Src) (most : Int) : Int × Src :=
 if s.2 = true ∨ Bc s.1 = 0 ∨ 4611686018427387904 < Ba s.1 ∨ most < (Ba s.1 : Int) then (0, s.1, true) else ((Ba s.1 : Int), s.1.drop (Bc s.1), false)
def Al (s : Src) (most : Int) : BY × Src :=
 if s.2 = true ∨ Bc s.1 = 0 ∨ 4611686018427387904 < Ba s.1 ∨ most < (Ba s.1 : Int) ∨ s.1.length < Bc s.1 + Ba s.1 then ([], s.1, true)
 else ((s.1.drop (Bc s.1)).take (Ba s.1), s.1.drop (Bc s.1 + Ba s.1), false)
theorem G8 (s : Src) : Runs lp 61 [P00] (sto s) (pI (Ab s).1, sto (Ab s).2) := by
 obtain ⟨L, bad⟩ := s
 have := @vbyte L bad (by cases L <;> simp [bs]) (by simp) (by cases L <;> simp [bs] <;> try omega)
 cases bad with
 | true => simpa [Ab] using this
 | false =>
  cases L with
  | nil => simpa [Ab, sto, stL, bs] using this
  | cons c r =>
   have hc := c.toNat_lt
   have e : IntKind.wrap .i64 (c.toNat : Int) = (c.toNat : Int) := A6 (by omega) (by omega)
   have h0 : ¬ ((r.length : Int) + 1 = 0) := by omega
   simpa [Ab, Cb, e, h0] using this
theorem Df (s : Src) : Runs lp 47 [P00] (sto s) (pI (Ab s).1, sto (Ab s).2) := by
 obtain ⟨L, bad⟩ := s
 have := @rbyte L bad (by cases L <;> simp [bs]) (by simp) (by cases L <;> simp [bs] <;> try omega)
 cases bad with
 | true => simpa [Ab] using this
 | false =>
  cases L with
  | nil => simpa [Ab, sto, stL, bs] using this
  | cons c r =>
   have hc := c.toNat_lt
   have e : IntKind.wrap .i64 (c.toNat : Int) = (c.toNat : Int) := A6 (by omega) (by omega)
   have h0 : ¬ ((r.length : Int) + 1 = 0) := by omega
   simpa [Ab, Cb, e, h0] using this
theorem vInt (s : Src) : Runs lp 83 [P00] (sto s) (pI (Dl s).1, sto (Dl s).2) := by
 obtain ⟨L, bad⟩ := s
 cases bad with
 | true => simpa [Dl] using @vint_b L
 | false =>
  by_cases h : Bc L = 0
  ·simpa [Dl, h] using @Xx L (by simp [h])
  ·have := @Xy L (by simp [h]) (Lm L)
   rw [Va (Oz L)] at this
   simpa [Dl, h] using this
theorem rInt (s : Src) : Runs lp 79 [P00] (sto s) (pI (Dl s).1, sto (Dl s).2) := by
 obtain ⟨L, bad⟩ := s
 have hl := Oz L
 cases bad with
 | true => simpa [Dl] using @rint_b L
 | false =>
  by_cases h : Bc L = 0
  ·simpa [Dl, h] using @Xz L (by simp [h])
  ·by_cases h2 : Ba L % 2 = 0
   ·have := @U6 L (by simp [h]) (by rw [tmod2, h2]; rfl)
    rw [tdiv2 hl, C7 (by omega)] at this
    simpa [Dl, h, U9, h2] using this
   ·have := @U7 L (by simp [h]) (by rw [tmod2, show Ba L % 2 = 1 by omega]; rfl)
    rw [tdiv2 hl, C7 (by omega)] at this
    have e : IntKind.wrap .i64 (0 - ((Ba L / 2 : Nat) : Int)) = -((Ba L / 2 : Nat) : Int) := by rw [A6 (by omega) (by omega)]; omega
    rw [e, A6 (by omega) (by omega)] at this
    simpa [Dl, h, U9, h2] using this
theorem Kb (s : Src) (most : Int) : Runs lp 39 [P00, pI most] (sto s) (pI (Aa s most).1, sto (Aa s most).2) := by
 obtain ⟨L, bad⟩ := s
 cases bad with
 | true => simpa [Aa] using @Xw L most
 | false =>
  by_cases h1 : Ba L ≤ 4611686018427387904
  ·have e := C7 (n := Ba L) (by omega)
   have h1' : (Ba L : Int) ≤ 4611686018427387904 := by omega
   by_cases h : Bc L = 0
   ·simpa [Aa, h] using @Qx L most (by simp [h1']) (by simp [h])
   ·by_cases h2 : (Ba L : Int) ≤ most
    ·have := @O1 L most (by simp [h1']) (by simp [h]) (by rw [e]; simpa using h2) (Lm L)
     rw [e] at this
     have q1 : ¬ 4611686018427387904 < Ba L := by omega
     have q2 : ¬ most < (Ba L : Int) := by omega
     simpa [Aa, h, q1, q2] using this
    ·have q2 : most < (Ba L : Int) := by omega
     simpa [Aa, h, q2] using @O2 L most (by simp [h1']) (by simp [h]) (by rw [e]; simpa using q2)
  ·have h1' : ¬ (Ba L : Int) ≤ 4611686018427387904 := by omega
   have q1 : 4611686018427387904 < Ba L := by omega
   by_cases h : Bc L = 0
   ·simpa [Aa, h] using @Qy L most (by simp; omega) (by simp [h])
   ·simpa [Aa, h, q1] using @Qz L most (by simp; omega) (by simp [h])
theorem F6 (s : Src) (most : Int) : Runs lp 46 [P00, pI most] (sto s) (pI (Aa s most).1, sto (Aa s most).2) := by
 obtain ⟨L, bad⟩ := s
 cases bad with
 | true => simpa [Aa] using @Qw L most
 | false =>
  by_cases h : Bc L = 0
  ·simpa [Aa, h] using @Mr L most (by simp [h])
  ·by_cases h1 : 4611686018427387904 < Ba L
   ·simpa [Aa, h, h1] using @K0 L most (by simp [h]) (by simp; omega)
   ·have e := C7 (n := Ba L) (by omega)
    by_cases h2 : most < (Ba L : Int)
    ·simpa [Aa, h, h2] using @Jd L most (by simp [h]) (by simp; omega) (by rw [e]; simpa using h2)
    ·have := @F5 L most (by simp [h]) (by simp; omega) (by rw [e]; simp; omega)
     rw [e] at this
     simpa [Aa, h, h1, h2] using this
theorem Tz (s : Src) (most : Int) (hl : s.1.length ≤ 140737488355328) : Runs lp 84 [P00, pI most] (sto s) (pT (Al s most).1, sto (Al s most).2) := by
 obtain ⟨L, bad⟩ := s
 replace hl : L.length ≤ 140737488355328 := hl
 cases bad with
 | true => simpa [Al] using @Z3 L most
 | false =>
  have hg := Lm L
  by_cases h1 : 4611686018427387904 < Ba L
  ·by_cases h : Bc L = 0
   ·simpa [Al, h] using @Nz L most (by simp; omega)
   ·simpa [Al, h, h1] using @Nz L most (by simp; omega)
  ·have e := C7 (n := Ba L) (by omega)
   by_cases h2 : most < (Ba L : Int)
   ·simpa [Al, h2] using @Si L most (by simp; omega) (by rw [e]; simpa using h2)
   ·have e3 : IntKind.wrap .i64 (((List.length (bs L) : Nat) : Int) - (Bc L : Int)) = (L.length : Int) - Bc L := by rw [Cb, A6 (by omega) (by omega)]
    by_cases h3 : L.length < Bc L + Ba L
    ·simpa [Al, h3] using @Q0 L most (by simp; omega) (by rw [e]; simp; omega) (by rw [e, e3]; simp; omega)
    ·by_cases h : Bc L = 0
     ·simpa [Al, h] using @O3 L most (by simp; omega) (by rw [e]; simp; omega) (by rw [e, e3]; simp; omega) (by simp [h])
     ·have e4 : IntKind.wrap .i64 ((Bc L : Int) + (Ba L : Int)) = ((Bc L + Ba L : Nat) : Int) := by rw [A6 (by omega) (by omega)]; rfl
      have := @O4 L most (by simp; omega) (by rw [e]; simp; omega) (by rw [e, e3]; simp; omega) (by simp [h]) (by omega) (by rw [e, e4]; omega) (by rw [e, e4]; omega) (by rw [e, e4]; omega)
      rw [e, e4] at this
      simp only [Int.toNat_natCast] at this
      have e5 : List.drop (Bc L) (List.take (Bc L + Ba L) L) = List.take (Ba L) (List.drop (Bc L) L) := by rw [List.drop_take]; congr 1; omega
      rw [e5] at this
      simpa [Al, h, h1, h2, h3] using this
theorem T0 (s : Src) (most : Int) (hl : s.1.length ≤ 140737488355328) : Runs lp 80 [P00, pI most] (sto s) (pT (Al s most).1, sto (Al s most).2) := by
 obtain ⟨L, bad⟩ := s
 replace hl : L.length ≤ 140737488355328 := hl
 cases bad with
 | true => simpa [Al] using @Z4 L most
 | false =>
  have hg := Lm L
  by_cases h : Bc L = 0
  ·simpa [Al, h] using @U8 L most (by simp [h])
  ·by_cases h1 : 4611686018427387904 < Ba L
   ·simpa [Al, h, h1] using @Sj L most (by simp [h]) (by simp; omega)
   ·have e := C7 (n := Ba L) (by omega)
    by_cases h2 : most < (Ba L : Int)
    ·simpa [Al, h, h2] using @Q2 L most (by simp [h]) (by simp; omega) (by rw [e]; simpa using h2)
    ·by_cases h3 : L.length < Bc L + Ba L
     ·simpa [Al, h, h3] using @O5 L most (by simp [h]) (by simp; omega) (by rw [e]; simp; omega) (by rw [e, Cb, List.length_drop]; simp; omega)
     ·have := @O6 L most (by simp [h]) (by simp; omega) (by rw [e]; simp; omega) (by rw [e, Cb, List.length_drop]; simp; omega) (by omega) (by rw [e, List.length_drop]; omega)
      rw [e] at this
      simp only [Int.toNat_natCast, List.drop_drop] at this
      simpa [Al, h, h1, h2, h3] using this
def A8 (s : Src) : Int := if s.2 then 0 else (s.1.length : Int)
theorem T1 (s : Src) : Runs lp 24 [P00] (sto s) (pI (A8 s), sto s) := by
 obtain ⟨L, bad⟩ := s
 have := @vleft L bad
 cases bad <;> simpa [A8, Cb] using this
theorem T2 (s : Src) : Runs lp 25 [P00] (sto s) (pI (A8 s), sto s) := by
 obtain ⟨L, bad⟩ := s
 have := @rleft L bad
 cases bad <;> simpa [A8, Cb] using this
theorem Ge (s : Src) : Runs lp 23 [P00] (sto s) (pB s.2, sto s) := @Sc s.1 s.2
theorem Kc (s : Src) : Runs lp 40 [P00] (sto s) (.tup [], sto (s.1, true)) := @Ee s.1 s.2
end Go.Proofs.Ytmbjojnldbeicaa
