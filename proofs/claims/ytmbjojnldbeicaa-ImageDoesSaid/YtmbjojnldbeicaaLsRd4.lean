import Derived.Test.YtmbjojnldbeicaaLsAb
import Derived.Test.YtmbjojnldbeicaaLsRd3
set_option linter.unusedVariables false
set_option linter.unusedSimpArgs false
namespace Go.Proofs.Ytmbjojnldbeicaa
open Go Go.LS
def Ym (u : Nat) : Int := if u % 2 = 0 then ((u / 2 : Nat) : Int) else -((u / 2 : Nat) : Int) - 1
theorem Gs {n : Nat} (h : n < 2 ^ 63) : IntKind.wrap .i64 (n : Int) = (n : Int) := A9 (by omega) (by omega)
theorem Yn {u : Nat} (h : u < 2 ^ 64) : IntKind.wrap .i64 ↑(BitVec.ofInt (IntKind.bits .i64) (IntKind.wrap .i64 (Int.fdiv (u : Int) (2 ^ 1))) ^^^ BitVec.ofInt (IntKind.bits .i64) (IntKind.wrap .i64 (0 - (IntKind.wrap .i64 (IntKind.wrap .u64 ↑(BitVec.ofInt (IntKind.bits .u64) (u : Int) &&& BitVec.ofInt (IntKind.bits .u64) 1).toNat))))).toNat = Ym u := by
 have h1 : Int.fdiv (u : Int) (2 ^ 1) = ((u / 2 : Nat) : Int) := by
  rw [show (2 : Int) ^ 1 = 2 from rfl, Int.fdiv_eq_ediv_of_nonneg _ (by omega)]; rfl
 have h2 : (BitVec.ofInt (IntKind.bits .u64) (u : Int) &&& BitVec.ofInt (IntKind.bits .u64) 1).toNat = u % 2 := by
  show (BitVec.ofInt 64 (u : Int) &&& BitVec.ofInt 64 1).toNat = u % 2
  rw [BitVec.toNat_and, BitVec.toNat_ofInt, BitVec.toNat_ofInt]
  have e1 : ((u : Int) % ((2 ^ 64 : Nat) : Int)).toNat = u := by omega
  have e2 : ((1 : Int) % ((2 ^ 64 : Nat) : Int)).toNat = 1 := by omega
  rw [e1, e2, Nat.and_one_is_mod]
 rw [h1, h2, Gs (n := u / 2) (by omega), Dl (n := u % 2) (by omega), Gs (n := u % 2) (by omega)]
 unfold Ym
 by_cases hu : u % 2 = 0
 ·rw [if_pos hu, hu]
  have e : IntKind.wrap .i64 (0 - ((0 : Nat) : Int)) = 0 := by decide +kernel
  rw [e]
  show IntKind.wrap .i64 ↑(BitVec.ofInt 64 ((u / 2 : Nat) : Int) ^^^ BitVec.ofInt 64 0).toNat = _
  have e0 : BitVec.ofInt 64 0 = 0#64 := by decide +kernel
  rw [e0, BitVec.xor_zero, BitVec.toNat_ofInt]
  have e1 : (((u / 2 : Nat) : Int) % ((2 ^ 64 : Nat) : Int)).toNat = u / 2 := by omega
  rw [e1, Gs (by omega)]
 ·have h1 : u % 2 = 1 := by omega
  rw [if_neg hu, h1]
  have e : IntKind.wrap .i64 (0 - ((1 : Nat) : Int)) = -1 := by decide +kernel
  rw [e]
  show IntKind.wrap .i64 ↑(BitVec.ofInt 64 ((u / 2 : Nat) : Int) ^^^ BitVec.ofInt 64 (-1)).toNat = _
  have e0 : BitVec.ofInt 64 (-1) = BitVec.allOnes 64 := by decide +kernel
  rw [e0, BitVec.xor_allOnes, BitVec.toNat_not, BitVec.toNat_ofInt]
  have e1 : (((u / 2 : Nat) : Int) % ((2 ^ 64 : Nat) : Int)).toNat = u / 2 := by omega
  rw [e1]
  simp only [IntKind.wrap, IntKind.bits, IntKind.signed]
  simp
  omega
abbrev Src := BY × Bool
abbrev sto (s : Src) : List LObj := stL s.1 s.2
def Aq (s : Src) : Int × Src := if s.2 = true ∨ s.1 = [] then (0, s.1, true) else (((s.1.getD 0 0).toNat : Int), s.1.drop 1, false)
def Gt (s : Src) : Int × Src := if s.2 = true ∨ Bw s.1 = 0 then (0, s.1, true) else (Ym (By s.1), s.1.drop (Bw s.1), false)
def Ac (s : Src) (most : Int) : Int × Src :=
 if s.2 = true ∨ Bw s.1 = 0 ∨ 4611686018427387904 < By s.1 ∨ most < (By s.1 : Int) then (0, s.1, true) else ((By s.1 : Int), s.1.drop (Bw s.1), false)
def Ba (s : Src) (most : Int) : BY × Src :=
 if s.2 = true ∨ Bw s.1 = 0 ∨ 4611686018427387904 < By s.1 ∨ most < (By s.1 : Int) ∨ s.1.length < Bw s.1 + By s.1 then ([], s.1, true)
 else ((s.1.drop (Bw s.1)).take (By s.1), s.1.drop (Bw s.1 + By s.1), false)
theorem Ib (s : Src) : Runs lp 61 [P00] (sto s) (pI (Aq s).1, sto (Aq s).2) := by
 obtain ⟨L, bad⟩ := s
 have := @vbyte L bad (by cases L <;> simp [bs]) (by simp) (by cases L <;> simp [bs] <;> try omega)
 cases bad with
 | true => simpa [Aq] using this
 | false =>
  cases L with
  | nil => simpa [Aq, sto, stL, bs] using this
  | cons c r =>
   have hc := c.toNat_lt
   have e : IntKind.wrap .i64 (c.toNat : Int) = (c.toNat : Int) := A9 (by omega) (by omega)
   have h0 : ¬ ((r.length : Int) + 1 = 0) := by omega
   simpa [Aq, Ds, e, h0] using this
theorem vInt (s : Src) : Runs lp 83 [P00] (sto s) (pI (Gt s).1, sto (Gt s).2) := by
 obtain ⟨L, bad⟩ := s
 cases bad with
 | true => simpa [Gt] using @vint_b L
 | false =>
  by_cases h : Bw L = 0
  ·simpa [Gt, h] using @vint_o_y L (by simp [h])
  ·have := @vint_o_n L (by simp [h]) (Qn L)
   rw [Yn (W4 L)] at this
   simpa [Gt, h] using this
theorem Lm (s : Src) (most : Int) : Runs lp 39 [P00, pI most] (sto s) (pI (Ac s most).1, sto (Ac s most).2) := by
 obtain ⟨L, bad⟩ := s
 cases bad with
 | true => simpa [Ac] using @vcount_b L most
 | false =>
  by_cases h1 : By L ≤ 4611686018427387904
  ·have e := Gs (n := By L) (by omega)
   have h1' : (By L : Int) ≤ 4611686018427387904 := by omega
   by_cases h : Bw L = 0
   ·simpa [Ac, h] using @Ss L most (by simp [h1']) (by simp [h])
   ·by_cases h2 : (By L : Int) ≤ most
    ·have := @Qp L most (by simp [h1']) (by simp [h]) (by rw [e]; simpa using h2) (Qn L)
     rw [e] at this
     have q1 : ¬ 4611686018427387904 < By L := by omega
     have q2 : ¬ most < (By L : Int) := by omega
     simpa [Ac, h, q1, q2] using this
    ·have q2 : most < (By L : Int) := by omega
     simpa [Ac, h, q2] using @Qq L most (by simp [h1']) (by simp [h]) (by rw [e]; simpa using q2)
  ·have h1' : ¬ (By L : Int) ≤ 4611686018427387904 := by omega
   have q1 : 4611686018427387904 < By L := by omega
   by_cases h : Bw L = 0
   ·simpa [Ac, h] using @St L most (by simp; omega) (by simp [h])
   ·simpa [Ac, h, q1] using @Su L most (by simp; omega) (by simp [h])
theorem W8 (s : Src) (most : Int) (hl : s.1.length ≤ 140737488355328) : Runs lp 84 [P00, pI most] (sto s) (pT (Ba s most).1, sto (Ba s most).2) := by
 obtain ⟨L, bad⟩ := s
 replace hl : L.length ≤ 140737488355328 := hl
 cases bad with
 | true => simpa [Ba] using @vtext_b L most
 | false =>
  have hg := Qn L
  by_cases h1 : 4611686018427387904 < By L
  ·by_cases h : Bw L = 0
   ·simpa [Ba, h] using @Pp L most (by simp; omega)
   ·simpa [Ba, h, h1] using @Pp L most (by simp; omega)
  ·have e := Gs (n := By L) (by omega)
   by_cases h2 : most < (By L : Int)
   ·simpa [Ba, h2] using @U2 L most (by simp; omega) (by rw [e]; simpa using h2)
   ·have e3 : IntKind.wrap .i64 (((List.length (bs L) : Nat) : Int) - (Bw L : Int)) = (L.length : Int) - Bw L := by rw [Ds, A9 (by omega) (by omega)]
    by_cases h3 : L.length < Bw L + By L
    ·simpa [Ba, h3] using @Sv L most (by simp; omega) (by rw [e]; simp; omega) (by rw [e, e3]; simp; omega)
    ·by_cases h : Bw L = 0
     ·simpa [Ba, h] using @Qr L most (by simp; omega) (by rw [e]; simp; omega) (by rw [e, e3]; simp; omega) (by simp [h])
     ·have e4 : IntKind.wrap .i64 ((Bw L : Int) + (By L : Int)) = ((Bw L + By L : Nat) : Int) := by rw [A9 (by omega) (by omega)]; rfl
      have := @Qs L most (by simp; omega) (by rw [e]; simp; omega) (by rw [e, e3]; simp; omega) (by simp [h]) (by omega) (by rw [e, e4]; omega) (by rw [e, e4]; omega) (by rw [e, e4]; omega)
      rw [e, e4] at this
      simp only [Int.toNat_natCast] at this
      have e5 : List.drop (Bw L) (List.take (Bw L + By L) L) = List.take (By L) (List.drop (Bw L) L) := by rw [List.drop_take]; congr 1; omega
      rw [e5] at this
      simpa [Ba, h, h1, h2, h3] using this
def Eg (s : Src) : Int := if s.2 = true ∨ s.1 ≠ [] then 10 else 0
theorem Me (s : Src) : Runs lp 19 [P00] (sto s) (pI (Eg s), sto s) := by
 obtain ⟨L, bad⟩ := s
 have := @vdone L bad
 cases bad with
 | true => simpa [Eg] using this
 | false =>
  cases L with
  | nil => simpa [Eg, sto, stL, bs] using this
  | cons c r => 
   have h0 : (0 : Int) < (r.length : Int) + 1 := by omega
   simpa [Eg, Ds, h0] using this
theorem Ko (s : Src) : Runs lp 23 [P00] (sto s) (pB s.2, sto s) := @Oz s.1 s.2
theorem Ln (s : Src) : Runs lp 40 [P00] (sto s) (.tup [], sto (s.1, true)) := @E8 s.1 s.2
end Go.Proofs.Ytmbjojnldbeicaa
