import Derived.Test.YtegboccilfofmaaGreatLsAb
import Derived.Test.YtegboccilfofmaaGreatLsRd3
set_option linter.unusedVariables false
set_option linter.unusedSimpArgs false
namespace Go.Proofs.YtegboccilfofmaaGreat
open Go Go.LS
def Vo (u : Nat) : Int := if u % 2 = 0 then ((u / 2 : Nat) : Int) else -((u / 2 : Nat) : Int) - 1
theorem C4 {n : Nat} (h : n < 2 ^ 63) : IntKind.wrap .i64 (n : Int) = (n : Int) := A8 (by omega) (by omega)
theorem Vp {u : Nat} (h : u < 2 ^ 64) : IntKind.wrap .i64 ↑(BitVec.ofInt (IntKind.bits .i64) (IntKind.wrap .i64 (Int.fdiv (u : Int) (2 ^ 1))) ^^^ BitVec.ofInt (IntKind.bits .i64) (IntKind.wrap .i64 (0 - (IntKind.wrap .i64 (IntKind.wrap .u64 ↑(BitVec.ofInt (IntKind.bits .u64) (u : Int) &&& BitVec.ofInt (IntKind.bits .u64) 1).toNat))))).toNat = Vo u := by
 have h1 : Int.fdiv (u : Int) (2 ^ 1) = ((u / 2 : Nat) : Int) := by
  rw [show (2 : Int) ^ 1 = 2 from rfl, Int.fdiv_eq_ediv_of_nonneg _ (by omega)]; rfl
 have h2 : (BitVec.ofInt (IntKind.bits .u64) (u : Int) &&& BitVec.ofInt (IntKind.bits .u64) 1).toNat = u % 2 := by
  show (BitVec.ofInt 64 (u : Int) &&& BitVec.ofInt 64 1).toNat = u % 2
  rw [BitVec.toNat_and, BitVec.toNat_ofInt, BitVec.toNat_ofInt]
  have e1 : ((u : Int) % ((2 ^ 64 : Nat) : Int)).toNat = u := by omega
  have e2 : ((1 : Int) % ((2 ^ 64 : Nat) : Int)).toNat = 1 := by omega
  rw [e1, e2, Nat.and_one_is_mod]
 rw [h1, h2, C4 (n := u / 2) (by omega), B6 (n := u % 2) (by omega), C4 (n := u % 2) (by omega)]
 unfold Vo
 by_cases hu : u % 2 = 0
 ·rw [if_pos hu, hu]
  have e : IntKind.wrap .i64 (0 - ((0 : Nat) : Int)) = 0 := by decide +kernel
  rw [e]
  show IntKind.wrap .i64 ↑(BitVec.ofInt 64 ((u / 2 : Nat) : Int) ^^^ BitVec.ofInt 64 0).toNat = _
  have e0 : BitVec.ofInt 64 0 = 0#64 := by decide +kernel
  rw [e0, BitVec.xor_zero, BitVec.toNat_ofInt]
  have e1 : (((u / 2 : Nat) : Int) % ((2 ^ 64 : Nat) : Int)).toNat = u / 2 := by omega
  rw [e1, C4 (by omega)]
 ·have h1 : u % 2 = 1 := by omega
  rw [if_neg hu, h1]
  have e : IntKind.wrap .i64 (0 - ((1 : Nat) : Int)) = -1 := by decide +kernel
  rw [e]
  show IntKind.wrap .i64 ↑(BitVec.ofInt 64 ((u / 2 : Nat) : Int) ^^^ BitVec.ofInt 64 (-1)).toNat = _
  have e0 : BitVec.ofInt 64 (-1) = BitVec.allOnes 64 := by decide +kernel
  rw [e0, BitVec.xor_allOnes, BitVec.toNat_not, BitVec.toNat_ofInt]
  have e1 : (((u / 2 : Nat) : Int) % ((2 ^ 64 : Nat) : Int)).toNat = u / 2 := by omega
  rw [e1]
  simp only [IntKind.wrap, IntKind.bits, IntKind.signed]
  simp
  omega
theorem tdiv2 {u : Nat} (h : u < 2 ^ 64) : IntKind.wrap .u64 (Int.tdiv (u : Int) 2) = ((u / 2 : Nat) : Int) := by
 have : Int.tdiv (u : Int) 2 = ((u / 2 : Nat) : Int) := by rw [Int.tdiv_eq_ediv_of_nonneg (by omega)]; rfl
 rw [this, B6 (by omega)]
theorem tmod2 (u : Nat) : Int.tmod (u : Int) 2 = ((u % 2 : Nat) : Int) := by rw [Int.tmod_eq_emod_of_nonneg (by omega)]; rfl
abbrev Src := BY × Bool
abbrev sto (s : Src) : List LObj := stL s.1 s.2
def Aa (s : Src) : Int × Src := if s.2 = true ∨ s.1 = [] then (0, s.1, true) else (((s.1.getD 0 0).toNat : Int), s.1.drop 1, false)
def Dk (s : Src) : Int × Src := if s.2 = true ∨ Az s.1 = 0 then (0, s.1, true) else (Vo (Ay s.1), s.1.drop (Az s.1), false)
def Ai (s : Src) (most : Int) : Int × Src :=
 if s.2 = true ∨ Az s.1 = 0 ∨ 4611686018427387904 < Ay s.1 ∨ most < (Ay s.1 : Int) then (0, s.1, true) else ((Ay s.1 : Int), s.1.drop (Az s.1), false)
def Aj (s : Src) (most : Int) : BY × Src :=
 if s.2 = true ∨ Az s.1 = 0 ∨ 4611686018427387904 < Ay s.1 ∨ most < (Ay s.1 : Int) ∨ s.1.length < Az s.1 + Ay s.1 then ([], s.1, true)
 else ((s.1.drop (Az s.1)).take (Ay s.1), s.1.drop (Az s.1 + Ay s.1), false)
theorem C1 (s : Src) : Runs lp 36 [P00] (sto s) (pI (Aa s).1, sto (Aa s).2) := by
 obtain ⟨L, bad⟩ := s
 have := @vbyte L bad (by cases L <;> simp [bs]) (by simp) (by cases L <;> simp [bs] <;> try omega)
 cases bad with
 | true => simpa [Aa] using this
 | false =>
  cases L with
  | nil => simpa [Aa, sto, stL, bs] using this
  | cons c r =>
   have hc := c.toNat_lt
   have e : IntKind.wrap .i64 (c.toNat : Int) = (c.toNat : Int) := A8 (by omega) (by omega)
   have h0 : ¬ ((r.length : Int) + 1 = 0) := by omega
   simpa [Aa, Bz, e, h0] using this
theorem B9 (s : Src) : Runs lp 41 [P00] (sto s) (pI (Aa s).1, sto (Aa s).2) := by
 obtain ⟨L, bad⟩ := s
 have := @rbyte L bad (by cases L <;> simp [bs]) (by simp) (by cases L <;> simp [bs] <;> try omega)
 cases bad with
 | true => simpa [Aa] using this
 | false =>
  cases L with
  | nil => simpa [Aa, sto, stL, bs] using this
  | cons c r =>
   have hc := c.toNat_lt
   have e : IntKind.wrap .i64 (c.toNat : Int) = (c.toNat : Int) := A8 (by omega) (by omega)
   have h0 : ¬ ((r.length : Int) + 1 = 0) := by omega
   simpa [Aa, Bz, e, h0] using this
theorem vInt (s : Src) : Runs lp 92 [P00] (sto s) (pI (Dk s).1, sto (Dk s).2) := by
 obtain ⟨L, bad⟩ := s
 cases bad with
 | true => simpa [Dk] using @vint_b L
 | false =>
  by_cases h : Az L = 0
  ·simpa [Dk, h] using @Zc L (by simp [h])
  ·have := @Zd L (by simp [h]) (Lu L)
   rw [Vp (Ph L)] at this
   simpa [Dk, h] using this
theorem rInt (s : Src) : Runs lp 94 [P00] (sto s) (pI (Dk s).1, sto (Dk s).2) := by
 obtain ⟨L, bad⟩ := s
 have hl := Ph L
 cases bad with
 | true => simpa [Dk] using @rint_b L
 | false =>
  by_cases h : Az L = 0
  ·simpa [Dk, h] using @Ze L (by simp [h])
  ·by_cases h2 : Ay L % 2 = 0
   ·have := @Vl L (by simp [h]) (by rw [tmod2, h2]; rfl)
    rw [tdiv2 hl, C4 (by omega)] at this
    simpa [Dk, h, Vo, h2] using this
   ·have := @Vm L (by simp [h]) (by rw [tmod2, show Ay L % 2 = 1 by omega]; rfl)
    rw [tdiv2 hl, C4 (by omega)] at this
    have e : IntKind.wrap .i64 (0 - ((Ay L / 2 : Nat) : Int)) = -((Ay L / 2 : Nat) : Int) := by rw [A8 (by omega) (by omega)]; omega
    rw [e, A8 (by omega) (by omega)] at this
    simpa [Dk, h, Vo, h2] using this
theorem E6 (s : Src) (most : Int) : Runs lp 37 [P00, pI most] (sto s) (pI (Ai s most).1, sto (Ai s most).2) := by
 obtain ⟨L, bad⟩ := s
 cases bad with
 | true => simpa [Ai] using @Zb L most
 | false =>
  by_cases h1 : Ay L ≤ 4611686018427387904
  ·have e := C4 (n := Ay L) (by omega)
   have h1' : (Ay L : Int) ≤ 4611686018427387904 := by omega
   by_cases h : Az L = 0
   ·simpa [Ai, h] using @Rg L most (by simp [h1']) (by simp [h])
   ·by_cases h2 : (Ay L : Int) ≤ most
    ·have := @Pj L most (by simp [h1']) (by simp [h]) (by rw [e]; simpa using h2) (Lu L)
     rw [e] at this
     have q1 : ¬ 4611686018427387904 < Ay L := by omega
     have q2 : ¬ most < (Ay L : Int) := by omega
     simpa [Ai, h, q1, q2] using this
    ·have q2 : most < (Ay L : Int) := by omega
     simpa [Ai, h, q2] using @Pk L most (by simp [h1']) (by simp [h]) (by rw [e]; simpa using q2)
  ·have h1' : ¬ (Ay L : Int) ≤ 4611686018427387904 := by omega
   have q1 : 4611686018427387904 < Ay L := by omega
   by_cases h : Az L = 0
   ·simpa [Ai, h] using @Rh L most (by simp; omega) (by simp [h])
   ·simpa [Ai, h, q1] using @Ri L most (by simp; omega) (by simp [h])
theorem Dr (s : Src) (most : Int) : Runs lp 43 [P00, pI most] (sto s) (pI (Ai s most).1, sto (Ai s most).2) := by
 obtain ⟨L, bad⟩ := s
 cases bad with
 | true => simpa [Ai] using @Rf L most
 | false =>
  by_cases h : Az L = 0
  ·simpa [Ai, h] using @M1 L most (by simp [h])
  ·by_cases h1 : 4611686018427387904 < Ay L
   ·simpa [Ai, h, h1] using @La L most (by simp [h]) (by simp; omega)
   ·have e := C4 (n := Ay L) (by omega)
    by_cases h2 : most < (Ay L : Int)
    ·simpa [Ai, h, h2] using @Jn L most (by simp [h]) (by simp; omega) (by rw [e]; simpa using h2)
    ·have := @Gf L most (by simp [h]) (by simp; omega) (by rw [e]; simp; omega)
     rw [e] at this
     simpa [Ai, h, h1, h2] using this
theorem Og (s : Src) (most : Int) (hl : s.1.length ≤ 140737488355328) : Runs lp 91 [P00, pI most] (sto s) (pT (Aj s most).1, sto (Aj s most).2) := by
 obtain ⟨L, bad⟩ := s
 replace hl : L.length ≤ 140737488355328 := hl
 cases bad with
 | true => simpa [Aj] using @vtext_b L most
 | false =>
  have hg := Lu L
  by_cases h1 : 4611686018427387904 < Ay L
  ·by_cases h : Az L = 0
   ·simpa [Aj, h] using @Of L most (by simp; omega)
   ·simpa [Aj, h, h1] using @Of L most (by simp; omega)
  ·have e := C4 (n := Ay L) (by omega)
   by_cases h2 : most < (Ay L : Int)
   ·simpa [Aj, h2] using @S1 L most (by simp; omega) (by rw [e]; simpa using h2)
   ·have e3 : IntKind.wrap .i64 (((List.length (bs L) : Nat) : Int) - (Az L : Int)) = (L.length : Int) - Az L := by rw [Bz, A8 (by omega) (by omega)]
    by_cases h3 : L.length < Az L + Ay L
    ·simpa [Aj, h3] using @Rj L most (by simp; omega) (by rw [e]; simp; omega) (by rw [e, e3]; simp; omega)
    ·by_cases h : Az L = 0
     ·simpa [Aj, h] using @Pl L most (by simp; omega) (by rw [e]; simp; omega) (by rw [e, e3]; simp; omega) (by simp [h])
     ·have e4 : IntKind.wrap .i64 ((Az L : Int) + (Ay L : Int)) = ((Az L + Ay L : Nat) : Int) := by rw [A8 (by omega) (by omega)]; rfl
      have := @Pm L most (by simp; omega) (by rw [e]; simp; omega) (by rw [e, e3]; simp; omega) (by simp [h]) (by omega) (by rw [e, e4]; omega) (by rw [e, e4]; omega) (by rw [e, e4]; omega)
      rw [e, e4] at this
      simp only [Int.toNat_natCast] at this
      have e5 : List.drop (Az L) (List.take (Az L + Ay L) L) = List.take (Ay L) (List.drop (Az L) L) := by rw [List.drop_take]; congr 1; omega
      rw [e5] at this
      simpa [Aj, h, h1, h2, h3] using this
theorem Oh (s : Src) (most : Int) (hl : s.1.length ≤ 140737488355328) : Runs lp 73 [P00, pI most] (sto s) (pT (Aj s most).1, sto (Aj s most).2) := by
 obtain ⟨L, bad⟩ := s
 replace hl : L.length ≤ 140737488355328 := hl
 cases bad with
 | true => simpa [Aj] using @rtext_b L most
 | false =>
  have hg := Lu L
  by_cases h : Az L = 0
  ·simpa [Aj, h] using @Vn L most (by simp [h])
  ·by_cases h1 : 4611686018427387904 < Ay L
   ·simpa [Aj, h, h1] using @S2 L most (by simp [h]) (by simp; omega)
   ·have e := C4 (n := Ay L) (by omega)
    by_cases h2 : most < (Ay L : Int)
    ·simpa [Aj, h, h2] using @Rk L most (by simp [h]) (by simp; omega) (by rw [e]; simpa using h2)
    ·by_cases h3 : L.length < Az L + Ay L
     ·simpa [Aj, h, h3] using @Pn L most (by simp [h]) (by simp; omega) (by rw [e]; simp; omega) (by rw [e, Bz, List.length_drop]; simp; omega)
     ·have := @Po L most (by simp [h]) (by simp; omega) (by rw [e]; simp; omega) (by rw [e, Bz, List.length_drop]; simp; omega) (by omega) (by rw [e, List.length_drop]; omega)
      rw [e] at this
      simp only [Int.toNat_natCast, List.drop_drop] at this
      simpa [Aj, h, h1, h2, h3] using this
def Lb (s : Src) : Int := if s.2 then 0 else (s.1.length : Int)
theorem vLeft (s : Src) : Runs lp 16 [P00] (sto s) (pI (Lb s), sto s) := by
 obtain ⟨L, bad⟩ := s
 have := @vleft L bad
 cases bad <;> simpa [Lb, Bz] using this
theorem rLeft (s : Src) : Runs lp 17 [P00] (sto s) (pI (Lb s), sto s) := by
 obtain ⟨L, bad⟩ := s
 have := @rleft L bad
 cases bad <;> simpa [Lb, Bz] using this
theorem Eh (s : Src) : Runs lp 15 [P00] (sto s) (pB s.2, sto s) := @Sv s.1 s.2
theorem Ei (s : Src) : Runs lp 40 [P00] (sto s) (.tup [], sto (s.1, true)) := @Eg s.1 s.2
end Go.Proofs.YtegboccilfofmaaGreat
