import Derived.Test.YtmbjojnldbeicaaLsPut
set_option linter.unusedVariables false
set_option linter.unusedSimpArgs false
namespace Go.Proofs.Ytmbjojnldbeicaa
open Go Go.LS
def De (u : Nat) : List UInt8 := if u < 128 then [] else UInt8.ofNat (u % 128 + 128) :: De (u / 128)
termination_by u
decreasing_by omega
def Cr (u : Nat) : Nat := if u < 128 then u else Cr (u / 128)
termination_by u
decreasing_by omega
theorem Mj (u : Nat) : Az u = De u ++ [UInt8.ofNat (Cr u)] := by
 induction u using Nat.strongRecOn with
 | _ u ih =>
  rw [Az, De, Cr]
  split
  ·rfl
  ·rw [ih (u / 128) (by omega)]; rfl
theorem I7 (u : Nat) : Cr u < 128 := by
 induction u using Nat.strongRecOn with
 | _ u ih =>
  rw [Cr]
  split
  ·assumption
  ·exact ih (u / 128) (by omega)
theorem I8 {u : Nat} (h : u < 2 ^ 64) : (De u).length ≤ 9 := by
 have := Np u h
 rw [Mj] at this
 simp at this
 omega
theorem Tj (n : Nat) : IntKind.wrap .u8 (n : Int) = ((n % 256 : Nat) : Int) := by
 simp only [IntKind.wrap, IntKind.bits, IntKind.signed]
 simp
theorem wrap64 {n : Nat} (h : n < 2 ^ 64) : IntKind.wrap .u64 (n : Int) = (n : Int) := by
 simp only [IntKind.wrap, IntKind.bits, IntKind.signed]
 simp
 omega
theorem Wt (n : Nat) : (IntKind.wrap .u8 ↑(BitVec.ofInt (IntKind.bits .u8) (IntKind.wrap .u8 (n : Int)) ||| BitVec.ofInt (IntKind.bits .u8) 128).toNat).toNat = n % 128 + 128 := by
 rw [Tj n]
 have key : ∀ m, m < 256 → (IntKind.wrap .u8 ↑(BitVec.ofInt (IntKind.bits .u8) ((m : Nat) : Int) ||| BitVec.ofInt (IntKind.bits .u8) 128).toNat).toNat = m % 128 + 128 := by decide +kernel
 rw [key (n % 256) (Nat.mod_lt _ (by omega))]
 omega
theorem Tk (n : Nat) : (IntKind.wrap .u8 (IntKind.wrap .u8 (Int.tmod (n : Int) 128) + 128)).toNat = n % 128 + 128 := by
 have : Int.tmod (n : Int) 128 = ((n % 128 : Nat) : Int) := by
  rw [Int.tmod_eq_emod_of_nonneg (by omega)]; rfl
 rw [this, Tj]
 have : ((n % 128 % 256 : Nat) : Int) + 128 = ((n % 128 + 128 : Nat) : Int) := by omega
 rw [this, Tj]
 omega
theorem Tl (n : Nat) : Int.fdiv (n : Int) (2 ^ 7) = ((n / 128 : Nat) : Int) := by
 rw [show (2 : Int) ^ 7 = 128 from rfl, Int.fdiv_eq_ediv_of_nonneg _ (by omega)]; rfl
theorem Tm {n : Nat} (h : n < 2 ^ 64) : IntKind.wrap .u64 (Int.tdiv (n : Int) 128) = ((n / 128 : Nat) : Int) := by
 have : Int.tdiv (n : Int) 128 = ((n / 128 : Nat) : Int) := by
  rw [Int.tdiv_eq_ediv_of_nonneg (by omega)]; rfl
 rw [this, wrap64 (by omega)]
theorem I9 {w : Nat} (h : w < 128) : UInt8.ofNat (Int.toNat (IntKind.wrap .u8 (w : Int))) = UInt8.ofNat w := by
 rw [Tj, Nat.mod_eq_of_lt (by omega)]; rfl
theorem Wu : ∀ (u : Nat), u < 2 ^ 64 → ∀ (L : List UInt8), L.length ≤ 1000 - (De u).length →
  LoopAt lp 0 (Ag J3 0).1 (Ag J3 0).2 (tl 0 20 [(0, .sl (bs L) 0 L.length), (1, .p (.int .u64 u))]) [.spare 1 L.length]
   (.exit 0, tl 0 20 [(0, .sl (bs (L ++ De u)) 0 (L ++ De u).length), (1, .p (.int .u64 (Cr u)))], [.spare 1 (L ++ De u).length]) := by
 intro u
 induction u using Nat.strongRecOn with
 | _ u ih =>
  intro hu L hL
  by_cases h : u < 128
  ·have e1 : De u = [] := by rw [De, if_pos h]
   have e2 : Cr u = u := by rw [Cr, if_pos h]
   rw [e1, e2, List.append_nil]
   exact Yy (by simp; omega)
  ·have e1 : De u = UInt8.ofNat (u % 128 + 128) :: De (u / 128) := by rw [De, if_neg h]
   have e2 : Cr u = Cr (u / 128) := by rw [Cr, if_neg h]
   rw [e1, e2]
   have := ih (u / 128) (by omega) (by omega) (L ++ [UInt8.ofNat (u % 128 + 128)]) (by rw [e1] at hL; simp at hL ⊢; have := I8 (u := u / 128) (by omega); omega)
   refine put_on (by simp; omega) ?_ ?_
   ·simp only [List.length_cons, List.length_nil]; omega
   ·rw [Wt, Tl]
    simpa using this
theorem Wv : ∀ (u : Nat), u < 2 ^ 64 → ∀ (L : List UInt8), L.length ≤ 1000 - (De u).length →
  LoopAt lp 0 (Ag J4 0).1 (Ag J4 0).2 (tl 0 20 [(0, .p (.int .u64 u)), (3, .sl (bs L) 0 L.length)]) [.spare 1 L.length]
   (.exit 0, tl 0 20 [(0, .p (.int .u64 (Cr u))), (3, .sl (bs (L ++ De u)) 0 (L ++ De u).length)], [.spare 1 (L ++ De u).length]) := by
 intro u
 induction u using Nat.strongRecOn with
 | _ u ih =>
  intro hu L hL
  by_cases h : u < 128
  ·have e1 : De u = [] := by rw [De, if_pos h]
   have e2 : Cr u = u := by rw [Cr, if_pos h]
   rw [e1, e2, List.append_nil]
   exact Y1 (by simp; omega)
  ·have e1 : De u = UInt8.ofNat (u % 128 + 128) :: De (u / 128) := by rw [De, if_neg h]
   have e2 : Cr u = Cr (u / 128) := by rw [Cr, if_neg h]
   rw [e1, e2]
   have := ih (u / 128) (by omega) (by omega) (L ++ [UInt8.ofNat (u % 128 + 128)]) (by rw [e1] at hL; simp at hL ⊢; have := I8 (u := u / 128) (by omega); omega)
   refine grp_on (by simp; omega) ?_ ?_
   ·simp only [List.length_cons, List.length_nil]; omega
   ·rw [Tk, Tm hu]
    simpa using this
theorem Qb {u : Nat} (hu : u < 2 ^ 64) : Runs lp 56 [.tight [], .p (.int .u64 u)] [] (.sl (bs (Az u)) 0 (Az u).length, [.spare 1 (Az u).length]) := by
 have hl := I7 u
 rw [Mj]
 by_cases h : u < 128
 ·have e1 : De u = [] := by rw [De, if_pos h]
  have e2 : Cr u = u := by rw [Cr, if_pos h]
  rw [e1, e2]
  have := Y0 (u := u) (w := u) (Wp (by simp; omega)) (by simp)
  rwa [I9 h] at this
 ·have e1 : De u = UInt8.ofNat (u % 128 + 128) :: De (u / 128) := by rw [De, if_neg h]
  have e2 : Cr u = Cr (u / 128) := by rw [Cr, if_neg h]
  rw [e1, e2]
  have h9 := I8 (u := u / 128) (by omega)
  have h1 := Wu (u / 128) (by omega) [UInt8.ofNat (u % 128 + 128)] (by simp; omega)
  have h2 := Yz (u := u) (by simp; omega) (by simp) (by rw [Wt, Tl]; exact h1)
  have := put_fn h2 (by simp; omega)
  rwa [I9 (I7 _)] at this
theorem Qc {u : Nat} (hu : u < 2 ^ 64) : Runs lp 63 [.p (.int .u64 u)] [] (.sl (bs (Az u)) 0 (Az u).length, [.spare 1 (Az u).length]) := by
 have hl := I7 u
 rw [Mj]
 by_cases h : u < 128
 ·have e1 : De u = [] := by rw [De, if_pos h]
  have e2 : Cr u = u := by rw [Cr, if_pos h]
  rw [e1, e2]
  have := Y3 (u := u) (w := u) (Wq (by simp; omega)) (by simp)
  rwa [I9 h] at this
 ·have e1 : De u = UInt8.ofNat (u % 128 + 128) :: De (u / 128) := by rw [De, if_neg h]
  have e2 : Cr u = Cr (u / 128) := by rw [Cr, if_neg h]
  rw [e1, e2]
  have h9 := I8 (u := u / 128) (by omega)
  have h1 := Wv (u / 128) (by omega) [UInt8.ofNat (u % 128 + 128)] (by simp; omega)
  have h2 := Y2 (u := u) (by simp; omega) (by simp) (by rw [Tk, Tm hu]; exact h1)
  have := grp_fn h2 (by simp; omega)
  rwa [I9 (I7 _)] at this
end Go.Proofs.Ytmbjojnldbeicaa
