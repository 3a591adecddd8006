import Derived.Test.YthmjaeflpgcmdaaLsPut
set_option linter.unusedVariables false
set_option linter.unusedSimpArgs false
namespace Go.Proofs.Ythmjaeflpgcmdaa
open Go Go.LS
def F9 (u : Nat) : List UInt8 := if u < 128 then [] else UInt8.ofNat (u % 128 + 128) :: F9 (u / 128)
termination_by u
decreasing_by omega
def D2 (u : Nat) : Nat := if u < 128 then u else D2 (u / 128)
termination_by u
decreasing_by omega
theorem Rg (u : Nat) : Av u = F9 u ++ [UInt8.ofNat (D2 u)] := by
 induction u using Nat.strongRecOn with
 | _ u ih =>
  rw [Av, F9, D2]
  split
  ·rfl
  ·rw [ih (u / 128) (by omega)]; rfl
theorem Rh (u : Nat) : D2 u < 128 := by
 induction u using Nat.strongRecOn with
 | _ u ih =>
  rw [D2]
  split
  ·assumption
  ·exact ih (u / 128) (by omega)
theorem Ri {u : Nat} (h : u < 2 ^ 64) : (F9 u).length ≤ 9 := by
 have := J1 u h
 rw [Rg] at this
 simp at this
 omega
theorem wrap8 (n : Nat) : IntKind.wrap .u8 (n : Int) = ((n % 256 : Nat) : Int) := by
 simp only [IntKind.wrap, IntKind.bits, IntKind.signed]
 simp
theorem Xr (n : Nat) : (IntKind.wrap .u8 ↑(BitVec.ofInt (IntKind.bits .u8) (IntKind.wrap .u8 (n : Int)) ||| BitVec.ofInt (IntKind.bits .u8) 128).toNat).toNat = n % 128 + 128 := by
 rw [wrap8 n]
 have key : ∀ m, m < 256 → (IntKind.wrap .u8 ↑(BitVec.ofInt (IntKind.bits .u8) ((m : Nat) : Int) ||| BitVec.ofInt (IntKind.bits .u8) 128).toNat).toNat = m % 128 + 128 := by decide +kernel
 rw [key (n % 256) (Nat.mod_lt _ (by omega))]
 omega
theorem Ug (n : Nat) : Int.fdiv (n : Int) (2 ^ 7) = ((n / 128 : Nat) : Int) := by
 rw [show (2 : Int) ^ 7 = 128 from rfl, Int.fdiv_eq_ediv_of_nonneg _ (by omega)]; rfl
theorem Rj {w : Nat} (h : w < 128) : UInt8.ofNat (Int.toNat (IntKind.wrap .u8 (w : Int))) = UInt8.ofNat w := by
 rw [wrap8, Nat.mod_eq_of_lt (by omega)]; rfl
theorem Xs : ∀ (u : Nat), u < 2 ^ 64 → ∀ (L : List UInt8), L.length ≤ 1000 - (F9 u).length →
  LoopAt lp 0 (Am Jw 0).1 (Am Jw 0).2 (tl 0 20 [(0, .sl (bs L) 0 L.length), (1, .p (.int .u64 u))]) [.spare 1 L.length]
   (.exit 0, tl 0 20 [(0, .sl (bs (L ++ F9 u)) 0 (L ++ F9 u).length), (1, .p (.int .u64 (D2 u)))], [.spare 1 (L ++ F9 u).length]) := by
 intro u
 induction u using Nat.strongRecOn with
 | _ u ih =>
  intro hu L hL
  by_cases h : u < 128
  ·have e1 : F9 u = [] := by rw [F9, if_pos h]
   have e2 : D2 u = u := by rw [D2, if_pos h]
   rw [e1, e2, List.append_nil]
   exact Zm (by simp; omega)
  ·have e1 : F9 u = UInt8.ofNat (u % 128 + 128) :: F9 (u / 128) := by rw [F9, if_neg h]
   have e2 : D2 u = D2 (u / 128) := by rw [D2, if_neg h]
   rw [e1, e2]
   have := ih (u / 128) (by omega) (by omega) (L ++ [UInt8.ofNat (u % 128 + 128)]) (by rw [e1] at hL; simp at hL ⊢; have := Ri (u := u / 128) (by omega); omega)
   refine put_on (by simp; omega) ?_ ?_
   ·simp only [List.length_cons, List.length_nil]; omega
   ·rw [Xr, Ug]
    simpa using this
theorem Xt {u : Nat} (hu : u < 2 ^ 64) : Runs lp 40 [.tight [], .p (.int .u64 u)] [] (.sl (bs (Av u)) 0 (Av u).length, [.spare 1 (Av u).length]) := by
 have hl := Rh u
 rw [Rg]
 by_cases h : u < 128
 ·have e1 : F9 u = [] := by rw [F9, if_pos h]
  have e2 : D2 u = u := by rw [D2, if_pos h]
  rw [e1, e2]
  have := Zo (u := u) (w := u) (Xp (by simp; omega)) (by simp)
  rwa [Rj h] at this
 ·have e1 : F9 u = UInt8.ofNat (u % 128 + 128) :: F9 (u / 128) := by rw [F9, if_neg h]
  have e2 : D2 u = D2 (u / 128) := by rw [D2, if_neg h]
  rw [e1, e2]
  have h9 := Ri (u := u / 128) (by omega)
  have h1 := Xs (u / 128) (by omega) [UInt8.ofNat (u % 128 + 128)] (by simp; omega)
  have h2 := Zn (u := u) (by simp; omega) (by simp) (by rw [Xr, Ug]; exact h1)
  have := put_fn h2 (by simp; omega)
  rwa [Rj (Rh _)] at this
end Go.Proofs.Ythmjaeflpgcmdaa
