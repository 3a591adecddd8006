import Derived.Test.YthmjaeflpgcmdaaLsPut
set_option linter.unusedVariables false
set_option linter.unusedSimpArgs false
namespace Go.Proofs.Ythmjaeflpgcmdaa
open Go Go.LS
def Gj (u : Nat) : List UInt8 := if u < 128 then [] else UInt8.ofNat (u % 128 + 128) :: Gj (u / 128)
termination_by u
decreasing_by omega
def Ea (u : Nat) : Nat := if u < 128 then u else Ea (u / 128)
termination_by u
decreasing_by omega
theorem R6 (u : Nat) : Af u = Gj u ++ [UInt8.ofNat (Ea u)] := by
 induction u using Nat.strongRecOn with
 | _ u ih =>
  rw [Af, Gj, Ea]
  split
  ·rfl
  ·rw [ih (u / 128) (by omega)]; rfl
theorem R7 (u : Nat) : Ea u < 128 := by
 induction u using Nat.strongRecOn with
 | _ u ih =>
  rw [Ea]
  split
  ·assumption
  ·exact ih (u / 128) (by omega)
theorem R8 {u : Nat} (h : u < 2 ^ 64) : (Gj u).length ≤ 9 := by
 have := Fk u h
 rw [R6] at this
 simp at this
 omega
theorem wrap8 (n : Nat) : IntKind.wrap .u8 (n : Int) = ((n % 256 : Nat) : Int) := by
 simp only [IntKind.wrap, IntKind.bits, IntKind.signed]
 simp
theorem Yh (n : Nat) : (IntKind.wrap .u8 ↑(BitVec.ofInt (IntKind.bits .u8) (IntKind.wrap .u8 (n : Int)) ||| BitVec.ofInt (IntKind.bits .u8) 128).toNat).toNat = n % 128 + 128 := by
 rw [wrap8 n]
 have key : ∀ m, m < 256 → (IntKind.wrap .u8 ↑(BitVec.ofInt (IntKind.bits .u8) ((m : Nat) : Int) ||| BitVec.ofInt (IntKind.bits .u8) 128).toNat).toNat = m % 128 + 128 := by decide +kernel
 rw [key (n % 256) (Nat.mod_lt _ (by omega))]
 omega
theorem U3 (n : Nat) : Int.fdiv (n : Int) (2 ^ 7) = ((n / 128 : Nat) : Int) := by
 rw [show (2 : Int) ^ 7 = 128 from rfl, Int.fdiv_eq_ediv_of_nonneg _ (by omega)]; rfl
theorem R9 {w : Nat} (h : w < 128) : UInt8.ofNat (Int.toNat (IntKind.wrap .u8 (w : Int))) = UInt8.ofNat w := by
 rw [wrap8, Nat.mod_eq_of_lt (by omega)]; rfl
theorem Yi : ∀ (u : Nat), u < 2 ^ 64 → ∀ (L : List UInt8), L.length ≤ 1000 - (Gj u).length →
  LoopAt lp 0 (Aj Kd 0).1 (Aj Kd 0).2 (tl 0 20 [(0, .sl (bs L) 0 L.length), (1, .p (.int .u64 u))]) [.spare 1 L.length]
   (.exit 0, tl 0 20 [(0, .sl (bs (L ++ Gj u)) 0 (L ++ Gj u).length), (1, .p (.int .u64 (Ea u)))], [.spare 1 (L ++ Gj u).length]) := by
 intro u
 induction u using Nat.strongRecOn with
 | _ u ih =>
  intro hu L hL
  by_cases h : u < 128
  ·have e1 : Gj u = [] := by rw [Gj, if_pos h]
   have e2 : Ea u = u := by rw [Ea, if_pos h]
   rw [e1, e2, List.append_nil]
   exact put_out (by simp; omega)
  ·have e1 : Gj u = UInt8.ofNat (u % 128 + 128) :: Gj (u / 128) := by rw [Gj, if_neg h]
   have e2 : Ea u = Ea (u / 128) := by rw [Ea, if_neg h]
   rw [e1, e2]
   have := ih (u / 128) (by omega) (by omega) (L ++ [UInt8.ofNat (u % 128 + 128)]) (by rw [e1] at hL; simp at hL ⊢; have := R8 (u := u / 128) (by omega); omega)
   refine put_on (by simp; omega) ?_ ?_
   ·simp only [List.length_cons, List.length_nil]; omega
   ·rw [Yh, U3]
    simpa using this
theorem Sa {u : Nat} (hu : u < 2 ^ 64) : Runs lp 40 [.tight [], .p (.int .u64 u)] [] (.sl (bs (Af u)) 0 (Af u).length, [.spare 1 (Af u).length]) := by
 have hl := R7 u
 rw [R6]
 by_cases h : u < 128
 ·have e1 : Gj u = [] := by rw [Gj, if_pos h]
  have e2 : Ea u = u := by rw [Ea, if_pos h]
  rw [e1, e2]
  have := put_fn0 (u := u) (w := u) (Yf (by simp; omega)) (by simp)
  rwa [R9 h] at this
 ·have e1 : Gj u = UInt8.ofNat (u % 128 + 128) :: Gj (u / 128) := by rw [Gj, if_neg h]
  have e2 : Ea u = Ea (u / 128) := by rw [Ea, if_neg h]
  rw [e1, e2]
  have h9 := R8 (u := u / 128) (by omega)
  have h1 := Yi (u / 128) (by omega) [UInt8.ofNat (u % 128 + 128)] (by simp; omega)
  have h2 := put_on0 (u := u) (by simp; omega) (by simp) (by rw [Yh, U3]; exact h1)
  have := put_fn h2 (by simp; omega)
  rwa [R9 (R7 _)] at this
end Go.Proofs.Ythmjaeflpgcmdaa
