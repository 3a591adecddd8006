import Derived.Test.YtegboccilfofmaaGreatLsPut
set_option linter.unusedVariables false
set_option linter.unusedSimpArgs false
namespace Go.Proofs.YtegboccilfofmaaGreat
open Go Go.LS
def Da (u : Nat) : List UInt8 := if u < 128 then [] else UInt8.ofNat (u % 128 + 128) :: Da (u / 128)
termination_by u
decreasing_by omega
def Cg (u : Nat) : Nat := if u < 128 then u else Cg (u / 128)
termination_by u
decreasing_by omega
theorem Jh (u : Nat) : As u = Da u ++ [UInt8.ofNat (Cg u)] := by
 induction u using Nat.strongRecOn with
 | _ u ih =>
  rw [As, Da, Cg]
  split
  ·rfl
  ·rw [ih (u / 128) (by omega)]; rfl
theorem Ji (u : Nat) : Cg u < 128 := by
 induction u using Nat.strongRecOn with
 | _ u ih =>
  rw [Cg]
  split
  ·assumption
  ·exact ih (u / 128) (by omega)
theorem Hf {u : Nat} (h : u < 2 ^ 64) : (Da u).length ≤ 9 := by
 have := vcode_len u h
 rw [Jh] at this
 simp at this
 omega
theorem Tw (n : Nat) : IntKind.wrap .u8 (n : Int) = ((n % 256 : Nat) : Int) := by
 simp only [IntKind.wrap, IntKind.bits, IntKind.signed]
 simp
theorem wrap64 {n : Nat} (h : n < 2 ^ 64) : IntKind.wrap .u64 (n : Int) = (n : Int) := by
 simp only [IntKind.wrap, IntKind.bits, IntKind.signed]
 simp
 omega
theorem Xj (n : Nat) : (IntKind.wrap .u8 ↑(BitVec.ofInt (IntKind.bits .u8) (IntKind.wrap .u8 (n : Int)) ||| BitVec.ofInt (IntKind.bits .u8) 128).toNat).toNat = n % 128 + 128 := by
 rw [Tw n]
 have key : ∀ m, m < 256 → (IntKind.wrap .u8 ↑(BitVec.ofInt (IntKind.bits .u8) ((m : Nat) : Int) ||| BitVec.ofInt (IntKind.bits .u8) 128).toNat).toNat = m % 128 + 128 := by decide +kernel
 rw [key (n % 256) (Nat.mod_lt _ (by omega))]
 omega
theorem Tx (n : Nat) : (IntKind.wrap .u8 (IntKind.wrap .u8 (Int.tmod (n : Int) 128) + 128)).toNat = n % 128 + 128 := by
 have : Int.tmod (n : Int) 128 = ((n % 128 : Nat) : Int) := by
  rw [Int.tmod_eq_emod_of_nonneg (by omega)]; rfl
 rw [this, Tw]
 have : ((n % 128 % 256 : Nat) : Int) + 128 = ((n % 128 + 128 : Nat) : Int) := by omega
 rw [this, Tw]
 omega
theorem Ty (n : Nat) : Int.fdiv (n : Int) (2 ^ 7) = ((n / 128 : Nat) : Int) := by
 rw [show (2 : Int) ^ 7 = 128 from rfl, Int.fdiv_eq_ediv_of_nonneg _ (by omega)]; rfl
theorem Tz {n : Nat} (h : n < 2 ^ 64) : IntKind.wrap .u64 (Int.tdiv (n : Int) 128) = ((n / 128 : Nat) : Int) := by
 have : Int.tdiv (n : Int) 128 = ((n / 128 : Nat) : Int) := by
  rw [Int.tdiv_eq_ediv_of_nonneg (by omega)]; rfl
 rw [this, wrap64 (by omega)]
theorem Jj {w : Nat} (h : w < 128) : UInt8.ofNat (Int.toNat (IntKind.wrap .u8 (w : Int))) = UInt8.ofNat w := by
 rw [Tw, Nat.mod_eq_of_lt (by omega)]; rfl
theorem Xk : ∀ (u : Nat), u < 2 ^ 64 → ∀ (L : List UInt8), L.length ≤ 1000 - (Da u).length →
  LoopAt lp 0 (Ac Kc 0).1 (Ac Kc 0).2 (tl 0 20 [(0, .sl (bs L) 0 L.length), (1, .p (.int .u64 u))]) [.spare 1 L.length]
   (.exit 0, tl 0 20 [(0, .sl (bs (L ++ Da u)) 0 (L ++ Da u).length), (1, .p (.int .u64 (Cg u)))], [.spare 1 (L ++ Da u).length]) := by
 intro u
 induction u using Nat.strongRecOn with
 | _ u ih =>
  intro hu L hL
  by_cases h : u < 128
  ·have e1 : Da u = [] := by rw [Da, if_pos h]
   have e2 : Cg u = u := by rw [Cg, if_pos h]
   rw [e1, e2, List.append_nil]
   exact put_out (by simp; omega)
  ·have e1 : Da u = UInt8.ofNat (u % 128 + 128) :: Da (u / 128) := by rw [Da, if_neg h]
   have e2 : Cg u = Cg (u / 128) := by rw [Cg, if_neg h]
   rw [e1, e2]
   have := ih (u / 128) (by omega) (by omega) (L ++ [UInt8.ofNat (u % 128 + 128)]) (by rw [e1] at hL; simp at hL ⊢; have := Hf (u := u / 128) (by omega); omega)
   refine put_on (by simp; omega) ?_ ?_
   ·simp only [List.length_cons, List.length_nil]; omega
   ·rw [Xj, Ty]
    simpa using this
theorem Xl : ∀ (u : Nat), u < 2 ^ 64 → ∀ (L : List UInt8), L.length ≤ 1000 - (Da u).length →
  LoopAt lp 0 (Ac Kd 0).1 (Ac Kd 0).2 (tl 0 20 [(0, .p (.int .u64 u)), (3, .sl (bs L) 0 L.length)]) [.spare 1 L.length]
   (.exit 0, tl 0 20 [(0, .p (.int .u64 (Cg u))), (3, .sl (bs (L ++ Da u)) 0 (L ++ Da u).length)], [.spare 1 (L ++ Da u).length]) := by
 intro u
 induction u using Nat.strongRecOn with
 | _ u ih =>
  intro hu L hL
  by_cases h : u < 128
  ·have e1 : Da u = [] := by rw [Da, if_pos h]
   have e2 : Cg u = u := by rw [Cg, if_pos h]
   rw [e1, e2, List.append_nil]
   exact grp_out (by simp; omega)
  ·have e1 : Da u = UInt8.ofNat (u % 128 + 128) :: Da (u / 128) := by rw [Da, if_neg h]
   have e2 : Cg u = Cg (u / 128) := by rw [Cg, if_neg h]
   rw [e1, e2]
   have := ih (u / 128) (by omega) (by omega) (L ++ [UInt8.ofNat (u % 128 + 128)]) (by rw [e1] at hL; simp at hL ⊢; have := Hf (u := u / 128) (by omega); omega)
   refine grp_on (by simp; omega) ?_ ?_
   ·simp only [List.length_cons, List.length_nil]; omega
   ·rw [Tx, Tz hu]
    simpa using this
theorem Qv {u : Nat} (hu : u < 2 ^ 64) : Runs lp 58 [.tight [], .p (.int .u64 u)] [] (.sl (bs (As u)) 0 (As u).length, [.spare 1 (As u).length]) := by
 have hl := Ji u
 rw [Jh]
 by_cases h : u < 128
 ·have e1 : Da u = [] := by rw [Da, if_pos h]
  have e2 : Cg u = u := by rw [Cg, if_pos h]
  rw [e1, e2]
  have := put_fn0 (u := u) (w := u) (Xf (by simp; omega)) (by simp)
  rwa [Jj h] at this
 ·have e1 : Da u = UInt8.ofNat (u % 128 + 128) :: Da (u / 128) := by rw [Da, if_neg h]
  have e2 : Cg u = Cg (u / 128) := by rw [Cg, if_neg h]
  rw [e1, e2]
  have h9 := Hf (u := u / 128) (by omega)
  have h1 := Xk (u / 128) (by omega) [UInt8.ofNat (u % 128 + 128)] (by simp; omega)
  have h2 := put_on0 (u := u) (by simp; omega) (by simp) (by rw [Xj, Ty]; exact h1)
  have := put_fn h2 (by simp; omega)
  rwa [Jj (Ji _)] at this
theorem Qw {u : Nat} (hu : u < 2 ^ 64) : Runs lp 66 [.p (.int .u64 u)] [] (.sl (bs (As u)) 0 (As u).length, [.spare 1 (As u).length]) := by
 have hl := Ji u
 rw [Jh]
 by_cases h : u < 128
 ·have e1 : Da u = [] := by rw [Da, if_pos h]
  have e2 : Cg u = u := by rw [Cg, if_pos h]
  rw [e1, e2]
  have := grp_fn0 (u := u) (w := u) (Xg (by simp; omega)) (by simp)
  rwa [Jj h] at this
 ·have e1 : Da u = UInt8.ofNat (u % 128 + 128) :: Da (u / 128) := by rw [Da, if_neg h]
  have e2 : Cg u = Cg (u / 128) := by rw [Cg, if_neg h]
  rw [e1, e2]
  have h9 := Hf (u := u / 128) (by omega)
  have h1 := Xl (u / 128) (by omega) [UInt8.ofNat (u % 128 + 128)] (by simp; omega)
  have h2 := grp_on0 (u := u) (by simp; omega) (by simp) (by rw [Tx, Tz hu]; exact h1)
  have := grp_fn h2 (by simp; omega)
  rwa [Jj (Ji _)] at this
end Go.Proofs.YtegboccilfofmaaGreat
