import Derived.Test.YtegboccilfofmaaGreatLsPut
set_option linter.unusedVariables false
set_option linter.unusedSimpArgs false
namespace Go.Proofs.YtegboccilfofmaaGreat
open Go Go.LS
def Dk (u : Nat) : List UInt8 := if u < 128 then [] else UInt8.ofNat (u % 128 + 128) :: Dk (u / 128)
termination_by u
decreasing_by omega
def Cu (u : Nat) : Nat := if u < 128 then u else Cu (u / 128)
termination_by u
decreasing_by omega
theorem Ju (u : Nat) : Ae u = Dk u ++ [UInt8.ofNat (Cu u)] := by
 induction u using Nat.strongRecOn with
 | _ u ih =>
  rw [Ae, Dk, Cu]
  split
  ·rfl
  ·rw [ih (u / 128) (by omega)]; rfl
theorem Jv (u : Nat) : Cu u < 128 := by
 induction u using Nat.strongRecOn with
 | _ u ih =>
  rw [Cu]
  split
  ·assumption
  ·exact ih (u / 128) (by omega)
theorem Hp {u : Nat} (h : u < 2 ^ 64) : (Dk u).length ≤ 9 := by
 have := vcode_len u h
 rw [Ju] at this
 simp at this
 omega
theorem Rd (n : Nat) : IntKind.wrap .u8 (n : Int) = ((n % 256 : Nat) : Int) := by
 simp only [IntKind.wrap, IntKind.bits, IntKind.signed]
 simp
theorem wrap64 {n : Nat} (h : n < 2 ^ 64) : IntKind.wrap .u64 (n : Int) = (n : Int) := by
 simp only [IntKind.wrap, IntKind.bits, IntKind.signed]
 simp
 omega
theorem Xg (n : Nat) : (IntKind.wrap .u8 ↑(BitVec.ofInt (IntKind.bits .u8) (IntKind.wrap .u8 (n : Int)) ||| BitVec.ofInt (IntKind.bits .u8) 128).toNat).toNat = n % 128 + 128 := by
 rw [Rd n]
 have key : ∀ m, m < 256 → (IntKind.wrap .u8 ↑(BitVec.ofInt (IntKind.bits .u8) ((m : Nat) : Int) ||| BitVec.ofInt (IntKind.bits .u8) 128).toNat).toNat = m % 128 + 128 := by decide +kernel
 rw [key (n % 256) (Nat.mod_lt _ (by omega))]
 omega
theorem Tx (n : Nat) : (IntKind.wrap .u8 (IntKind.wrap .u8 (Int.tmod (n : Int) 128) + 128)).toNat = n % 128 + 128 := by
 have : Int.tmod (n : Int) 128 = ((n % 128 : Nat) : Int) := by
  rw [Int.tmod_eq_emod_of_nonneg (by omega)]; rfl
 rw [this, Rd]
 have : ((n % 128 % 256 : Nat) : Int) + 128 = ((n % 128 + 128 : Nat) : Int) := by omega
 rw [this, Rd]
 omega
theorem Ty (n : Nat) : Int.fdiv (n : Int) (2 ^ 7) = ((n / 128 : Nat) : Int) := by
 rw [show (2 : Int) ^ 7 = 128 from rfl, Int.fdiv_eq_ediv_of_nonneg _ (by omega)]; rfl
theorem Tz {n : Nat} (h : n < 2 ^ 64) : IntKind.wrap .u64 (Int.tdiv (n : Int) 128) = ((n / 128 : Nat) : Int) := by
 have : Int.tdiv (n : Int) 128 = ((n / 128 : Nat) : Int) := by
  rw [Int.tdiv_eq_ediv_of_nonneg (by omega)]; rfl
 rw [this, wrap64 (by omega)]
theorem Jw {w : Nat} (h : w < 128) : UInt8.ofNat (Int.toNat (IntKind.wrap .u8 (w : Int))) = UInt8.ofNat w := by
 rw [Rd, Nat.mod_eq_of_lt (by omega)]; rfl
theorem Xh : ∀ (u : Nat), u < 2 ^ 64 → ∀ (L : List UInt8), L.length ≤ 1000 - (Dk u).length →
  LoopAt lp 0 (Ab Ko 0).1 (Ab Ko 0).2 (tl 0 20 [(0, .sl (bs L) 0 L.length), (1, .p (.int .u64 u))]) [.spare 1 L.length]
   (.exit 0, tl 0 20 [(0, .sl (bs (L ++ Dk u)) 0 (L ++ Dk u).length), (1, .p (.int .u64 (Cu u)))], [.spare 1 (L ++ Dk u).length]) := by
 intro u
 induction u using Nat.strongRecOn with
 | _ u ih =>
  intro hu L hL
  by_cases h : u < 128
  ·have e1 : Dk u = [] := by rw [Dk, if_pos h]
   have e2 : Cu u = u := by rw [Cu, if_pos h]
   rw [e1, e2, List.append_nil]
   exact put_out (by simp; omega)
  ·have e1 : Dk u = UInt8.ofNat (u % 128 + 128) :: Dk (u / 128) := by rw [Dk, if_neg h]
   have e2 : Cu u = Cu (u / 128) := by rw [Cu, if_neg h]
   rw [e1, e2]
   have := ih (u / 128) (by omega) (by omega) (L ++ [UInt8.ofNat (u % 128 + 128)]) (by rw [e1] at hL; simp at hL ⊢; have := Hp (u := u / 128) (by omega); omega)
   refine put_on (by simp; omega) ?_ ?_
   ·simp only [List.length_cons, List.length_nil]; omega
   ·rw [Xg, Ty]
    simpa using this
theorem Xi : ∀ (u : Nat), u < 2 ^ 64 → ∀ (L : List UInt8), L.length ≤ 1000 - (Dk u).length →
  LoopAt lp 0 (Ab Kp 0).1 (Ab Kp 0).2 (tl 0 20 [(0, .p (.int .u64 u)), (3, .sl (bs L) 0 L.length)]) [.spare 1 L.length]
   (.exit 0, tl 0 20 [(0, .p (.int .u64 (Cu u))), (3, .sl (bs (L ++ Dk u)) 0 (L ++ Dk u).length)], [.spare 1 (L ++ Dk u).length]) := by
 intro u
 induction u using Nat.strongRecOn with
 | _ u ih =>
  intro hu L hL
  by_cases h : u < 128
  ·have e1 : Dk u = [] := by rw [Dk, if_pos h]
   have e2 : Cu u = u := by rw [Cu, if_pos h]
   rw [e1, e2, List.append_nil]
   exact grp_out (by simp; omega)
  ·have e1 : Dk u = UInt8.ofNat (u % 128 + 128) :: Dk (u / 128) := by rw [Dk, if_neg h]
   have e2 : Cu u = Cu (u / 128) := by rw [Cu, if_neg h]
   rw [e1, e2]
   have := ih (u / 128) (by omega) (by omega) (L ++ [UInt8.ofNat (u % 128 + 128)]) (by rw [e1] at hL; simp at hL ⊢; have := Hp (u := u / 128) (by omega); omega)
   refine grp_on (by simp; omega) ?_ ?_
   ·simp only [List.length_cons, List.length_nil]; omega
   ·rw [Tx, Tz hu]
    simpa using this
theorem Mz {u : Nat} (hu : u < 2 ^ 64) : Runs lp 58 [.tight [], .p (.int .u64 u)] [] (.sl (bs (Ae u)) 0 (Ae u).length, [.spare 1 (Ae u).length]) := by
 have hl := Jv u
 rw [Ju]
 by_cases h : u < 128
 ·have e1 : Dk u = [] := by rw [Dk, if_pos h]
  have e2 : Cu u = u := by rw [Cu, if_pos h]
  rw [e1, e2]
  have := put_fn0 (u := u) (w := u) (Xc (by simp; omega)) (by simp)
  rwa [Jw h] at this
 ·have e1 : Dk u = UInt8.ofNat (u % 128 + 128) :: Dk (u / 128) := by rw [Dk, if_neg h]
  have e2 : Cu u = Cu (u / 128) := by rw [Cu, if_neg h]
  rw [e1, e2]
  have h9 := Hp (u := u / 128) (by omega)
  have h1 := Xh (u / 128) (by omega) [UInt8.ofNat (u % 128 + 128)] (by simp; omega)
  have h2 := put_on0 (u := u) (by simp; omega) (by simp) (by rw [Xg, Ty]; exact h1)
  have := put_fn h2 (by simp; omega)
  rwa [Jw (Jv _)] at this
theorem Re {u : Nat} (hu : u < 2 ^ 64) : Runs lp 66 [.p (.int .u64 u)] [] (.sl (bs (Ae u)) 0 (Ae u).length, [.spare 1 (Ae u).length]) := by
 have hl := Jv u
 rw [Ju]
 by_cases h : u < 128
 ·have e1 : Dk u = [] := by rw [Dk, if_pos h]
  have e2 : Cu u = u := by rw [Cu, if_pos h]
  rw [e1, e2]
  have := grp_fn0 (u := u) (w := u) (Xd (by simp; omega)) (by simp)
  rwa [Jw h] at this
 ·have e1 : Dk u = UInt8.ofNat (u % 128 + 128) :: Dk (u / 128) := by rw [Dk, if_neg h]
  have e2 : Cu u = Cu (u / 128) := by rw [Cu, if_neg h]
  rw [e1, e2]
  have h9 := Hp (u := u / 128) (by omega)
  have h1 := Xi (u / 128) (by omega) [UInt8.ofNat (u % 128 + 128)] (by simp; omega)
  have h2 := grp_on0 (u := u) (by simp; omega) (by simp) (by rw [Tx, Tz hu]; exact h1)
  have := grp_fn h2 (by simp; omega)
  rwa [Jw (Jv _)] at this
end Go.Proofs.YtegboccilfofmaaGreat
