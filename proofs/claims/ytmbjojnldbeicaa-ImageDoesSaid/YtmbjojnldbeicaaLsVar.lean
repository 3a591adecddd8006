import Derived.Test.YtmbjojnldbeicaaLsPut
set_option linter.unusedVariables false
set_option linter.unusedSimpArgs false
namespace Go.Proofs.Ytmbjojnldbeicaa
open Go Go.LS
def D7 (u : Nat) : List UInt8 := if u < 128 then [] else UInt8.ofNat (u % 128 + 128) :: D7 (u / 128)
termination_by u
decreasing_by omega
def De (u : Nat) : Nat := if u < 128 then u else De (u / 128)
termination_by u
decreasing_by omega
theorem N5 (u : Nat) : Ab u = D7 u ++ [UInt8.ofNat (De u)] := by
 induction u using Nat.strongRecOn with
 | _ u ih =>
  rw [Ab, D7, De]
  split
  ·rfl
  ·rw [ih (u / 128) (by omega)]; rfl
theorem Kh (u : Nat) : De u < 128 := by
 induction u using Nat.strongRecOn with
 | _ u ih =>
  rw [De]
  split
  ·assumption
  ·exact ih (u / 128) (by omega)
theorem Ki {u : Nat} (h : u < 2 ^ 64) : (D7 u).length ≤ 9 := by
 have := Ef u h
 rw [N5] at this
 simp at this
 omega
theorem Sa (n : Nat) : IntKind.wrap .u8 (n : Int) = ((n % 256 : Nat) : Int) := by
 simp only [IntKind.wrap, IntKind.bits, IntKind.signed]
 simp
theorem wrap64 {n : Nat} (h : n < 2 ^ 64) : IntKind.wrap .u64 (n : Int) = (n : Int) := by
 simp only [IntKind.wrap, IntKind.bits, IntKind.signed]
 simp
 omega
theorem byteOr (n : Nat) : (IntKind.wrap .u8 ↑(BitVec.ofInt (IntKind.bits .u8) (IntKind.wrap .u8 (n : Int)) ||| BitVec.ofInt (IntKind.bits .u8) 128).toNat).toNat = n % 128 + 128 := by
 rw [Sa n]
 have key : ∀ m, m < 256 → (IntKind.wrap .u8 ↑(BitVec.ofInt (IntKind.bits .u8) ((m : Nat) : Int) ||| BitVec.ofInt (IntKind.bits .u8) 128).toNat).toNat = m % 128 + 128 := by decide +kernel
 rw [key (n % 256) (Nat.mod_lt _ (by omega))]
 omega
theorem Wr (n : Nat) : (IntKind.wrap .u8 (IntKind.wrap .u8 (Int.tmod (n : Int) 128) + 128)).toNat = n % 128 + 128 := by
 have : Int.tmod (n : Int) 128 = ((n % 128 : Nat) : Int) := by
  rw [Int.tmod_eq_emod_of_nonneg (by omega)]; rfl
 rw [this, Sa]
 have : ((n % 128 % 256 : Nat) : Int) + 128 = ((n % 128 + 128 : Nat) : Int) := by omega
 rw [this, Sa]
 omega
theorem Ws (n : Nat) : Int.fdiv (n : Int) (2 ^ 7) = ((n / 128 : Nat) : Int) := by
 rw [show (2 : Int) ^ 7 = 128 from rfl, Int.fdiv_eq_ediv_of_nonneg _ (by omega)]; rfl
theorem Wt {n : Nat} (h : n < 2 ^ 64) : IntKind.wrap .u64 (Int.tdiv (n : Int) 128) = ((n / 128 : Nat) : Int) := by
 have : Int.tdiv (n : Int) 128 = ((n / 128 : Nat) : Int) := by
  rw [Int.tdiv_eq_ediv_of_nonneg (by omega)]; rfl
 rw [this, wrap64 (by omega)]
theorem Kj {w : Nat} (h : w < 128) : UInt8.ofNat (Int.toNat (IntKind.wrap .u8 (w : Int))) = UInt8.ofNat w := by
 rw [Sa, Nat.mod_eq_of_lt (by omega)]; rfl
theorem put_loop : ∀ (u : Nat), u < 2 ^ 64 → ∀ (L : List UInt8), L.length ≤ 1000 - (D7 u).length →
  LoopAt lp 0 (Ae Le 0).1 (Ae Le 0).2 (tl 0 20 [(0, .sl (bs L) 0 L.length), (1, .p (.int .u64 u))]) [.spare 1 L.length]
   (.exit 0, tl 0 20 [(0, .sl (bs (L ++ D7 u)) 0 (L ++ D7 u).length), (1, .p (.int .u64 (De u)))], [.spare 1 (L ++ D7 u).length]) := by
 intro u
 induction u using Nat.strongRecOn with
 | _ u ih =>
  intro hu L hL
  by_cases h : u < 128
  ·have e1 : D7 u = [] := by rw [D7, if_pos h]
   have e2 : De u = u := by rw [De, if_pos h]
   rw [e1, e2, List.append_nil]
   exact put_out (by simp; omega)
  ·have e1 : D7 u = UInt8.ofNat (u % 128 + 128) :: D7 (u / 128) := by rw [D7, if_neg h]
   have e2 : De u = De (u / 128) := by rw [De, if_neg h]
   rw [e1, e2]
   have := ih (u / 128) (by omega) (by omega) (L ++ [UInt8.ofNat (u % 128 + 128)]) (by rw [e1] at hL; simp at hL ⊢; have := Ki (u := u / 128) (by omega); omega)
   refine put_on (by simp; omega) ?_ ?_
   ·simp only [List.length_cons, List.length_nil]; omega
   ·rw [byteOr, Ws]
    simpa using this
theorem grp_loop : ∀ (u : Nat), u < 2 ^ 64 → ∀ (L : List UInt8), L.length ≤ 1000 - (D7 u).length →
  LoopAt lp 0 (Ae Lf 0).1 (Ae Lf 0).2 (tl 0 20 [(0, .p (.int .u64 u)), (3, .sl (bs L) 0 L.length)]) [.spare 1 L.length]
   (.exit 0, tl 0 20 [(0, .p (.int .u64 (De u))), (3, .sl (bs (L ++ D7 u)) 0 (L ++ D7 u).length)], [.spare 1 (L ++ D7 u).length]) := by
 intro u
 induction u using Nat.strongRecOn with
 | _ u ih =>
  intro hu L hL
  by_cases h : u < 128
  ·have e1 : D7 u = [] := by rw [D7, if_pos h]
   have e2 : De u = u := by rw [De, if_pos h]
   rw [e1, e2, List.append_nil]
   exact grp_out (by simp; omega)
  ·have e1 : D7 u = UInt8.ofNat (u % 128 + 128) :: D7 (u / 128) := by rw [D7, if_neg h]
   have e2 : De u = De (u / 128) := by rw [De, if_neg h]
   rw [e1, e2]
   have := ih (u / 128) (by omega) (by omega) (L ++ [UInt8.ofNat (u % 128 + 128)]) (by rw [e1] at hL; simp at hL ⊢; have := Ki (u := u / 128) (by omega); omega)
   refine grp_on (by simp; omega) ?_ ?_
   ·simp only [List.length_cons, List.length_nil]; omega
   ·rw [Wr, Wt hu]
    simpa using this
theorem N6 {u : Nat} (hu : u < 2 ^ 64) : Runs lp 56 [.tight [], .p (.int .u64 u)] [] (.sl (bs (Ab u)) 0 (Ab u).length, [.spare 1 (Ab u).length]) := by
 have hl := Kh u
 rw [N5]
 by_cases h : u < 128
 ·have e1 : D7 u = [] := by rw [D7, if_pos h]
  have e2 : De u = u := by rw [De, if_pos h]
  rw [e1, e2]
  have := put_fn0 (u := u) (w := u) (put_out0 (by simp; omega)) (by simp)
  rwa [Kj h] at this
 ·have e1 : D7 u = UInt8.ofNat (u % 128 + 128) :: D7 (u / 128) := by rw [D7, if_neg h]
  have e2 : De u = De (u / 128) := by rw [De, if_neg h]
  rw [e1, e2]
  have h9 := Ki (u := u / 128) (by omega)
  have h1 := put_loop (u / 128) (by omega) [UInt8.ofNat (u % 128 + 128)] (by simp; omega)
  have h2 := put_on0 (u := u) (by simp; omega) (by simp) (by rw [byteOr, Ws]; exact h1)
  have := put_fn h2 (by simp; omega)
  rwa [Kj (Kh _)] at this
theorem Sb {u : Nat} (hu : u < 2 ^ 64) : Runs lp 63 [.p (.int .u64 u)] [] (.sl (bs (Ab u)) 0 (Ab u).length, [.spare 1 (Ab u).length]) := by
 have hl := Kh u
 rw [N5]
 by_cases h : u < 128
 ·have e1 : D7 u = [] := by rw [D7, if_pos h]
  have e2 : De u = u := by rw [De, if_pos h]
  rw [e1, e2]
  have := grp_fn0 (u := u) (w := u) (grp_out0 (by simp; omega)) (by simp)
  rwa [Kj h] at this
 ·have e1 : D7 u = UInt8.ofNat (u % 128 + 128) :: D7 (u / 128) := by rw [D7, if_neg h]
  have e2 : De u = De (u / 128) := by rw [De, if_neg h]
  rw [e1, e2]
  have h9 := Ki (u := u / 128) (by omega)
  have h1 := grp_loop (u / 128) (by omega) [UInt8.ofNat (u % 128 + 128)] (by simp; omega)
  have h2 := grp_on0 (u := u) (by simp; omega) (by simp) (by rw [Wr, Wt hu]; exact h1)
  have := grp_fn h2 (by simp; omega)
  rwa [Kj (Kh _)] at this
end Go.Proofs.Ytmbjojnldbeicaa
