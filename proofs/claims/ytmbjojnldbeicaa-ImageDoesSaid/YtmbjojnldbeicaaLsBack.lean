import Derived.Test.YtmbjojnldbeicaaLsRd4
set_option linter.unusedVariables false
set_option linter.unusedSimpArgs false
namespace Go.Proofs.Ytmbjojnldbeicaa
open Go Go.LS
theorem Of (L : List UInt8) (u : Nat) (hu : u < 2 ^ 64) (rest : List UInt8) : ∀ (k i w acc : Nat), k + i = 10 → acc < 2 ^ (7 * i) → acc + w * 2 ^ (7 * i) = u → (0 < i → 0 < w) → L.drop i = Ab w ++ rest →
  Hj L k i acc = (u, i + (Ab w).length) := by
 intro k
 induction k with
 | zero =>
  intro i w acc hk ha hs hw hd
  have : i = 10 := by omega
  subst this
  have h1 := hw (by omega)
  have h2 : 1 * 2 ^ 70 ≤ w * 2 ^ (7 * 10) := Nat.mul_le_mul_right _ h1
  have h3 : (2 : Nat) ^ 64 < 1 * 2 ^ 70 := by decide +kernel
  omega
 | succ k ih =>
  intro i w acc hk ha hs hw hd
  have hlt : i < L.length := by
   have := congrArg List.length hd
   have hp := Gm w
   simp at this
   omega
  have hg : ∀ c r, Ab w = c :: r → L.getD i 0 = c := by
   intro c r hc
   have e : (L.drop i)[0]? = some c := by rw [hd, hc]; rfl
   rw [List.getElem?_drop] at e
   simp at e
   simp [List.getD, e]
  by_cases h : w < 128
  ·have hv := vcode_lo h
   have hc := hg _ _ hv
   have hn : (UInt8.ofNat w).toNat = w := by simp; omega
   simp only [Hj, if_pos hlt, hc, hn]
   have h9 : i = 9 → w ≤ 1 := by
    intro h9
    subst h9
    have e : 2 ^ (7 * 9) = 9223372036854775808 := by decide +kernel
    rw [e] at hs
    omega
   rw [if_neg (by omega), if_pos h, hs, hv]
   simp
  ·have hv := vcode_hi h
   have hc := hg _ _ hv
   have hn : (UInt8.ofNat (w % 128 + 128)).toNat = w % 128 + 128 := by simp; omega
   have h9 : i ≠ 9 := by
    intro h9
    subst h9
    have e : 2 ^ (7 * 9) = 9223372036854775808 := by decide +kernel
    rw [e] at hs
    omega
   simp only [Hj, if_pos hlt, hc, hn]
   rw [if_neg (by omega), if_neg (by omega), show (w % 128 + 128) % 128 = w % 128 by omega]
   have hpow : 2 ^ (7 * (i + 1)) = 128 * 2 ^ (7 * i) := by rw [show 7 * (i + 1) = 7 * i + 7 by omega, Nat.pow_add]; omega
   have hsum : acc + w % 128 * 2 ^ (7 * i) + w / 128 * 2 ^ (7 * (i + 1)) = u := by
    rw [hpow, ← hs]
    have e : w = w % 128 + w / 128 * 128 := by omega
    conv => rhs; rw [e]
    rw [Nat.add_mul, Nat.mul_assoc, Nat.add_assoc]
   have := ih (i + 1) (w / 128) (acc + w % 128 * 2 ^ (7 * i)) (by omega) (Ir ha) hsum (by omega) (by
    have e : L.drop (i + 1) = (L.drop i).drop 1 := by rw [List.drop_drop]
    rw [e, hd, hv]; rfl)
   rw [this, hv]
   simp
   omega
theorem Jk {u : Nat} (hu : u < 2 ^ 64) (rest : List UInt8) : By (Ab u ++ rest) = u := by
 have := Of (Ab u ++ rest) u hu rest 10 0 u 0 rfl (by simp) (by simp) (by simp) rfl
 simp [By, this]
theorem Jl {u : Nat} (hu : u < 2 ^ 64) (rest : List UInt8) : Bw (Ab u ++ rest) = (Ab u).length := by
 have := Of (Ab u ++ rest) u hu rest 10 0 u 0 rfl (by simp) (by simp) (by simp) rfl
 simp [Bw, this]
theorem unzz_zz (x : Int) : Ym (zz x) = x := by
 unfold Ym zz
 split <;> split <;> omega
theorem Yo {x : Int} (h0 : -9223372036854775808 ≤ x) (h1 : x ≤ 9223372036854775807) (rest : List UInt8) : Gt (Ab (zz x) ++ rest, false) = (x, rest, false) := by
 have hl := Wv h0 h1
 have hp := Gm (zz x)
 have : (Ab (zz x)).length ≠ 0 := by omega
 simp [Gt, Jl hl, Jk hl, unzz_zz]
 intro h
 rw [h] at hp
 simp at hp
theorem E3 {n : Nat} {most : Int} (h : n ≤ 4611686018427387904) (hm : (n : Int) ≤ most) (rest : List UInt8) : Ac (Ab n ++ rest, false) most = ((n : Int), rest, false) := by
 have hl : n < 2 ^ 64 := by omega
 have hp := Gm n
 have h1 : ¬ (4611686018427387904 < n) := by omega
 have h2 : ¬ (most < (n : Int)) := by omega
 simp [Ac, Jl hl, Jk hl, h1, h2]
 intro h
 rw [h] at hp
 simp at hp
theorem Jm {s : List UInt8} {most : Int} (h : s.length ≤ 4611686018427387904) (hm : (s.length : Int) ≤ most) (rest : List UInt8) : Ba (Ab s.length ++ s ++ rest, false) most = (s, rest, false) := by
 have hl : s.length < 2 ^ 64 := by omega
 have hp := Gm s.length
 have h1 : ¬ (4611686018427387904 < s.length) := by omega
 have h2 : ¬ (most < (s.length : Int)) := by omega
 have h3 : Ab s.length ≠ [] := by intro h; rw [h] at hp; simp at hp
 rw [List.append_assoc]
 simp only [Ba, Jl hl, Jk hl]
 rw [if_neg (by simp [h1, h2]; exact h3)]
 simp [← List.drop_drop]
end Go.Proofs.Ytmbjojnldbeicaa
