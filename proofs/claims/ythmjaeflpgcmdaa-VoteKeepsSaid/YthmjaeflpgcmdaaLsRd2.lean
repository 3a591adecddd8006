import Derived.Test.YthmjaeflpgcmdaaLsAb
import Derived.Test.YthmjaeflpgcmdaaLsRd
set_option linter.unusedVariables false
set_option linter.unusedSimpArgs false
namespace Go.Proofs.Ythmjaeflpgcmdaa
open Go Go.LS
def D7 (L : BY) : Nat → Nat → Nat → Nat × Nat
 | 0, _, _ => (0, 0)
 | k + 1, i, u => if i < L.length then
   if (i = 9 ∧ 1 < (L.getD i 0).toNat) ∨ (0 < i ∧ (L.getD i 0).toNat = 0) then (0, 0)
   else if (L.getD i 0).toNat < 128 then (u + (L.getD i 0).toNat * 2 ^ (7 * i), i + 1)
   else D7 L k (i + 1) (u + ((L.getD i 0).toNat % 128) * 2 ^ (7 * i))
  else (0, 0)
theorem or_add {a b k : Nat} (h : a < 2 ^ k) : a ||| (b * 2 ^ k) = a + b * 2 ^ k := by
 have := Nat.shiftLeft_add_eq_or_of_lt h b
 rw [Nat.shiftLeft_eq] at this
 rw [Nat.or_comm, ← this, Nat.add_comm]
theorem or64 {a b : Nat} (ha : a < 2 ^ 64) (hb : b < 2 ^ 64) : (BitVec.ofInt (IntKind.bits .u64) (a : Int) ||| BitVec.ofInt (IntKind.bits .u64) (b : Int)).toNat = a ||| b := by
 show (BitVec.ofInt 64 (a : Int) ||| BitVec.ofInt 64 (b : Int)).toNat = a ||| b
 rw [BitVec.toNat_or, BitVec.toNat_ofInt, BitVec.toNat_ofInt]
 congr 1 <;> omega
theorem and127 (c : UInt8) : (IntKind.wrap .u8 ↑(BitVec.ofInt (IntKind.bits .u8) (c.toNat : Int) &&& BitVec.ofInt (IntKind.bits .u8) 127).toNat) = ((c.toNat % 128 : Nat) : Int) := by
 have key : ∀ m, m < 256 → (IntKind.wrap .u8 ↑(BitVec.ofInt (IntKind.bits .u8) ((m : Nat) : Int) &&& BitVec.ofInt (IntKind.bits .u8) 127).toNat) = ((m % 128 : Nat) : Int) := by decide +kernel
 exact key c.toNat c.toNat_lt
theorem Yo (c : UInt8) : IntKind.wrap .u64 (IntKind.wrap .u8 ↑(BitVec.ofInt (IntKind.bits .u8) (c.toNat : Int) &&& BitVec.ofInt (IntKind.bits .u8) 127).toNat) = ((c.toNat % 128 : Nat) : Int) := by
 rw [and127, Dl (by omega)]
theorem Yp {x i : Nat} (hi : 7 * i < 64) (hx : x * 2 ^ (7 * i) < 2 ^ 64) :
  IntKind.wrap .u64 ((x : Int) * 2 ^ min (Int.toNat (IntKind.wrap .i64 (7 * (i : Int)))) (IntKind.bits .u64)) = ((x * 2 ^ (7 * i) : Nat) : Int) := by
 rw [Aw (by omega) (by omega)]
 have hm : min (7 * (i : Int)).toNat 64 = 7 * i := by omega
 show IntKind.wrap .u64 ((x : Int) * 2 ^ min (7 * (i : Int)).toNat 64) = _
 rw [hm]
 have : (x : Int) * 2 ^ (7 * i) = ((x * 2 ^ (7 * i) : Nat) : Int) := by push_cast; rfl
 rw [this, Dl hx]
theorem Nk {u x i : Nat} (hu : u < 2 ^ (7 * i)) (h : u + x * 2 ^ (7 * i) < 2 ^ 64) :
  IntKind.wrap .u64 ↑(BitVec.ofInt (IntKind.bits .u64) (u : Int) ||| BitVec.ofInt (IntKind.bits .u64) ((x * 2 ^ (7 * i) : Nat) : Int)).toNat = ((u + x * 2 ^ (7 * i) : Nat) : Int) := by
 rw [or64 (by omega) (by omega), or_add hu, Dl h]
abbrev stL (L : BY) (bad : Bool) : List LObj := (aR1 L bad)
abbrev vt (u m i : Int) : List LV := tl 0 47 [(0, P00), (4, .p (.int .u64 u)), (9, pI m), (10, pI i)]
abbrev vr (a b : Int) : List LV := tl 0 47 [(2, .p (.int .u64 a)), (3, pI b)]
theorem Hu {u c i : Nat} (hu : u < 2 ^ (7 * i)) : u + (c % 128) * 2 ^ (7 * i) < 2 ^ (7 * (i + 1)) := by
 have e : 2 ^ (7 * (i + 1)) = 128 * 2 ^ (7 * i) := by rw [show 7 * (i + 1) = 7 * i + 7 by omega, Nat.pow_add]; omega
 rw [e]
 have : (c % 128) * 2 ^ (7 * i) ≤ 127 * 2 ^ (7 * i) := Nat.mul_le_mul_right _ (by omega)
 omega
theorem Nl {u c i : Nat} (hi : i ≤ 9) (h9 : i = 9 → c ≤ 1) (hu : u < 2 ^ (7 * i)) : u + (c % 128) * 2 ^ (7 * i) < 2 ^ 64 := by
 by_cases h : i = 9
 ·subst h
  have h1 : c % 128 ≤ 1 := by have := h9 rfl; omega
  have h2 : (c % 128) * 2 ^ (7 * 9) ≤ 1 * 2 ^ (7 * 9) := Nat.mul_le_mul_right _ h1
  have e2 : 2 ^ (7 * 9) = 9223372036854775808 := by decide +kernel
  rw [e2] at hu h2 ⊢
  omega
 ·have := Hu (c := c) hu
  have : 2 ^ (7 * (i + 1)) ≤ 2 ^ 63 := Nat.pow_le_pow_right (by omega) (by omega)
  omega
theorem V3 (L : BY) (bad : Bool) : ∀ (k i u : Nat), k + i = 10 → u < 2 ^ (7 * i) →
  (LoopAt lp 1 (Aj D6 0).1 (Aj D6 0).2 (vt u (min L.length 10 : Nat) i) (stL L bad) (.ret, vr (D7 L k i u).1 (D7 L k i u).2, stL L bad)) ∨
  (D7 L k i u = (0, 0) ∧ LoopAt lp 1 (Aj D6 0).1 (Aj D6 0).2 (vt u (min L.length 10 : Nat) i) (stL L bad) (.exit 0, tl 0 47 [], stL L bad)) := by
 intro k
 induction k with
 | zero =>
  intro i u hk hu
  exact .inr ⟨rfl, Qi (by simp; omega)⟩
 | succ k ih =>
  intro i u hk hu
  by_cases hlt : i < L.length
  ·have hm : (decide ((i : Int) < ((min L.length 10 : Nat) : Int))) = true := by simp; omega
   simp only [D7, if_pos hlt]
   generalize hc : (L.getD i 0) = c
   by_cases h9 : i = 9
   ·subst h9
    by_cases h1 : 1 < c.toNat
    ·rw [if_pos (.inl ⟨rfl, h1⟩)]
     exact .inl (V2 hm hlt (by simp) (by rw [hc]; simp; omega))
    ·by_cases hz : c.toNat = 0
     ·rw [if_pos (.inr ⟨by omega, hz⟩)]
      exact .inl (Sd hm hlt (by simp) (by rw [hc]; simp; omega) (by simp) (by rw [hc]; simp [hz]))
     ·have hc1 : c.toNat = 1 := by omega
      rw [if_neg (by omega), if_pos (by omega)]
      have hs := Nl (u := u) (c := c.toNat) (i := 9) (by omega) (by omega) hu
      have h := Qh (L := L) (bad := bad) (i := 9) (u := u) (m := ((min L.length 10 : Nat) : Int)) hm hlt (by simp) (by rw [hc]; simp; omega) (by simp) (by rw [hc]; simp; omega) (by rw [Aw (by omega) (by omega)]; omega) (by rw [hc]; simp; omega)
      rw [hc, Yo, Yp (by omega) (by omega), Nk hu hs, Aw (by omega) (by omega), show c.toNat % 128 = c.toNat by omega] at h
      exact .inl h
   ·by_cases hz : 0 < i ∧ c.toNat = 0
    ·rw [if_pos (.inr hz)]
     exact .inl (T4 hm hlt (by simp; omega) (by simp; omega) (by rw [hc]; simp; omega))
    ·have hs := Nl (u := u) (c := c.toNat) (i := i) (by omega) (by omega) hu
     rw [if_neg (by omega)]
     by_cases hl : c.toNat < 128
     ·rw [if_pos hl]
      by_cases h0 : 0 < i
      ·have h := Se (L := L) (bad := bad) (i := i) (u := u) (m := ((min L.length 10 : Nat) : Int)) hm hlt (by simp; omega) (by simp; omega) (by rw [hc]; simp; omega) (by rw [Aw (by omega) (by omega)]; omega) (by rw [hc]; simp; omega)
       rw [hc, Yo, Yp (by omega) (by omega), Nk hu hs, Aw (by omega) (by omega), show c.toNat % 128 = c.toNat by omega] at h
       exact .inl h
      ·have h := T5 (L := L) (bad := bad) (i := i) (u := u) (m := ((min L.length 10 : Nat) : Int)) hm hlt (by simp; omega) (by simp; omega) (by rw [Aw (by omega) (by omega)]; omega) (by rw [hc]; simp; omega)
       rw [hc, Yo, Yp (by omega) (by omega), Nk hu hs, Aw (by omega) (by omega), show c.toNat % 128 = c.toNat by omega] at h
       exact .inl h
     ·rw [if_neg hl]
      have on : ∀ r, LoopAt lp 1 (Aj D6 0).1 (Aj D6 0).2 (vt ((u + (c.toNat % 128) * 2 ^ (7 * i) : Nat) : Int) (min L.length 10 : Nat) ((i + 1 : Nat) : Int)) (stL L bad) r →
        LoopAt lp 1 (Aj D6 0).1 (Aj D6 0).2 (vt u (min L.length 10 : Nat) i) (stL L bad) r := by
       intro r hr
       by_cases h0 : 0 < i
       ·refine Sf hm hlt (by simp; omega) (by simp; omega) (by rw [hc]; simp; omega) (by rw [Aw (by omega) (by omega)]; omega) (by rw [hc]; simp; omega) ?_
        rw [hc, Yo, Yp (by omega) (by omega), Nk hu hs, Aw (by omega) (by omega)]
        exact hr
       ·refine T6 hm hlt (by simp; omega) (by simp; omega) (by rw [Aw (by omega) (by omega)]; omega) (by rw [hc]; simp; omega) ?_
        rw [hc, Yo, Yp (by omega) (by omega), Nk hu hs, Aw (by omega) (by omega)]
        exact hr
      rcases ih (i + 1) (u + (c.toNat % 128) * 2 ^ (7 * i)) (by omega) (Hu hu) with h | ⟨h1, h2⟩
      ·exact .inl (on _ h)
      ·exact .inr ⟨h1, on _ h2⟩
  ·refine .inr ⟨?_, Qi (by simp; omega)⟩
   simp [D7, hlt]
theorem U5 (L : BY) : (if (10 : Int) < ((List.length (bs L) : Nat) : Int) then (10 : Int) else ((List.length (bs L) : Nat) : Int)) = ((min L.length 10 : Nat) : Int) := by
 rw [A6]
 split <;> omega
def grp (L : BY) (bad : Bool) : Nat × Nat := if bad then (0, 0) else D7 L 10 0 0
theorem U6 (L : BY) (bad : Bool) : Runs lp 76 [P00] (stL L bad) (.tup [.p (.int .u64 (grp L bad).1), pI (grp L bad).2], stL L bad) := by
 cases bad with
 | true => exact Sb rfl (Qi (i := 0) (by simp))
 | false =>
  rcases V3 L false 10 0 0 rfl (by simp) with h | ⟨h0, h⟩
  ·exact T3 rfl (by rw [U5]; exact h)
  ·simp only [grp, Bool.false_eq_true, if_false, h0]
   exact Sc rfl (by rw [U5]; exact h)
abbrev rt (u i : Int) : List LV := tl 0 82 [(0, P00), (3, .p (.int .u64 u)), (4, pI i)]
theorem Yq (L : BY) : ∀ k i u, (D7 L k i u).2 ≤ L.length := by
 intro k
 induction k with
 | zero => intro i u; simp [D7]
 | succ k ih =>
  intro i u
  simp only [D7]
  split
  ·split
   ·simp
   ·split
    ·simp; omega
    ·exact ih _ _
  ·simp
theorem gdec_lt (L : BY) : ∀ k i u, k + i = 10 → u < 2 ^ (7 * i) → (D7 L k i u).1 < 2 ^ 64 := by
 intro k
 induction k with
 | zero => intro i u _ _; simp [D7]
 | succ k ih =>
  intro i u hk hu
  simp only [D7]
  split
  ·split
   ·simp
   ·rename_i h1
    have hs := Nl (u := u) (c := (L.getD i 0).toNat) (i := i) (by omega) (by omega) hu
    split
    ·rename_i h2
     rw [Nat.mod_eq_of_lt h2] at hs
     exact hs
    ·exact ih _ _ (by omega) (Hu hu)
  ·simp
def B6 (L : BY) : Nat := (D7 L 10 0 0).1
def By (L : BY) : Nat := (D7 L 10 0 0).2
theorem L7 (L : BY) : By L ≤ L.length := Yq L 10 0 0
theorem gnum_lt (L : BY) : B6 L < 2 ^ 64 := gdec_lt L 10 0 0 rfl (by simp)
theorem Pb (L : BY) : Runs lp 76 [P00] (stL L true) (.tup [.p (.int .u64 0), pI 0], stL L true) := U6 L true
theorem Dt (L : BY) : Runs lp 76 [P00] (stL L false) (.tup [.p (.int .u64 (B6 L)), pI (By L)], stL L false) := U6 L false
end Go.Proofs.Ythmjaeflpgcmdaa
