import Derived.Test.YtmbjojnldbeicaaLsAb
import Derived.Test.YtmbjojnldbeicaaLsRd
set_option linter.unusedVariables false
set_option linter.unusedSimpArgs false
namespace Go.Proofs.Ytmbjojnldbeicaa
open Go Go.LS
def Hj (L : BY) : Nat → Nat → Nat → Nat × Nat
 | 0, _, _ => (0, 0)
 | k + 1, i, u => if i < L.length then
   if (i = 9 ∧ 1 < (L.getD i 0).toNat) ∨ (0 < i ∧ (L.getD i 0).toNat = 0) then (0, 0)
   else if (L.getD i 0).toNat < 128 then (u + (L.getD i 0).toNat * 2 ^ (7 * i), i + 1)
   else Hj L k (i + 1) (u + ((L.getD i 0).toNat % 128) * 2 ^ (7 * i))
  else (0, 0)
theorem or_add {a b k : Nat} (h : a < 2 ^ k) : a ||| (b * 2 ^ k) = a + b * 2 ^ k := by
 have := Nat.shiftLeft_add_eq_or_of_lt h b
 rw [Nat.shiftLeft_eq] at this
 rw [Nat.or_comm, ← this, Nat.add_comm]
theorem or64 {a b : Nat} (ha : a < 2 ^ 64) (hb : b < 2 ^ 64) : (BitVec.ofInt (IntKind.bits .u64) (a : Int) ||| BitVec.ofInt (IntKind.bits .u64) (b : Int)).toNat = a ||| b := by
 show (BitVec.ofInt 64 (a : Int) ||| BitVec.ofInt 64 (b : Int)).toNat = a ||| b
 rw [BitVec.toNat_or, BitVec.toNat_ofInt, BitVec.toNat_ofInt]
 congr 1 <;> omega
theorem and127 (c : UInt8) : (IntKind.wrap .u8 ↑(BitVec.ofInt (IntKind.bits .u8) (c.toNat : Int) &&& BitVec.ofInt (IntKind.bits .u8) 127).toNat) = ((c.toNat % 128 : Nat) : Int) := by
 have key : ∀ m, m < 256 → (IntKind.wrap .u8 ↑(BitVec.ofInt (IntKind.bits .u8) ((m : Nat) : Int) &&& BitVec.ofInt (IntKind.bits .u8) 127).toNat) = ((m % 128 : Nat) : Int) := by decide +kernel
 exact key c.toNat c.toNat_lt
theorem low7 (c : UInt8) : IntKind.wrap .u64 (IntKind.wrap .u8 ↑(BitVec.ofInt (IntKind.bits .u8) (c.toNat : Int) &&& BitVec.ofInt (IntKind.bits .u8) 127).toNat) = ((c.toNat % 128 : Nat) : Int) := by
 rw [and127, Dl (by omega)]
theorem shlw {x i : Nat} (hi : 7 * i < 64) (hx : x * 2 ^ (7 * i) < 2 ^ 64) :
  IntKind.wrap .u64 ((x : Int) * 2 ^ min (Int.toNat (IntKind.wrap .i64 (7 * (i : Int)))) (IntKind.bits .u64)) = ((x * 2 ^ (7 * i) : Nat) : Int) := by
 rw [A9 (by omega) (by omega)]
 have hm : min (7 * (i : Int)).toNat 64 = 7 * i := by omega
 show IntKind.wrap .u64 ((x : Int) * 2 ^ min (7 * (i : Int)).toNat 64) = _
 rw [hm]
 have : (x : Int) * 2 ^ (7 * i) = ((x * 2 ^ (7 * i) : Nat) : Int) := by push_cast; rfl
 rw [this, Dl hx]
theorem Od {u x i : Nat} (hu : u < 2 ^ (7 * i)) (h : u + x * 2 ^ (7 * i) < 2 ^ 64) :
  IntKind.wrap .u64 ↑(BitVec.ofInt (IntKind.bits .u64) (u : Int) ||| BitVec.ofInt (IntKind.bits .u64) ((x * 2 ^ (7 * i) : Nat) : Int)).toNat = ((u + x * 2 ^ (7 * i) : Nat) : Int) := by
 rw [or64 (by omega) (by omega), or_add hu, Dl h]
abbrev stL (L : BY) (bad : Bool) : List LObj := (aR6 L bad)
abbrev vt (u m i : Int) : List LV := tl 0 47 [(0, P00), (4, .p (.int .u64 u)), (9, pI m), (10, pI i)]
abbrev vr (a b : Int) : List LV := tl 0 47 [(2, .p (.int .u64 a)), (3, pI b)]
theorem Ir {u c i : Nat} (hu : u < 2 ^ (7 * i)) : u + (c % 128) * 2 ^ (7 * i) < 2 ^ (7 * (i + 1)) := by
 have e : 2 ^ (7 * (i + 1)) = 128 * 2 ^ (7 * i) := by rw [show 7 * (i + 1) = 7 * i + 7 by omega, Nat.pow_add]; omega
 rw [e]
 have : (c % 128) * 2 ^ (7 * i) ≤ 127 * 2 ^ (7 * i) := Nat.mul_le_mul_right _ (by omega)
 omega
theorem Oe {u c i : Nat} (hi : i ≤ 9) (h9 : i = 9 → c ≤ 1) (hu : u < 2 ^ (7 * i)) : u + (c % 128) * 2 ^ (7 * i) < 2 ^ 64 := by
 by_cases h : i = 9
 ·subst h
  have h1 : c % 128 ≤ 1 := by have := h9 rfl; omega
  have h2 : (c % 128) * 2 ^ (7 * 9) ≤ 1 * 2 ^ (7 * 9) := Nat.mul_le_mul_right _ h1
  have e2 : 2 ^ (7 * 9) = 9223372036854775808 := by decide +kernel
  rw [e2] at hu h2 ⊢
  omega
 ·have := Ir (c := c) hu
  have : 2 ^ (7 * (i + 1)) ≤ 2 ^ 63 := Nat.pow_le_pow_right (by omega) (by omega)
  omega
theorem Yh (L : BY) (bad : Bool) : ∀ (k i u : Nat), k + i = 10 → u < 2 ^ (7 * i) →
  (LoopAt lp 1 (Ae E7 0).1 (Ae E7 0).2 (vt u (min L.length 10 : Nat) i) (stL L bad) (.ret, vr (Hj L k i u).1 (Hj L k i u).2, stL L bad)) ∨
  (Hj L k i u = (0, 0) ∧ LoopAt lp 1 (Ae E7 0).1 (Ae E7 0).2 (vt u (min L.length 10 : Nat) i) (stL L bad) (.exit 0, tl 0 47 [], stL L bad)) := by
 intro k
 induction k with
 | zero =>
  intro i u hk hu
  exact .inr ⟨rfl, Qm (by simp; omega)⟩
 | succ k ih =>
  intro i u hk hu
  by_cases hlt : i < L.length
  ·have hm : (decide ((i : Int) < ((min L.length 10 : Nat) : Int))) = true := by simp; omega
   simp only [Hj, if_pos hlt]
   generalize hc : (L.getD i 0) = c
   by_cases h9 : i = 9
   ·subst h9
    by_cases h1 : 1 < c.toNat
    ·rw [if_pos (.inl ⟨rfl, h1⟩)]
     exact .inl (Yg hm hlt (by simp) (by rw [hc]; simp; omega))
    ·by_cases hz : c.toNat = 0
     ·rw [if_pos (.inr ⟨by omega, hz⟩)]
      exact .inl (Sn hm hlt (by simp) (by rw [hc]; simp; omega) (by simp) (by rw [hc]; simp [hz]))
     ·have hc1 : c.toNat = 1 := by omega
      rw [if_neg (by omega), if_pos (by omega)]
      have hs := Oe (u := u) (c := c.toNat) (i := 9) (by omega) (by omega) hu
      have h := Ql (L := L) (bad := bad) (i := 9) (u := u) (m := ((min L.length 10 : Nat) : Int)) hm hlt (by simp) (by rw [hc]; simp; omega) (by simp) (by rw [hc]; simp; omega) (by rw [A9 (by omega) (by omega)]; omega) (by rw [hc]; simp; omega)
      rw [hc, low7, shlw (by omega) (by omega), Od hu hs, A9 (by omega) (by omega), show c.toNat % 128 = c.toNat by omega] at h
      exact .inl h
   ·by_cases hz : 0 < i ∧ c.toNat = 0
    ·rw [if_pos (.inr hz)]
     exact .inl (Uz hm hlt (by simp; omega) (by simp; omega) (by rw [hc]; simp; omega))
    ·have hs := Oe (u := u) (c := c.toNat) (i := i) (by omega) (by omega) hu
     rw [if_neg (by omega)]
     by_cases hl : c.toNat < 128
     ·rw [if_pos hl]
      by_cases h0 : 0 < i
      ·have h := So (L := L) (bad := bad) (i := i) (u := u) (m := ((min L.length 10 : Nat) : Int)) hm hlt (by simp; omega) (by simp; omega) (by rw [hc]; simp; omega) (by rw [A9 (by omega) (by omega)]; omega) (by rw [hc]; simp; omega)
       rw [hc, low7, shlw (by omega) (by omega), Od hu hs, A9 (by omega) (by omega), show c.toNat % 128 = c.toNat by omega] at h
       exact .inl h
      ·have h := U0 (L := L) (bad := bad) (i := i) (u := u) (m := ((min L.length 10 : Nat) : Int)) hm hlt (by simp; omega) (by simp; omega) (by rw [A9 (by omega) (by omega)]; omega) (by rw [hc]; simp; omega)
       rw [hc, low7, shlw (by omega) (by omega), Od hu hs, A9 (by omega) (by omega), show c.toNat % 128 = c.toNat by omega] at h
       exact .inl h
     ·rw [if_neg hl]
      have on : ∀ r, LoopAt lp 1 (Ae E7 0).1 (Ae E7 0).2 (vt ((u + (c.toNat % 128) * 2 ^ (7 * i) : Nat) : Int) (min L.length 10 : Nat) ((i + 1 : Nat) : Int)) (stL L bad) r →
        LoopAt lp 1 (Ae E7 0).1 (Ae E7 0).2 (vt u (min L.length 10 : Nat) i) (stL L bad) r := by
       intro r hr
       by_cases h0 : 0 < i
       ·refine Sq hm hlt (by simp; omega) (by simp; omega) (by rw [hc]; simp; omega) (by rw [A9 (by omega) (by omega)]; omega) (by rw [hc]; simp; omega) ?_
        rw [hc, low7, shlw (by omega) (by omega), Od hu hs, A9 (by omega) (by omega)]
        exact hr
       ·refine U1 hm hlt (by simp; omega) (by simp; omega) (by rw [A9 (by omega) (by omega)]; omega) (by rw [hc]; simp; omega) ?_
        rw [hc, low7, shlw (by omega) (by omega), Od hu hs, A9 (by omega) (by omega)]
        exact hr
      rcases ih (i + 1) (u + (c.toNat % 128) * 2 ^ (7 * i)) (by omega) (Ir hu) with h | ⟨h1, h2⟩
      ·exact .inl (on _ h)
      ·exact .inr ⟨h1, on _ h2⟩
  ·refine .inr ⟨?_, Qm (by simp; omega)⟩
   simp [Hj, hlt]
theorem W2 (L : BY) : (if (10 : Int) < ((List.length (bs L) : Nat) : Int) then (10 : Int) else ((List.length (bs L) : Nat) : Int)) = ((min L.length 10 : Nat) : Int) := by
 rw [Ds]
 split <;> omega
def grp (L : BY) (bad : Bool) : Nat × Nat := if bad then (0, 0) else Hj L 10 0 0
theorem W3 (L : BY) (bad : Bool) : Runs lp 59 [P00] (stL L bad) (.tup [.p (.int .u64 (grp L bad).1), pI (grp L bad).2], stL L bad) := by
 cases bad with
 | true => exact Sl rfl (Qm (i := 0) (by simp))
 | false =>
  rcases Yh L false 10 0 0 rfl (by simp) with h | ⟨h0, h⟩
  ·exact Uy rfl (by rw [W2]; exact h)
  ·simp only [grp, Bool.false_eq_true, if_false, h0]
   exact Sm rfl (by rw [W2]; exact h)
abbrev rt (u i : Int) : List LV := tl 0 82 [(0, P00), (3, .p (.int .u64 u)), (4, pI i)]
theorem gdec_len (L : BY) : ∀ k i u, (Hj L k i u).2 ≤ L.length := by
 intro k
 induction k with
 | zero => intro i u; simp [Hj]
 | succ k ih =>
  intro i u
  simp only [Hj]
  split
  ·split
   ·simp
   ·split
    ·simp; omega
    ·exact ih _ _
  ·simp
theorem gdec_lt (L : BY) : ∀ k i u, k + i = 10 → u < 2 ^ (7 * i) → (Hj L k i u).1 < 2 ^ 64 := by
 intro k
 induction k with
 | zero => intro i u _ _; simp [Hj]
 | succ k ih =>
  intro i u hk hu
  simp only [Hj]
  split
  ·split
   ·simp
   ·rename_i h1
    have hs := Oe (u := u) (c := (L.getD i 0).toNat) (i := i) (by omega) (by omega) hu
    split
    ·rename_i h2
     rw [Nat.mod_eq_of_lt h2] at hs
     exact hs
    ·exact ih _ _ (by omega) (Ir hu)
  ·simp
def By (L : BY) : Nat := (Hj L 10 0 0).1
def Bw (L : BY) : Nat := (Hj L 10 0 0).2
theorem Qn (L : BY) : Bw L ≤ L.length := gdec_len L 10 0 0
theorem W4 (L : BY) : By L < 2 ^ 64 := gdec_lt L 10 0 0 rfl (by simp)
theorem Is (L : BY) : Runs lp 59 [P00] (stL L true) (.tup [.p (.int .u64 0), pI 0], stL L true) := W3 L true
theorem C4 (L : BY) : Runs lp 59 [P00] (stL L false) (.tup [.p (.int .u64 (By L)), pI (Bw L)], stL L false) := W3 L false
end Go.Proofs.Ytmbjojnldbeicaa
