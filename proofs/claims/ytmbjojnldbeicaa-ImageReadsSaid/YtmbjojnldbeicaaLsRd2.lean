import Derived.Test.YtmbjojnldbeicaaLsAb
import Derived.Test.YtmbjojnldbeicaaLsRd
set_option linter.unusedVariables false
set_option linter.unusedSimpArgs false
namespace Go.Proofs.Ytmbjojnldbeicaa
open Go Go.LS
def D9 (L : BY) : Nat → Nat → Nat → Nat × Nat
 | 0, _, _ => (0, 0)
 | k + 1, i, u => if i < L.length then
   if (i = 9 ∧ 1 < (L.getD i 0).toNat) ∨ (0 < i ∧ (L.getD i 0).toNat = 0) then (0, 0)
   else if (L.getD i 0).toNat < 128 then (u + (L.getD i 0).toNat * 2 ^ (7 * i), i + 1)
   else D9 L k (i + 1) (u + ((L.getD i 0).toNat % 128) * 2 ^ (7 * i))
  else (0, 0)
theorem or_add {a b k : Nat} (h : a < 2 ^ k) : a ||| (b * 2 ^ k) = a + b * 2 ^ k := by
 have := Nat.shiftLeft_add_eq_or_of_lt h b
 rw [Nat.shiftLeft_eq] at this
 rw [Nat.or_comm, ← this, Nat.add_comm]
theorem or64 {a b : Nat} (ha : a < 2 ^ 64) (hb : b < 2 ^ 64) : (BitVec.ofInt (IntKind.bits .u64) (a : Int) ||| BitVec.ofInt (IntKind.bits .u64) (b : Int)).toNat = a ||| b := by
 show (BitVec.ofInt 64 (a : Int) ||| BitVec.ofInt 64 (b : Int)).toNat = a ||| b
 rw [BitVec.toNat_or, BitVec.toNat_ofInt, BitVec.toNat_ofInt]
 congr 1 <;> omega
theorem and127 (c : UInt8) : (IntKind.wrap .u8 ↑(BitVec.ofInt (IntKind.bits .u8) (c.toNat : Int) &&& BitVec.ofInt (IntKind.bits .u8) 127).toNat) = ((c.toNat % 128 : Nat) : Int) := by
 have key : ∀ m, m < 256 → (IntKind.wrap .u8 ↑(BitVec.ofInt (IntKind.bits .u8) ((m : Nat) : Int) &&& BitVec.ofInt (IntKind.bits .u8) 127).toNat) = ((m % 128 : Nat) : Int) := by decide +kernel
 exact key c.toNat c.toNat_lt
theorem Xu (c : UInt8) : IntKind.wrap .u64 (IntKind.wrap .u8 ↑(BitVec.ofInt (IntKind.bits .u8) (c.toNat : Int) &&& BitVec.ofInt (IntKind.bits .u8) 127).toNat) = ((c.toNat % 128 : Nat) : Int) := by
 rw [and127, Ch (by omega)]
theorem Qu (c : UInt8) : IntKind.wrap .u64 (Int.tmod (c.toNat : Int) 128) = ((c.toNat % 128 : Nat) : Int) := by
 have : Int.tmod (c.toNat : Int) 128 = ((c.toNat % 128 : Nat) : Int) := by rw [Int.tmod_eq_emod_of_nonneg (by omega)]; rfl
 rw [this, Ch (by omega)]
theorem M7 {x i : Nat} (hi : 7 * i < 64) (hx : x * 2 ^ (7 * i) < 2 ^ 64) :
  IntKind.wrap .u64 ((x : Int) * 2 ^ min (Int.toNat (IntKind.wrap .i64 (7 * (i : Int)))) (IntKind.bits .u64)) = ((x * 2 ^ (7 * i) : Nat) : Int) := by
 rw [A6 (by omega) (by omega)]
 have hm : min (7 * (i : Int)).toNat 64 = 7 * i := by omega
 show IntKind.wrap .u64 ((x : Int) * 2 ^ min (7 * (i : Int)).toNat 64) = _
 rw [hm]
 have : (x : Int) * 2 ^ (7 * i) = ((x * 2 ^ (7 * i) : Nat) : Int) := by push_cast; rfl
 rw [this, Ch hx]
theorem Mq {u x i : Nat} (hu : u < 2 ^ (7 * i)) (h : u + x * 2 ^ (7 * i) < 2 ^ 64) :
  IntKind.wrap .u64 ↑(BitVec.ofInt (IntKind.bits .u64) (u : Int) ||| BitVec.ofInt (IntKind.bits .u64) ((x * 2 ^ (7 * i) : Nat) : Int)).toNat = ((u + x * 2 ^ (7 * i) : Nat) : Int) := by
 rw [or64 (by omega) (by omega), or_add hu, Ch h]
theorem Jc {u x i : Nat} (h : u + x * 2 ^ (7 * i) < 2 ^ 64) :
  IntKind.wrap .u64 ((u : Int) + ((x * 2 ^ (7 * i) : Nat) : Int)) = ((u + x * 2 ^ (7 * i) : Nat) : Int) := by
 have : (u : Int) + ((x * 2 ^ (7 * i) : Nat) : Int) = ((u + x * 2 ^ (7 * i) : Nat) : Int) := by push_cast; rfl
 rw [this, Ch h]
abbrev stL (L : BY) (bad : Bool) : List LObj := (aR3 L bad)
abbrev vt (u m i : Int) : List LV := tl 0 47 [(0, P00), (4, .p (.int .u64 u)), (9, pI m), (10, pI i)]
abbrev vr (a b : Int) : List LV := tl 0 47 [(2, .p (.int .u64 a)), (3, pI b)]
theorem Hk {u c i : Nat} (hu : u < 2 ^ (7 * i)) : u + (c % 128) * 2 ^ (7 * i) < 2 ^ (7 * (i + 1)) := by
 have e : 2 ^ (7 * (i + 1)) = 128 * 2 ^ (7 * i) := by rw [show 7 * (i + 1) = 7 * i + 7 by omega, Nat.pow_add]; omega
 rw [e]
 have : (c % 128) * 2 ^ (7 * i) ≤ 127 * 2 ^ (7 * i) := Nat.mul_le_mul_right _ (by omega)
 omega
theorem G7 {u c i : Nat} (hi : i ≤ 9) (h9 : i = 9 → c ≤ 1) (hu : u < 2 ^ (7 * i)) : u + (c % 128) * 2 ^ (7 * i) < 2 ^ 64 := by
 by_cases h : i = 9
 ·subst h
  have h1 : c % 128 ≤ 1 := by have := h9 rfl; omega
  have h2 : (c % 128) * 2 ^ (7 * 9) ≤ 1 * 2 ^ (7 * 9) := Nat.mul_le_mul_right _ h1
  have e2 : 2 ^ (7 * 9) = 9223372036854775808 := by decide +kernel
  rw [e2] at hu h2 ⊢
  omega
 ·have := Hk (c := c) hu
  have : 2 ^ (7 * (i + 1)) ≤ 2 ^ 63 := Nat.pow_le_pow_right (by omega) (by omega)
  omega
theorem U0 (L : BY) (bad : Bool) : ∀ (k i u : Nat), k + i = 10 → u < 2 ^ (7 * i) →
  (LoopAt lp 1 (Ag Ec 0).1 (Ag Ec 0).2 (vt u (min L.length 10 : Nat) i) (stL L bad) (.ret, vr (D9 L k i u).1 (D9 L k i u).2, stL L bad)) ∨
  (D9 L k i u = (0, 0) ∧ LoopAt lp 1 (Ag Ec 0).1 (Ag Ec 0).2 (vt u (min L.length 10 : Nat) i) (stL L bad) (.exit 0, tl 0 47 [], stL L bad)) := by
 intro k
 induction k with
 | zero =>
  intro i u hk hu
  exact .inr ⟨rfl, Ov (by simp; omega)⟩
 | succ k ih =>
  intro i u hk hu
  by_cases hlt : i < L.length
  ·have hm : (decide ((i : Int) < ((min L.length 10 : Nat) : Int))) = true := by simp; omega
   simp only [D9, if_pos hlt]
   generalize hc : (L.getD i 0) = c
   by_cases h9 : i = 9
   ·subst h9
    by_cases h1 : 1 < c.toNat
    ·rw [if_pos (.inl ⟨rfl, h1⟩)]
     exact .inl (Uy hm hlt (by simp) (by rw [hc]; simp; omega))
    ·by_cases hz : c.toNat = 0
     ·rw [if_pos (.inr ⟨by omega, hz⟩)]
      exact .inl (Qo hm hlt (by simp) (by rw [hc]; simp; omega) (by simp) (by rw [hc]; simp [hz]))
     ·have hc1 : c.toNat = 1 := by omega
      rw [if_neg (by omega), if_pos (by omega)]
      have hs := G7 (u := u) (c := c.toNat) (i := 9) (by omega) (by omega) hu
      have h := Ou (L := L) (bad := bad) (i := 9) (u := u) (m := ((min L.length 10 : Nat) : Int)) hm hlt (by simp) (by rw [hc]; simp; omega) (by simp) (by rw [hc]; simp; omega) (by rw [A6 (by omega) (by omega)]; omega) (by rw [hc]; simp; omega)
      rw [hc, Xu, M7 (by omega) (by omega), Mq hu hs, A6 (by omega) (by omega), show c.toNat % 128 = c.toNat by omega] at h
      exact .inl h
   ·by_cases hz : 0 < i ∧ c.toNat = 0
    ·rw [if_pos (.inr hz)]
     exact .inl (Se hm hlt (by simp; omega) (by simp; omega) (by rw [hc]; simp; omega))
    ·have hs := G7 (u := u) (c := c.toNat) (i := i) (by omega) (by omega) hu
     rw [if_neg (by omega)]
     by_cases hl : c.toNat < 128
     ·rw [if_pos hl]
      by_cases h0 : 0 < i
      ·have h := Qp (L := L) (bad := bad) (i := i) (u := u) (m := ((min L.length 10 : Nat) : Int)) hm hlt (by simp; omega) (by simp; omega) (by rw [hc]; simp; omega) (by rw [A6 (by omega) (by omega)]; omega) (by rw [hc]; simp; omega)
       rw [hc, Xu, M7 (by omega) (by omega), Mq hu hs, A6 (by omega) (by omega), show c.toNat % 128 = c.toNat by omega] at h
       exact .inl h
      ·have h := Sf (L := L) (bad := bad) (i := i) (u := u) (m := ((min L.length 10 : Nat) : Int)) hm hlt (by simp; omega) (by simp; omega) (by rw [A6 (by omega) (by omega)]; omega) (by rw [hc]; simp; omega)
       rw [hc, Xu, M7 (by omega) (by omega), Mq hu hs, A6 (by omega) (by omega), show c.toNat % 128 = c.toNat by omega] at h
       exact .inl h
     ·rw [if_neg hl]
      have on : ∀ r, LoopAt lp 1 (Ag Ec 0).1 (Ag Ec 0).2 (vt ((u + (c.toNat % 128) * 2 ^ (7 * i) : Nat) : Int) (min L.length 10 : Nat) ((i + 1 : Nat) : Int)) (stL L bad) r →
        LoopAt lp 1 (Ag Ec 0).1 (Ag Ec 0).2 (vt u (min L.length 10 : Nat) i) (stL L bad) r := by
       intro r hr
       by_cases h0 : 0 < i
       ·refine Qq hm hlt (by simp; omega) (by simp; omega) (by rw [hc]; simp; omega) (by rw [A6 (by omega) (by omega)]; omega) (by rw [hc]; simp; omega) ?_
        rw [hc, Xu, M7 (by omega) (by omega), Mq hu hs, A6 (by omega) (by omega)]
        exact hr
       ·refine Sg hm hlt (by simp; omega) (by simp; omega) (by rw [A6 (by omega) (by omega)]; omega) (by rw [hc]; simp; omega) ?_
        rw [hc, Xu, M7 (by omega) (by omega), Mq hu hs, A6 (by omega) (by omega)]
        exact hr
      rcases ih (i + 1) (u + (c.toNat % 128) * 2 ^ (7 * i)) (by omega) (Hk hu) with h | ⟨h1, h2⟩
      ·exact .inl (on _ h)
      ·exact .inr ⟨h1, on _ h2⟩
  ·refine .inr ⟨?_, Ov (by simp; omega)⟩
   simp [D9, hlt]
theorem Tt (L : BY) : (if (10 : Int) < ((List.length (bs L) : Nat) : Int) then (10 : Int) else ((List.length (bs L) : Nat) : Int)) = ((min L.length 10 : Nat) : Int) := by
 rw [Cb]
 split <;> omega
def grp (L : BY) (bad : Bool) : Nat × Nat := if bad then (0, 0) else D9 L 10 0 0
theorem Tu (L : BY) (bad : Bool) : Runs lp 59 [P00] (stL L bad) (.tup [.p (.int .u64 (grp L bad).1), pI (grp L bad).2], stL L bad) := by
 cases bad with
 | true => exact Qm rfl (Ov (i := 0) (by simp))
 | false =>
  rcases U0 L false 10 0 0 rfl (by simp) with h | ⟨h0, h⟩
  ·exact Sd rfl (by rw [Tt]; exact h)
  ·simp only [grp, Bool.false_eq_true, if_false, h0]
   exact Qn rfl (by rw [Tt]; exact h)
abbrev rt (u i : Int) : List LV := tl 0 82 [(0, P00), (3, .p (.int .u64 u)), (4, pI i)]
theorem Xv (L : BY) : ∀ k i u, (D9 L k i u).2 ≤ L.length := by
 intro k
 induction k with
 | zero => intro i u; simp [D9]
 | succ k ih =>
  intro i u
  simp only [D9]
  split
  ·split
   ·simp
   ·split
    ·simp; omega
    ·exact ih _ _
  ·simp
theorem Z2 (L : BY) : ∀ k i u, k + i = 10 → u < 2 ^ (7 * i) → (D9 L k i u).1 < 2 ^ 64 := by
 intro k
 induction k with
 | zero => intro i u _ _; simp [D9]
 | succ k ih =>
  intro i u hk hu
  simp only [D9]
  split
  ·split
   ·simp
   ·rename_i h1
    have hs := G7 (u := u) (c := (L.getD i 0).toNat) (i := i) (by omega) (by omega) hu
    split
    ·rename_i h2
     rw [Nat.mod_eq_of_lt h2] at hs
     exact hs
    ·exact ih _ _ (by omega) (Hk hu)
  ·simp
theorem U1 (L : BY) (bad : Bool) : ∀ (k i u : Nat), k + i = 10 → u < 2 ^ (7 * i) →
  (0 < (D9 L k i u).2 ∧ LoopAt lp 1 (Ag Ed 0).1 (Ag Ed 0).2 (rt u i) (stL L bad) (.ret, tl 0 82 [(2, .p (.int .u64 (D9 L k i u).1))], stL (L.drop (D9 L k i u).2) bad)) ∨
  (D9 L k i u = (0, 0) ∧ LoopAt lp 1 (Ag Ed 0).1 (Ag Ed 0).2 (rt u i) (stL L bad) (.exit 0, tl 0 82 [(0, P00)], stL L bad)) := by
 intro k
 induction k with
 | zero =>
  intro i u hk hu
  exact .inr ⟨rfl, Z1 (by simp; omega)⟩
 | succ k ih =>
  intro i u hk hu
  have h10 : (decide ((i : Int) < 10)) = true := by simp; omega
  by_cases hlt : i < L.length
  ·have hm : (decide ((i : Int) < ((List.length (bs L) : Nat) : Int))) = true := by simp [Cb]; omega
   have hw : (IntKind.wrap .i64 ((i : Int) + 1)) = ((i + 1 : Nat) : Int) := by rw [A6 (by omega) (by omega)]; rfl
   have hwn : (IntKind.wrap .i64 ((i : Int) + 1)).toNat = i + 1 := by rw [hw]; omega
   have hw0 : 0 ≤ IntKind.wrap .i64 ((i : Int) + 1) := by omega
   have hw1 : IntKind.wrap .i64 ((i : Int) + 1) ≤ (List.length L : Int) := by omega
   have h7 : 0 ≤ IntKind.wrap .i64 (7 * (i : Int)) := by rw [A6 (by omega) (by omega)]; omega
   simp only [D9, if_pos hlt]
   generalize hc : (L.getD i 0) = c
   by_cases h9 : i = 9
   ·subst h9
    by_cases h1 : 1 < c.toNat
    ·rw [if_pos (.inl ⟨rfl, h1⟩)]
     exact .inr ⟨rfl, Sh h10 hm hlt (by simp) (by rw [hc]; simp; omega)⟩
    ·by_cases hz : c.toNat = 0
     ·rw [if_pos (.inr ⟨by omega, hz⟩)]
      exact .inr ⟨rfl, Ow h10 hm hlt (by simp) (by rw [hc]; simp; omega) (by simp) (by rw [hc]; simp [hz])⟩
     ·have hc1 : c.toNat = 1 := by omega
      rw [if_neg (by omega), if_pos (by omega)]
      have hs := G7 (u := u) (c := c.toNat) (i := 9) (by omega) (by omega) hu
      have h := M6 (L := L) (bad := bad) (i := 9) (u := u) h10 hm hlt (by simp) (by rw [hc]; simp; omega) (by simp) (by rw [hc]; simp; omega) h7 (by rw [hc]; simp; omega) hw0 hw1
      rw [hc, Qu, M7 (by omega) (by omega), Jc hs, hwn, show c.toNat % 128 = c.toNat by omega] at h
      exact .inl ⟨by simp, h⟩
   ·by_cases hz : 0 < i ∧ c.toNat = 0
    ·rw [if_pos (.inr hz)]
     exact .inr ⟨rfl, Qr h10 hm hlt (by simp; omega) (by simp; omega) (by rw [hc]; simp; omega)⟩
    ·have hs := G7 (u := u) (c := c.toNat) (i := i) (by omega) (by omega) hu
     rw [if_neg (by omega)]
     by_cases hl : c.toNat < 128
     ·rw [if_pos hl]
      by_cases h0 : 0 < i
      ·have h := Ox (L := L) (bad := bad) (i := i) (u := u) h10 hm hlt (by simp; omega) (by simp; omega) (by rw [hc]; simp; omega) h7 (by rw [hc]; simp; omega) hw0 hw1
       rw [hc, Qu, M7 (by omega) (by omega), Jc hs, hwn, show c.toNat % 128 = c.toNat by omega] at h
       exact .inl ⟨by simp, h⟩
      ·have h := Qs (L := L) (bad := bad) (i := i) (u := u) h10 hm hlt (by simp; omega) (by simp; omega) h7 (by rw [hc]; simp; omega) hw0 hw1
       rw [hc, Qu, M7 (by omega) (by omega), Jc hs, hwn, show c.toNat % 128 = c.toNat by omega] at h
       exact .inl ⟨by simp, h⟩
     ·rw [if_neg hl]
      have on : ∀ r, LoopAt lp 1 (Ag Ed 0).1 (Ag Ed 0).2 (rt ((u + (c.toNat % 128) * 2 ^ (7 * i) : Nat) : Int) ((i + 1 : Nat) : Int)) (stL L bad) r →
        LoopAt lp 1 (Ag Ed 0).1 (Ag Ed 0).2 (rt u i) (stL L bad) r := by
       intro r hr
       by_cases h0 : 0 < i
       ·refine Oy h10 hm hlt (by simp; omega) (by simp; omega) (by rw [hc]; simp; omega) h7 (by rw [hc]; simp; omega) ?_
        rw [hc, Qu, M7 (by omega) (by omega), Jc hs, hw]
        exact hr
       ·refine Qt h10 hm hlt (by simp; omega) (by simp; omega) h7 (by rw [hc]; simp; omega) ?_
        rw [hc, Qu, M7 (by omega) (by omega), Jc hs, hw]
        exact hr
      rcases ih (i + 1) (u + (c.toNat % 128) * 2 ^ (7 * i)) (by omega) (Hk hu) with ⟨h0, h⟩ | ⟨h1, h2⟩
      ·exact .inl ⟨h0, on _ h⟩
      ·exact .inr ⟨h1, on _ h2⟩
  ·refine .inr ⟨?_, Xs h10 (by simp [Cb]; omega)⟩
   simp [D9, hlt]
theorem Tv (L : BY) (bad : Bool) : Runs lp 66 [P00] (stL L bad)
  (if (D9 L 10 0 0).2 = 0 then (.p (.int .u64 0), stL L true) else (.p (.int .u64 (D9 L 10 0 0).1), stL (L.drop (D9 L 10 0 0).2) bad)) := by
 rcases U1 L bad 10 0 0 rfl (by simp) with ⟨h0, h⟩ | ⟨h0, h⟩
 ·rw [if_neg (by omega)]
  exact Xt h
 ·rw [if_pos (by rw [h0])]
  exact Uz h
def Ba (L : BY) : Nat := (D9 L 10 0 0).1
def Bc (L : BY) : Nat := (D9 L 10 0 0).2
theorem Lm (L : BY) : Bc L ≤ L.length := Xv L 10 0 0
theorem Oz (L : BY) : Ba L < 2 ^ 64 := Z2 L 10 0 0 rfl (by simp)
theorem Ny (L : BY) (bad : Bool) (h : (decide (Bc L = 0)) = true) : Runs lp 66 [P00] (stL L bad) (.p (.int .u64 0), stL L true) := by
 have := Tv L bad
 rwa [if_pos (show (D9 L 10 0 0).2 = 0 from of_decide_eq_true h)] at this
theorem Ft (L : BY) (bad : Bool) (h : (decide (Bc L = 0)) = false) : Runs lp 66 [P00] (stL L bad) (.p (.int .u64 (Ba L)), stL (L.drop (Bc L)) bad) := by
 have := Tv L bad
 rwa [if_neg (show ¬ (D9 L 10 0 0).2 = 0 from of_decide_eq_false h)] at this
theorem Hl (L : BY) : Runs lp 59 [P00] (stL L true) (.tup [.p (.int .u64 0), pI 0], stL L true) := Tu L true
theorem Ck (L : BY) : Runs lp 59 [P00] (stL L false) (.tup [.p (.int .u64 (Ba L)), pI (Bc L)], stL L false) := Tu L false
end Go.Proofs.Ytmbjojnldbeicaa
