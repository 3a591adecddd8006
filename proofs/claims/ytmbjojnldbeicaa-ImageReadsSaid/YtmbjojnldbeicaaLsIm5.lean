import Derived.Test.YtmbjojnldbeicaaLsIm4
set_option linter.unusedVariables false
set_option linter.unusedSimpArgs false
set_option maxRecDepth 100000
namespace Go.Proofs.Ytmbjojnldbeicaa
open Go Go.LS
abbrev Jk (x : Src) : LObj := .row [[.p (.sl (bs x.1)), .p (.bool x.2)]]
theorem xReadL {kp xb tt : Int} (hk : 0 ≤ kp ∧ kp ≤ 64) (hb : 0 ≤ xb ∧ xb ≤ 500000000000000) : ∀ (n : Nat) (L : List (Option Val)) (x : Src), x.1.length ≤ 140737488355328 → tt = Bf xb L + n → L.length + n ≤ 1000 → (∀ v, some v ∈ L → okV v) →
  LoopN lp 1 (Ag Dp 0) (tl 0 80 [(0, (.ptr 0 0 0)), (5, .p (.int .i64 tt)), (6, (.ptr 1 0 0))]) (Jk x :: xS 2 kp xb L) (.exit 0, tl 0 80 [(0, (.ptr 0 0 0)), (6, (.ptr 1 0 0))], Jk (rdF n x).2 :: xS 2 kp xb (L ++ (rdF n x).1)) := by
 intro n
 induction n with
 | zero =>
  intro L x hx h1 h2 h3
  have ht := K3 (kp := kp) (xb := xb) (L := L) ⟨hk.1, hk.2, hb.1, hb.2, by omega, h3⟩
  simp only [rdF, List.append_nil]
  cases L with
  | nil => exact Vj ht (decide_eq_false (by omega))
  | cons a r => exact Vk ht (decide_eq_false (by omega))
 | succ n ih =>
  intro L x hx h1 h2 h3
  have ht := K3 (kp := kp) (xb := xb) (L := L) ⟨hk.1, hk.2, hb.1, hb.2, by omega, h3⟩
  have hlt : decide (Bf xb L < tt) = true := decide_eq_true (by omega)
  rcases x with ⟨xl, bb⟩
  cases bb with
  | true =>
   simp only [rdF, if_true, List.append_nil]
   cases L with
   | nil => exact Sx (xv := (xl, true)) ht hlt rfl
   | cons a r => exact Sy (xv := (xl, true)) ht hlt rfl
  | false =>
   simp only [rdF, Bool.false_eq_true, if_false]
   have hle := X9 (xl, false) hx
   have hbl := Dr (xl, false)
   have hok := S0 (xl, false)
   have hl1 : Bf xb (L ++ [(rdE (xl, false)).1]) = Bf xb L + 1 := by simp [Bf]; omega
   have h := ih (L ++ [(rdE (xl, false)).1]) (rdE (xl, false)).2 (by omega) (by rw [hl1]; omega) (by simp; omega) (fun v hv => by
    rcases List.mem_append.1 hv with hv | hv
    ·exact h3 v hv
    ·exact hok v (List.mem_singleton.1 hv).symm)
   rw [List.append_assoc] at h
   have hstep : ∀ r, LoopN lp 1 (Ag Dp 0) (tl 0 80 [(0, (.ptr 0 0 0)), (5, .p (.int .i64 tt)), (6, (.ptr 1 0 0))]) (Jk (rdE (xl, false)).2 :: xS 2 kp xb (L ++ [(rdE (xl, false)).1])) r →
     LoopN lp 1 (Ag Dp 0) (tl 0 80 [(0, (.ptr 0 0 0)), (5, .p (.int .i64 tt)), (6, (.ptr 1 0 0))]) (Jk (xl, false) :: xS 2 kp xb L) r := by
    intro r hr
    by_cases e0 : (Ab (xl, false)).1 = 0
    ·have e : rdE (xl, false) = (none, (Ab (xl, false)).2) := by unfold rdE; rw [if_pos e0]
     rw [e] at hr
     cases L with
     | nil => exact Rb (xv := (xl, false)) ht hlt rfl (by simpa using e0) hr
     | cons a q => exact Rc (xv := (xl, false)) ht hlt rfl (by simpa using e0) (by omega) hr
    ·by_cases e1 : (Ab (xl, false)).1 = 1
     ·have e : rdE (xl, false) = (some (A5 (Ab (xl, false)).2).1, (A5 (Ab (xl, false)).2).2) := by unfold rdE; rw [if_neg e0, if_pos e1]
      rw [e] at hr
      have h8 := rr8x (Ab (xl, false)).2 (by omega)
      cases L with
      | nil => exact Pc (xv := (xl, false)) ht hlt rfl (by simpa using e0) (by simpa using e1) h8 hr
      | cons a q => exact Pe (xv := (xl, false)) ht hlt rfl (by simpa using e0) (by simpa using e1) h8 (by omega) hr
     ·have e : rdE (xl, false) = (none, ((Ab (xl, false)).2.1, true)) := by unfold rdE; rw [if_neg e0, if_neg e1]
      rw [e] at hr
      cases L with
      | nil => exact Pd (xv := (xl, false)) ht hlt rfl (by simpa using e0) (by simpa using e1) hr
      | cons a q => exact Pf (xv := (xl, false)) ht hlt rfl (by simpa using e0) (by simpa using e1) (by omega) hr
   exact hstep _ h
theorem Pg (x : Src) : 0 ≤ rK x ∧ rK x ≤ 64 := ⟨Kg _ _, Kh _ _ (by omega)⟩
theorem S1 (x : Src) : 0 ≤ rB x ∧ rB x ≤ 1099511627776 := ⟨Kg _ _, Kh _ _ (by omega)⟩
theorem S2 (x : Src) : 0 ≤ rT x ∧ rT x ≤ 1099511627776 := ⟨Kg _ _, Kh _ _ (by omega)⟩
theorem r3_le (x : Src) : (r3 x).1.length ≤ x.1.length := Nat.le_trans (Ep _ _) (Nat.le_trans (Ep _ _) (Ep _ _))
theorem Mx (x : Src) (h : ¬ rB x > rT x) : rB x ≤ r0 x ∧ r0 x ≤ rT x ∧ rT x - r0 x ≤ 64 ∧ (r0 x = rB x ∨ r0 x = rT x - rK x) ∧ (rT x - rB x > rK x → r0 x = rT x - rK x) ∧ (¬ rT x - rB x > rK x → r0 x = rB x) := by
 obtain ⟨a, b⟩ := Pg x
 unfold r0 B3
 split <;> omega
theorem rL_F (x : Src) : rL x = (rdF (rT x - r0 x).toNat (r3 x)).1 := by unfold rL; rw [X8]; simp
theorem Yc (x : Src) (h : ¬ rB x > rT x) : rS x = (rdF (rT x - r0 x).toNat (r3 x)).2 := by unfold rS; rw [if_neg h, X8]
theorem rL_ok (x : Src) : ∀ v, some v ∈ rL x → okV v := by rw [rL_F]; exact Ya _ _
theorem Yd (x : Src) (h : ¬ rB x > rT x) (hs : (rS x).2 = false) : (rL x).length = (rT x - r0 x).toNat := by
 rw [rL_F]; rw [Yc x h] at hs; exact (T7 _ _).2 hs
theorem rS_good {x : Src} (hs : (rS x).2 = false) : ¬ rB x > rT x := fun h => by unfold rS at hs; rw [if_pos h] at hs; cases hs
theorem pReadC (x : Src) (hx : x.1.length ≤ 140737488355328) : Runs lp 18 [.ptr 0 0 0] (sto x)
  (if (rS x).2 = true then (.p .nilp, sto (rS x)) else (.ptr 1 0 0, [Jk (rS x), .row [[.p (.int .i64 (rK x)), .rs 2 0 (Int.toNat (rK x)), .p (.int .i64 (rB x)), .p (.int .i64 (rT x))]], .row (Ah (rR x))])) := by
 obtain ⟨k0, k1⟩ := Pg x
 obtain ⟨b0, b1⟩ := S1 x
 obtain ⟨t0, t1⟩ := S2 x
 have h3 := r3_le x
 have hw1 : wI (rK x) 64 = true := by simp [wI, k0, k1]
 have hw2 : wI (rB x) 1099511627776 = true := by simp [wI, b0, b1]
 have hn : Runs lp 8 [.p (.int .i64 (rK x)), .p (.int .i64 (rB x))] [] (.tup [.ptr 0 0 0, .p (.int .i64 0)], [imO (rK x) (rB x) (rB x), .row (Ah (List.replicate (Int.toNat (rK x)) none))]) := by
  have := newR (kp := rK x) (b := rB x)
  rw [hw1, hw2] at this; exact this
 have hl := X3 (kp := rK x) (b := rB x) (t := rT x) (R := List.replicate (Int.toNat (rK x)) none) ⟨k0, k1⟩ ⟨b0, by omega⟩ ⟨t0, by omega⟩
 have hlp : ¬ rB x > rT x → LoopN lp 1 (Ag Lb 0) (tl 0 59 [(0, (.ptr 0 0 0)), (5, (.p (.int .i64 (rT x)))), (6, (.ptr 1 0 0))]) [Jk (r3 x), .row [[.p (.int .i64 (rK x)), .rs 2 0 (Int.toNat (rK x)), .p (.int .i64 (rB x)), .p (.int .i64 (IntKind.wrap .i64 (B3 (rK x) (rB x) (rT x) - 1)))]], .row (Ah (List.replicate (Int.toNat (rK x)) none))]
   (.exit 0, tl 0 59 [(0, (.ptr 0 0 0)), (6, (.ptr 1 0 0))], [Jk (rdF (rT x - r0 x).toNat (r3 x)).2, .row [[.p (.int .i64 (rK x)), .rs 2 0 (Int.toNat (rK x)), .p (.int .i64 (rB x)), .p (.int .i64 (r0 x + (rL x).length))]], .row (Ah (rR x))]) := fun h => by
  obtain ⟨c1, c2, c3, _⟩ := Mx x h
  have e : IntKind.wrap .i64 (B3 (rK x) (rB x) (rT x) - 1) = r0 x := by
   have : r0 x = B3 (rK x) (rB x) (rT x) - 1 := rfl
   rw [A6 (by omega) (by omega)]; exact this.symm
  have := pReadL (kp := rK x) (b := rB x) (tt := rT x) k1 (by omega) (rT x - r0 x).toNat (r0 x) (List.replicate (Int.toNat (rK x)) none) (r3 x) (by omega) (by omega) (by omega) T5
  rw [← rL_F] at this
  rw [e]; exact this
 by_cases h : rB x > rT x
 ·have hd : decide (rB x > rT x) = true := decide_eq_true h
  refine ifE (X6 (kp2 := 0) (b2 := 0) (t2 := 0) (R2 := []) (x2 := x) hn (fun h' => by
   have h' : decide (rB x > rT x) = false := h'
   rw [hd] at h'; cases h') (fun h' => by
   have h' : decide (rB x > rT x) = false := h'
   rw [hd] at h'; cases h')) ?_
  have e : rS x = ((r3 x).1, true) := by unfold rS; rw [if_pos h]
  rw [e, if_pos rfl]
  exact if_pos hd
 ·have hd : decide (rB x > rT x) = false := decide_eq_false h
  refine ifE (X6 (kp2 := rK x) (b2 := rB x) (t2 := r0 x + (rL x).length) (R2 := rR x) (x2 := (rdF (rT x - r0 x).toNat (r3 x)).2) hn (fun _ => hl) (fun _ => hlp h)) ?_
  rw [Yc x h]
  refine (if_neg (by rw [show (decide ((Aa (Aa x 64).2 1099511627776).1 > (Aa (Aa (Aa x 64).2 1099511627776).2 1099511627776).1)) = false from hd]; decide)).trans ?_
  by_cases hs : (rdF (rT x - r0 x).toNat (r3 x)).2.2 = true
  ·rw [if_pos hs, if_pos hs]
  ·rw [if_neg hs, if_neg hs]
   obtain ⟨c1, c2, c3, _⟩ := Mx x h
   have hl2 := Yd x h (by rw [Yc x h]; simpa using hs)
   have e : r0 x + ((rL x).length : Int) = rT x := by omega
   simp only [e] <;> rfl
theorem xReadC (x : Src) (hx : x.1.length ≤ 140737488355328) : Runs lp 22 [.ptr 0 0 0] (sto x)
  (if (rS x).2 = true then (.p .nilp, sto (rS x)) else (.ptr 1 0 0, Jk (rS x) :: xS 2 (rK x) (r0 x) (rL x))) := by
 obtain ⟨k0, k1⟩ := Pg x
 obtain ⟨b0, b1⟩ := S1 x
 obtain ⟨t0, t1⟩ := S2 x
 have h3 := r3_le x
 have hlp : ¬ rB x > rT x → LoopN lp 1 (Ag Dp 0) (tl 0 80 [(0, (.ptr 0 0 0)), (5, (.p (.int .i64 (rT x)))), (6, (.ptr 1 0 0))]) (Jk (r3 x) :: xS 2 (rK x) (r0 x) []) (.exit 0, tl 0 80 [(0, (.ptr 0 0 0)), (6, (.ptr 1 0 0))], Jk (rdF (rT x - r0 x).toNat (r3 x)).2 :: xS 2 (rK x) (r0 x) (rL x)) := fun h => by
  obtain ⟨c1, c2, c3, _⟩ := Mx x h
  have := xReadL (kp := rK x) (xb := r0 x) (tt := rT x) ⟨k0, k1⟩ ⟨by omega, by omega⟩ (rT x - r0 x).toNat [] (r3 x) (by omega) (by simp [Bf]; omega) (by simp; omega) (by simp)
  rw [← rL_F] at this
  exact this
 have hbad : (r3 x).2 = true → ¬ rB x > rT x → (rdF (rT x - r0 x).toNat (r3 x)).2 = ((r3 x).1, true) := fun h _ => by
  have e : r3 x = ((r3 x).1, true) := by rw [← h]
  cases (rT x - r0 x).toNat with
  | zero => exact e
  | succ n => unfold rdF; rw [if_pos h]; exact e
 have hS1 : (r3 x).2 = true ∨ rB x > rT x → rS x = ((r3 x).1, true) := fun h => by
  by_cases hb : rB x > rT x
  ·unfold rS; rw [if_pos hb]
  ·rw [Yc x hb]; exact hbad (h.resolve_right hb) hb
 have P := fun (a : (r3 x).2 = false) (b : decide (rB x > rT x) = false) => hlp (of_decide_eq_false b)
 have c3 : ∀ (b : decide (rB x > rT x) = false), (decide (IntKind.wrap .i64 (rT x - rB x) > rK x) = true → IntKind.wrap .i64 (rT x - rK x) = r0 x) ∧ (decide (IntKind.wrap .i64 (rT x - rB x) > rK x) = false → rB x = r0 x) := fun b => by
  have b := of_decide_eq_false b
  obtain ⟨_, _, _, _, c5, c6⟩ := Mx x b
  rw [A6 (n := rT x - rB x) (by omega) (by omega), A6 (by omega) (by omega)]
  exact ⟨fun h => (c5 (of_decide_eq_true h)).symm, fun h => (c6 (of_decide_eq_false h)).symm⟩
 have eS : ∀ (b : decide (rB x > rT x) = false), (rdF (rT x - r0 x).toNat (r3 x)).2 = rS x := fun b => (Yc x (of_decide_eq_false b)).symm
 cases hL : rL x with
 | nil =>
  rw [hL] at P
  have Q1 : ∀ (a : (r3 x).2 = false) (b : decide (rB x > rT x) = false) (xb : Int), xb = r0 x → LoopN lp 1 (Ag Dp 0) (tl 0 80 [(0, (.ptr 0 0 0)), (5, (.p (.int .i64 (rT x)))), (6, (.ptr 1 0 0))]) (Jk (r3 x) :: xS 2 (rK x) xb []) (.exit 0, tl 0 80 [(0, (.ptr 0 0 0)), (6, (.ptr 1 0 0))], Jk (rS x) :: xS 2 (rK x) (r0 x) []) := fun a b xb e => by
   rw [e, ← eS b]; exact P a b
  have no : ∀ {p : Prop}, decide (([] : List (Option Val)) = []) = false → p := fun h => by simp at h
  refine ifE (X7 (xv := x) (x2 := rS x) (kp2 := rK x) (xb2 := r0 x) (L := []) (fun a b c _ => Q1 a b _ ((c3 b).1 c)) (fun _ _ _ h => no h) (fun a b c _ => Q1 a b _ ((c3 b).2 c)) (fun _ _ _ h => no h)) ?_
  by_cases ha : (r3 x).2 = true
  ·rw [hS1 (.inl ha)]; exact if_pos ha
  ·by_cases hb : rB x > rT x
   ·rw [hS1 (.inr hb)]
    exact (if_neg ha).trans (if_pos (decide_eq_true hb))
   ·refine (if_neg ha).trans ((if_neg (show ¬ decide (rB x > rT x) = true from by simpa using hb)).trans ?_)
    split
    ·simp only [decide_true, if_true]; rfl
    ·simp only [decide_true, if_true]; rfl
 | cons a0 q =>
  rw [hL] at P
  have Q1 : ∀ (a : (r3 x).2 = false) (b : decide (rB x > rT x) = false) (xb : Int), xb = r0 x → LoopN lp 1 (Ag Dp 0) (tl 0 80 [(0, (.ptr 0 0 0)), (5, (.p (.int .i64 (rT x)))), (6, (.ptr 1 0 0))]) (Jk (r3 x) :: xS 2 (rK x) xb []) (.exit 0, tl 0 80 [(0, (.ptr 0 0 0)), (6, (.ptr 1 0 0))], Jk (rS x) :: xS 2 (rK x) (r0 x) (a0 :: q)) := fun a b xb e => by
   rw [e, ← eS b]; exact P a b
  have no : ∀ {p : Prop}, decide ((a0 :: q) = []) = true → p := fun h => by simp at h
  refine ifE (X7 (xv := x) (x2 := rS x) (kp2 := rK x) (xb2 := r0 x) (L := a0 :: q) (fun _ _ _ h => no h) (fun a b c _ => Q1 a b _ ((c3 b).1 c)) (fun _ _ _ h => no h) (fun a b c _ => Q1 a b _ ((c3 b).2 c))) ?_
  by_cases ha : (r3 x).2 = true
  ·rw [hS1 (.inl ha)]; exact if_pos ha
  ·by_cases hb : rB x > rT x
   ·rw [hS1 (.inr hb)]
    exact (if_neg ha).trans (if_pos (decide_eq_true hb))
   ·refine (if_neg ha).trans ((if_neg (show ¬ decide (rB x > rT x) = true from by simpa using hb)).trans ?_)
    have hd : decide ((a0 :: q) = []) = false := by simp
    split
    ·rw [hd]; simp only [Bool.false_eq_true, if_false]; rfl
    ·rw [hd]; simp only [Bool.false_eq_true, if_false]; rfl
structure Rel (kp b t : Int) (R : List (Option Val)) (xb : Int) (L : List (Option Val)) : Prop where
 inv : InvI kp t R xb L
 base : BaseI kp b t xb
 bnd : Sz kp xb L
 okr : okR kp R
theorem Rel.get {kp b t xb : Int} {R L : List (Option Val)} (h : Rel kp b t R xb L) (i : Int) : As kp b t R i = Ax kp xb L i := get_eq h.inv h.base i
theorem Rel.nums {kp b t xb : Int} {R L : List (Option Val)} (h : Rel kp b t R xb L) : (0 ≤ kp ∧ kp ≤ 64) ∧ (0 ≤ b ∧ b ≤ xb ∧ b ≤ 1000000000000000) ∧ t = Bf xb L ∧ 0 ≤ t ∧ t ≤ 1000000000000000 := by
 have a := h.bnd.k0; have b1 := h.bnd.k1; have c := h.bnd.b0; have d := h.bnd.b1; have e := h.bnd.l1
 obtain ⟨f, g, _⟩ := h.base
 have i := h.inv.top
 refine ⟨⟨a, b1⟩, ⟨f, g, by omega⟩, i, by omega, by omega⟩
theorem Ea {kp xb : Int} {L : List (Option Val)} (h : Sz kp xb L) (i : Int) : okV (Ax kp xb L i).1 := by
 unfold Ax
 split
 ·exact Hd
 ·split
  ·exact Hd
  ·split
   ·rename_i v hv
    unfold Ao at hv
    rw [List.getD] at hv
    cases hq : L[(i - xb - 1).toNat]? with
    | none => rw [hq] at hv; cases hv
    | some o => rw [hq] at hv; simp at hv; subst hv; exact h.oks v (List.mem_of_getElem? hq)
   ·exact Hd
end Go.Proofs.Ytmbjojnldbeicaa
