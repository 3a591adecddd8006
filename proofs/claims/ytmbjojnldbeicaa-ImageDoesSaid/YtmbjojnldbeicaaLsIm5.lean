import Derived.Test.YtmbjojnldbeicaaLsIm4
set_option linter.unusedVariables false
set_option linter.unusedSimpArgs false
set_option maxRecDepth 100000
namespace Go.Proofs.Ytmbjojnldbeicaa
open Go Go.LS
abbrev srow (x : Src) : LObj := .row [[.p (.sl (bs x.1)), .p (.bool x.2)]]
theorem V8 (x : Src) : 0 ≤ rK x ∧ rK x ≤ 64 := ⟨Lq _ _, Lr _ _ (by omega)⟩
theorem rB_bnd (x : Src) : 0 ≤ rB x ∧ rB x ≤ 1099511627776 := ⟨Lq _ _, Lr _ _ (by omega)⟩
theorem rT_bnd (x : Src) : 0 ≤ rT x ∧ rT x ≤ 1099511627776 := ⟨Lq _ _, Lr _ _ (by omega)⟩
theorem r3_le (x : Src) : (r3 x).1.length ≤ x.1.length := Nat.le_trans (Gu _ _) (Nat.le_trans (Gu _ _) (Gu _ _))
theorem V9 (x : Src) (h : ¬ rB x > rT x) : rB x ≤ r0 x ∧ r0 x ≤ rT x ∧ rT x - r0 x ≤ 64 ∧ (r0 x = rB x ∨ r0 x = rT x - rK x) ∧ (rT x - rB x > rK x → r0 x = rT x - rK x) ∧ (¬ rT x - rB x > rK x → r0 x = rB x) := by
 obtain ⟨a, b⟩ := V8 x
 unfold r0 Bi
 split <;> omega
theorem rL_F (x : Src) : rL x = (rdF (rT x - r0 x).toNat (r3 x)).1 := by unfold rL; rw [rdN_F]; simp
theorem rS_F (x : Src) (h : ¬ rB x > rT x) : rS x = (rdF (rT x - r0 x).toNat (r3 x)).2 := by unfold rS; rw [if_neg h, rdN_F]
theorem rL_ok (x : Src) : ∀ v, some v ∈ rL x → okV v := by rw [rL_F]; exact rdF_ok _ _
theorem rL_len (x : Src) (h : ¬ rB x > rT x) (hs : (rS x).2 = false) : (rL x).length = (rT x - r0 x).toNat := by
 rw [rL_F]; rw [rS_F x h] at hs; exact (Xo _ _).2 hs
theorem rS_good {x : Src} (hs : (rS x).2 = false) : ¬ rB x > rT x := fun h => by unfold rS at hs; rw [if_pos h] at hs; cases hs
theorem pReadC (x : Src) (hx : x.1.length ≤ 140737488355328) : Runs lp 18 [.ptr 0 0 0] (sto x)
  (if (rS x).2 = true then (.p .nilp, sto (rS x)) else (.ptr 1 0 0, [srow (rS x), .row [[.p (.int .i64 (rK x)), .rs 2 0 (Int.toNat (rK x)), .p (.int .i64 (rB x)), .p (.int .i64 (rT x))]], .row (Aa (rR x))])) := by
 obtain ⟨k0, k1⟩ := V8 x
 obtain ⟨b0, b1⟩ := rB_bnd x
 obtain ⟨t0, t1⟩ := rT_bnd x
 have h3 := r3_le x
 have hw1 : wI (rK x) 64 = true := by simp [wI, k0, k1]
 have hw2 : wI (rB x) 1099511627776 = true := by simp [wI, b0, b1]
 have hn : Runs lp 8 [.p (.int .i64 (rK x)), .p (.int .i64 (rB x))] [] (.tup [.ptr 0 0 0, .p (.int .i64 0)], [imO (rK x) (rB x) (rB x), .row (Aa (List.replicate (Int.toNat (rK x)) none))]) := by
  have := newR (kp := rK x) (b := rB x)
  rw [hw1, hw2] at this; exact this
 have hl := Vf (kp := rK x) (b := rB x) (t := rT x) (R := List.replicate (Int.toNat (rK x)) none) ⟨k0, k1⟩ ⟨b0, by omega⟩ ⟨t0, by omega⟩
 have hlp : ¬ rB x > rT x → LoopN lp 1 (Ae Mv 0) (tl 0 59 [(0, (.ptr 0 0 0)), (5, (.p (.int .i64 (rT x)))), (6, (.ptr 1 0 0))]) [srow (r3 x), .row [[.p (.int .i64 (rK x)), .rs 2 0 (Int.toNat (rK x)), .p (.int .i64 (rB x)), .p (.int .i64 (IntKind.wrap .i64 (Bi (rK x) (rB x) (rT x) - 1)))]], .row (Aa (List.replicate (Int.toNat (rK x)) none))]
   (.exit 0, tl 0 59 [(0, (.ptr 0 0 0)), (6, (.ptr 1 0 0))], [srow (rdF (rT x - r0 x).toNat (r3 x)).2, .row [[.p (.int .i64 (rK x)), .rs 2 0 (Int.toNat (rK x)), .p (.int .i64 (rB x)), .p (.int .i64 (r0 x + (rL x).length))]], .row (Aa (rR x))]) := fun h => by
  obtain ⟨c1, c2, c3, _⟩ := V9 x h
  have e : IntKind.wrap .i64 (Bi (rK x) (rB x) (rT x) - 1) = r0 x := by
   have : r0 x = Bi (rK x) (rB x) (rT x) - 1 := rfl
   rw [A9 (by omega) (by omega)]; exact this.symm
  have := pReadL (kp := rK x) (b := rB x) (tt := rT x) k1 (by omega) (rT x - r0 x).toNat (r0 x) (List.replicate (Int.toNat (rK x)) none) (r3 x) (by omega) (by omega) (by omega) Qx
  rw [← rL_F] at this
  rw [e]; exact this
 by_cases h : rB x > rT x
 ·have hd : decide (rB x > rT x) = true := decide_eq_true h
  refine ifE (pRead1 (kp2 := 0) (b2 := 0) (t2 := 0) (R2 := []) (x2 := x) hn (fun h' => by
   have h' : decide (rB x > rT x) = false := h'
   rw [hd] at h'; cases h') (fun h' => by
   have h' : decide (rB x > rT x) = false := h'
   rw [hd] at h'; cases h')) ?_
  have e : rS x = ((r3 x).1, true) := by unfold rS; rw [if_pos h]
  rw [e, if_pos rfl]
  exact if_pos hd
 ·have hd : decide (rB x > rT x) = false := decide_eq_false h
  refine ifE (pRead1 (kp2 := rK x) (b2 := rB x) (t2 := r0 x + (rL x).length) (R2 := rR x) (x2 := (rdF (rT x - r0 x).toNat (r3 x)).2) hn (fun _ => hl) (fun _ => hlp h)) ?_
  rw [rS_F x h]
  refine (if_neg (by rw [show (decide ((Ac (Ac x 64).2 1099511627776).1 > (Ac (Ac (Ac x 64).2 1099511627776).2 1099511627776).1)) = false from hd]; decide)).trans ?_
  by_cases hs : (rdF (rT x - r0 x).toNat (r3 x)).2.2 = true
  ·rw [if_pos hs, if_pos hs]
  ·rw [if_neg hs, if_neg hs]
   obtain ⟨c1, c2, c3, _⟩ := V9 x h
   have hl2 := rL_len x h (by rw [rS_F x h]; simpa using hs)
   have e : r0 x + ((rL x).length : Int) = rT x := by omega
   simp only [e] <;> rfl
structure Rel (kp b t : Int) (R : List (Option Val)) (xb : Int) (L : List (Option Val)) : Prop where
 inv : InvI kp t R xb L
 base : BaseI kp b t xb
 bnd : V7 kp xb L
 okr : okR kp R
theorem Rel.get {kp b t xb : Int} {R L : List (Option Val)} (h : Rel kp b t R xb L) (i : Int) : Av kp b t R i = Ay kp xb L i := get_eq h.inv h.base i
theorem Rel.nums {kp b t xb : Int} {R L : List (Option Val)} (h : Rel kp b t R xb L) : (0 ≤ kp ∧ kp ≤ 64) ∧ (0 ≤ b ∧ b ≤ xb ∧ b ≤ 1000000000000000) ∧ t = A5 xb L ∧ 0 ≤ t ∧ t ≤ 1000000000000000 := by
 have a := h.bnd.k0; have b1 := h.bnd.k1; have c := h.bnd.b0; have d := h.bnd.b1; have e := h.bnd.l1
 obtain ⟨f, g, _⟩ := h.base
 have i := h.inv.top
 refine ⟨⟨a, b1⟩, ⟨f, g, by omega⟩, i, by omega, by omega⟩
theorem Cw {kp xb : Int} {L : List (Option Val)} (h : V7 kp xb L) (i : Int) : okV (Ay kp xb L i).1 := by
 unfold Ay
 split
 ·exact If
 ·split
  ·exact If
  ·split
   ·rename_i v hv
    unfold Au at hv
    rw [List.getD] at hv
    cases hq : L[(i - xb - 1).toNat]? with
    | none => rw [hq] at hv; cases hv
    | some o => rw [hq] at hv; simp at hv; subst hv; exact h.oks v (List.mem_of_getElem? hq)
   ·exact If
theorem Xp {b t i : Int} (hb : 0 ≤ b ∧ b ≤ t) (ht : t ≤ 1000000000000000) :
  Runs lp 27 [.ptr 0 0 0, .p (.int .i64 i)] [imZ b t] (.tup [fx (Av 0 b t [] i).1, .p (.int .i64 (Av 0 b t [] i).2.1), .p (.int .i64 (Av 0 b t [] i).2.2)], [imZ b t]) := by
 have hle : Bi 0 b t = t + 1 := by unfold Bi; split <;> omega
 have hl := Xn hb ht
 refine ifE (zGet (fun _ h => by rw [hle]; have := of_decide_eq_false h; exact decide_eq_true (by omega)) (fun _ _ => hl)) ?_
 unfold Av
 rw [hle]
 by_cases h1 : i < 1
 ·simp [h1, A4, kV, nV, sV, iV, mV, Ad, Ak]
 ·by_cases h2 : i > t
  ·simp [h1, h2, A4, kV, nV, sV, iV, mV, Ad, Ak]
  ·have h3 : i < t + 1 := by omega
   have h12 : ¬ (i < 1 ∨ i > t) := by omega
   rw [if_neg h12, if_pos h3, decide_eq_false h1, decide_eq_false h2]
   simp [A4, kV, nV, sV, iV, mV, Ad, Ak]
end Go.Proofs.Ytmbjojnldbeicaa
