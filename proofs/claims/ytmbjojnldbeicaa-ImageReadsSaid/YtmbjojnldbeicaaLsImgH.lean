import Derived.Test.YtmbjojnldbeicaaLsImgW
set_option linter.unusedVariables false
set_option linter.unusedSimpArgs false
set_option maxRecDepth 100000
namespace Go.Proofs.Ytmbjojnldbeicaa
open Go Go.LS
theorem Jj (v : Val) : El v = .agg [.p (.int .i64 (kV v)), .p (.int .i64 (nV v)), .p (.str (sV v)), .p (.sl (Ad (iV v))), .p (.sl (Af (mV v)))] := by obtain ⟨_, _, _, _, _⟩ := v; rfl
abbrev fx (v : Val) : LV := .agg [.p (.int .i64 (kV v)), .p (.int .i64 (nV v)), .p (.str (sV v)), .p (.sl (Ad (iV v))), .p (.sl (Af (mV v)))]
theorem T3 (a b : Val) (ha : okV a) (hb : okV b) : Runs lp 28 [fx a, fx b] [] (.p (.bool (Da a b)), []) := by
 have := rSame a ha b hb
 rw [Jj, Jj] at this; exact this
abbrev imO (kp b t : Int) : LObj := .row [[.p (.int .i64 kp), .rs 1 0 (Int.toNat kp), .p (.int .i64 b), .p (.int .i64 t)]]
def okR (kp : Int) (R : List (Option Val)) : Prop := R.length = Int.toNat kp ∧ ∀ v, some v ∈ R → okV v
theorem T4 {kp t : Int} {R : List (Option Val)} {x : Option Val} (h : okR kp R) (hx : ∀ v, x = some v → okV v) : okR kp (E5 kp t R x) := by
 unfold E5
 split
 ·refine ⟨by rw [List.length_set]; exact h.1, fun v hv => ?_⟩
  rcases List.mem_or_eq_of_mem_set hv with hv | hv
  ·exact h.2 v hv
  ·exact hx v hv.symm
 ·exact h
theorem T5 {kp : Int} : okR kp (List.replicate (Int.toNat kp) none) := ⟨by simp, fun v hv => by have := List.eq_of_mem_replicate hv; cases this⟩
theorem Hd : okV Au := by rw [Au, okV, Lk]; simp
theorem okR_at {kp : Int} {R : List (Option Val)} (h : okR kp R) (k : Nat) : okV ((Ao R k).getD Au) := by
 unfold Ao
 rw [List.getD]
 cases hq : R[k]? with
 | none => exact Hd
 | some o =>
  cases o with
  | none => exact Hd
  | some v => exact h.2 v (List.mem_of_getElem? hq)
theorem F8 {i kp : Int} (hi : 0 ≤ i) (hk : 0 < kp) : Int.tmod i kp = ((Int.toNat (Int.tmod i kp) : Nat) : Int) ∧ Int.toNat (Int.tmod i kp) < Int.toNat kp := by
 rw [Int.tmod_eq_emod_of_nonneg hi]
 have h1 := Int.emod_nonneg i (show kp ≠ 0 by omega)
 have h2 := Int.emod_lt_of_pos i hk
 omega
theorem win {x m : Int} : Runs lp 30 [.p (.int .i64 x), .p (.int .i64 m)] [] (.p (.bool (wI x m)), []) := by
 refine ifE win0 ?_
 unfold wI
 by_cases h : x ≥ 0 <;> simp [h]
theorem newR {kp b : Int} : Runs lp 8 [.p (.int .i64 kp), .p (.int .i64 b)] [] (if wI kp 64 = true then (if wI b 1099511627776 = true then (.tup [.ptr 0 0 0, .p (.int .i64 0)], [imO kp b b, .row (Ah (List.replicate (Int.toNat kp) none))]) else (.tup [.p .nilp, .p (.int .i64 1)], [])) else (.tup [.p .nilp, .p (.int .i64 1)], [])) :=
 new0 (win) (fun hA => win) (fun hA _ => by have := hA; simp [wI] at this; omega) (fun hA _ => by have := hA; simp [wI] at this; omega)
theorem nNote {kp b t : Int} {R : List (Option Val)} (x : Option Val) (hk : kp ≤ 64) (ht : 0 ≤ t ∧ t ≤ 1000000000000000) (hR : okR kp R) :
  Runs lp 32 [.ptr 0 0 0, .agg (Hc x)] [imO kp b t, .row (Ah R)] (.tup [], [imO kp b (t + 1), .row (Ah (E5 kp t R x))]) := by
 have hw : IntKind.wrap .i64 (t + 1) = t + 1 := A6 (by omega) (by omega)
 have hp : decide (kp > 0) = true → Int.tmod (IntKind.wrap .i64 (t + 1)) kp = ((Int.toNat (Int.tmod (IntKind.wrap .i64 (t + 1)) kp) : Nat) : Int) ∧ Int.toNat (Int.tmod (IntKind.wrap .i64 (t + 1)) kp) < Int.toNat kp := fun h => by
  rw [hw]; exact F8 (by omega) (of_decide_eq_true h)
 cases x with
 | none =>
  refine ifE (noteN (x := 0) (fun hP => by have := of_decide_eq_true hP; omega) (fun hP => (hp hP).1) (fun hP => (hp hP).2) (fun hP => by rw [hR.1]; exact (hp hP).2)) ?_
  rw [hw]; unfold E5
  by_cases h : kp > 0 <;> simp [h]
 | some v =>
  obtain ⟨k, n, s, is, ns⟩ := v
  refine ifE (noteV (x := 0) (fun hP => by have := of_decide_eq_true hP; omega) (fun hP => (hp hP).1) (fun hP => (hp hP).2) (fun hP => by rw [hR.1]; exact (hp hP).2)) ?_
  rw [hw]; unfold E5
  by_cases h : kp > 0 <;> simp [h]
theorem X3 {kp b t : Int} {R : List (Option Val)} (hk : 0 ≤ kp ∧ kp ≤ 64) (hb : 0 ≤ b ∧ b ≤ 1000000000000000) (ht : 0 ≤ t ∧ t ≤ 1000000000000000) :
  Runs lp 37 [.ptr 0 0 0] [imO kp b t, .row (Ah R)] (.p (.int .i64 (B3 kp b t)), [imO kp b t, .row (Ah R)]) := by
 have := least0 (kp := kp) (b := b) (t := t) (R := R)
 rw [A6 (n := t - kp) (by omega) (by omega), A6 (by split <;> omega) (by split <;> omega)] at this
 exact this
theorem getR {kp b t i : Int} {R : List (Option Val)} (hk : 0 ≤ kp ∧ kp ≤ 64) (hb : 0 ≤ b ∧ b ≤ 1000000000000000) (ht : 0 ≤ t ∧ t ≤ 1000000000000000) (hR : okR kp R) :
  Runs lp 27 [.ptr 0 0 0, .p (.int .i64 i)] [imO kp b t, .row (Ah R)] (.tup [fx (As kp b t R i).1, .p (.int .i64 (As kp b t R i).2.1), .p (.int .i64 (As kp b t R i).2.2)], [imO kp b t, .row (Ah R)]) := by
 have hl := X3 (R := R) hk hb ht
 have key : decide (i < 1) = false → decide (i > t) = false → decide (i < B3 kp b t) = false → 0 < kp ∧ 0 ≤ i := fun a c d => by
  have a := of_decide_eq_false a; have c := of_decide_eq_false c; have d := of_decide_eq_false d
  unfold B3 at d
  split at d <;> omega
 have cl : ∀ k, Runs lp 34 [fx ((Ao R k).getD Au)] [] (fx ((Ao R k).getD Au), []) := fun k => by
  have := vClone _ (okR_at hR k)
  rw [Jj] at this; exact this
 refine ifE (Get0 (fun a c => hl) (fun a c d => by have := key a c d; omega) (fun a c d => (F8 (key a c d).2 (key a c d).1).1) (fun a c d => (F8 (key a c d).2 (key a c d).1).2) (fun a c d => by rw [hR.1]; exact (F8 (key a c d).2 (key a c d).1).2) (fun a c d _ => cl _)) ?_
 unfold As
 by_cases h1 : i < 1
 ·simp [h1, Au, kV, nV, sV, iV, mV, Ad, Af]
 ·by_cases h2 : i > t
  ·simp [h1, h2, Au, kV, nV, sV, iV, mV, Ad, Af]
  ·by_cases h3 : i < B3 kp b t
   ·simp [h1, h2, h3, Au, kV, nV, sV, iV, mV, Ad, Af]
   ·have h12 : ¬ (i < 1 ∨ i > t) := by omega
    rw [if_neg h12, if_neg h3, decide_eq_false h1, decide_eq_false h2, decide_eq_false h3]
    cases hq : Ao R (Int.toNat (Int.tmod i kp)) with
    | none => rfl
    | some v => rfl
theorem topR {kp b t : Int} {R : List (Option Val)} : Runs lp 29 [.ptr 0 0 0] [imO kp b t, .row (Ah R)] (.p (.int .i64 t), [imO kp b t, .row (Ah R)]) := Top0
end Go.Proofs.Ytmbjojnldbeicaa
