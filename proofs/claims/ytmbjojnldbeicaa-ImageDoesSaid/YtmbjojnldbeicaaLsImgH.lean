import Derived.Test.YtmbjojnldbeicaaLsImgW
set_option linter.unusedVariables false
set_option linter.unusedSimpArgs false
set_option maxRecDepth 100000
namespace Go.Proofs.Ytmbjojnldbeicaa
open Go Go.LS
theorem Ks (v : Val) : Es v = .agg [.p (.int .i64 (kV v)), .p (.int .i64 (nV v)), .p (.str (sV v)), .p (.sl (Ad (iV v))), .p (.sl (Ak (mV v)))] := by obtain ⟨_, _, _, _, _⟩ := v; rfl
abbrev fx (v : Val) : LV := .agg [.p (.int .i64 (kV v)), .p (.int .i64 (nV v)), .p (.str (sV v)), .p (.sl (Ad (iV v))), .p (.sl (Ak (mV v)))]
theorem Mj (a b : Val) (ha : okV a) (hb : okV b) : Runs lp 28 [fx a, fx b] [] (.p (.bool (Cz a b)), []) := by
 have := rSame a ha b hb
 rw [Ks, Ks] at this; exact this
abbrev imO (kp b t : Int) : LObj := .row [[.p (.int .i64 kp), .rs 1 0 (Int.toNat kp), .p (.int .i64 b), .p (.int .i64 t)]]
def okR (kp : Int) (R : List (Option Val)) : Prop := R.length = Int.toNat kp ∧ ∀ v, some v ∈ R → okV v
theorem Qw {kp t : Int} {R : List (Option Val)} {x : Option Val} (h : okR kp R) (hx : ∀ v, x = some v → okV v) : okR kp (Bj kp t R x) := by
 unfold Bj
 split
 ·refine ⟨by rw [List.length_set]; exact h.1, fun v hv => ?_⟩
  rcases List.mem_or_eq_of_mem_set hv with hv | hv
  ·exact h.2 v hv
  ·exact hx v hv.symm
 ·exact h
theorem Qx {kp : Int} : okR kp (List.replicate (Int.toNat kp) none) := ⟨by simp, fun v hv => by have := List.eq_of_mem_replicate hv; cases this⟩
theorem If : okV A4 := by rw [A4, okV, M5]; simp
theorem okR_at {kp : Int} {R : List (Option Val)} (h : okR kp R) (k : Nat) : okV ((Au R k).getD A4) := by
 unfold Au
 rw [List.getD]
 cases hq : R[k]? with
 | none => exact If
 | some o =>
  cases o with
  | none => exact If
  | some v => exact h.2 v (List.mem_of_getElem? hq)
theorem F1 {i kp : Int} (hi : 0 ≤ i) (hk : 0 < kp) : Int.tmod i kp = ((Int.toNat (Int.tmod i kp) : Nat) : Int) ∧ Int.toNat (Int.tmod i kp) < Int.toNat kp := by
 rw [Int.tmod_eq_emod_of_nonneg hi]
 have h1 := Int.emod_nonneg i (show kp ≠ 0 by omega)
 have h2 := Int.emod_lt_of_pos i hk
 omega
theorem win {x m : Int} : Runs lp 30 [.p (.int .i64 x), .p (.int .i64 m)] [] (.p (.bool (wI x m)), []) := by
 refine ifE win0 ?_
 unfold wI
 by_cases h : x ≥ 0 <;> simp [h]
theorem newR {kp b : Int} : Runs lp 8 [.p (.int .i64 kp), .p (.int .i64 b)] [] (if wI kp 64 = true then (if wI b 1099511627776 = true then (.tup [.ptr 0 0 0, .p (.int .i64 0)], [imO kp b b, .row (Aa (List.replicate (Int.toNat kp) none))]) else (.tup [.p .nilp, .p (.int .i64 1)], [])) else (.tup [.p .nilp, .p (.int .i64 1)], [])) :=
 new0 (win) (fun hA => win) (fun hA _ => by have := hA; simp [wI] at this; omega) (fun hA _ => by have := hA; simp [wI] at this; omega)
theorem Xd {kp b t : Int} {R : List (Option Val)} (x : Option Val) (hk : kp ≤ 64) (ht : 0 ≤ t ∧ t ≤ 1000000000000000) (hR : okR kp R) :
  Runs lp 32 [.ptr 0 0 0, .agg (Ie x)] [imO kp b t, .row (Aa R)] (.tup [], [imO kp b (t + 1), .row (Aa (Bj kp t R x))]) := by
 have hw : IntKind.wrap .i64 (t + 1) = t + 1 := A9 (by omega) (by omega)
 have hp : decide (kp > 0) = true → Int.tmod (IntKind.wrap .i64 (t + 1)) kp = ((Int.toNat (Int.tmod (IntKind.wrap .i64 (t + 1)) kp) : Nat) : Int) ∧ Int.toNat (Int.tmod (IntKind.wrap .i64 (t + 1)) kp) < Int.toNat kp := fun h => by
  rw [hw]; exact F1 (by omega) (of_decide_eq_true h)
 cases x with
 | none =>
  refine ifE (noteN (x := 0) (fun hP => by have := of_decide_eq_true hP; omega) (fun hP => (hp hP).1) (fun hP => (hp hP).2) (fun hP => by rw [hR.1]; exact (hp hP).2)) ?_
  rw [hw]; unfold Bj
  by_cases h : kp > 0 <;> simp [h]
 | some v =>
  obtain ⟨k, n, s, is, ns⟩ := v
  refine ifE (noteV (x := 0) (fun hP => by have := of_decide_eq_true hP; omega) (fun hP => (hp hP).1) (fun hP => (hp hP).2) (fun hP => by rw [hR.1]; exact (hp hP).2)) ?_
  rw [hw]; unfold Bj
  by_cases h : kp > 0 <;> simp [h]
theorem Xe {kp b t : Int} {R : List (Option Val)} {v : Val} (hv : okV v) (hd : Bg v ≤ 1000000) (hk : kp ≤ 64) (ht : 0 ≤ t ∧ t ≤ 1000000000000000) (hR : okR kp R) :
  Runs lp 13 [.ptr 0 0 0, Es v, .p (.bool true)] [imO kp b t, .row (Aa R)] (if (Bp v == 0) = true then (.p (.int .i64 0), [imO kp b (t + 1), .row (Aa (Bj kp t R (some v)))]) else (.p (.int .i64 20), [imO kp b t, .row (Aa R)])) := by
 have hc := Qi v hv hd
 have hcl := Ux v hv
 have hn := Xd (b := b) (some v) hk ht hR
 obtain ⟨k, n, s, is, ns⟩ := v
 exact NoteV0 (hc) (fun _ => hcl) (fun _ => hn)
theorem Ve {kp b t : Int} {R : List (Option Val)} {v : Val} (hk : kp ≤ 64) (ht : 0 ≤ t ∧ t ≤ 1000000000000000) (hR : okR kp R) :
  Runs lp 13 [.ptr 0 0 0, Es v, .p (.bool false)] [imO kp b t, .row (Aa R)] (.p (.int .i64 0), [imO kp b (t + 1), .row (Aa (Bj kp t R none))]) := by
 have hn := Xd (b := b) none hk ht hR
 obtain ⟨k, n, s, is, ns⟩ := v
 exact NoteN0 (hn)
theorem Vf {kp b t : Int} {R : List (Option Val)} (hk : 0 ≤ kp ∧ kp ≤ 64) (hb : 0 ≤ b ∧ b ≤ 1000000000000000) (ht : 0 ≤ t ∧ t ≤ 1000000000000000) :
  Runs lp 37 [.ptr 0 0 0] [imO kp b t, .row (Aa R)] (.p (.int .i64 (Bi kp b t)), [imO kp b t, .row (Aa R)]) := by
 have := least0 (kp := kp) (b := b) (t := t) (R := R)
 rw [A9 (n := t - kp) (by omega) (by omega), A9 (by split <;> omega) (by split <;> omega)] at this
 exact this
theorem getR {kp b t i : Int} {R : List (Option Val)} (hk : 0 ≤ kp ∧ kp ≤ 64) (hb : 0 ≤ b ∧ b ≤ 1000000000000000) (ht : 0 ≤ t ∧ t ≤ 1000000000000000) (hR : okR kp R) :
  Runs lp 27 [.ptr 0 0 0, .p (.int .i64 i)] [imO kp b t, .row (Aa R)] (.tup [fx (Av kp b t R i).1, .p (.int .i64 (Av kp b t R i).2.1), .p (.int .i64 (Av kp b t R i).2.2)], [imO kp b t, .row (Aa R)]) := by
 have hl := Vf (R := R) hk hb ht
 have key : decide (i < 1) = false → decide (i > t) = false → decide (i < Bi kp b t) = false → 0 < kp ∧ 0 ≤ i := fun a c d => by
  have a := of_decide_eq_false a; have c := of_decide_eq_false c; have d := of_decide_eq_false d
  unfold Bi at d
  split at d <;> omega
 have cl : ∀ k, Runs lp 34 [fx ((Au R k).getD A4)] [] (fx ((Au R k).getD A4), []) := fun k => by
  have := Ux _ (okR_at hR k)
  rw [Ks] at this; exact this
 refine ifE (Get0 (fun a c => hl) (fun a c d => by have := key a c d; omega) (fun a c d => (F1 (key a c d).2 (key a c d).1).1) (fun a c d => (F1 (key a c d).2 (key a c d).1).2) (fun a c d => by rw [hR.1]; exact (F1 (key a c d).2 (key a c d).1).2) (fun a c d _ => cl _)) ?_
 unfold Av
 by_cases h1 : i < 1
 ·simp [h1, A4, kV, nV, sV, iV, mV, Ad, Ak]
 ·by_cases h2 : i > t
  ·simp [h1, h2, A4, kV, nV, sV, iV, mV, Ad, Ak]
  ·by_cases h3 : i < Bi kp b t
   ·simp [h1, h2, h3, A4, kV, nV, sV, iV, mV, Ad, Ak]
   ·have h12 : ¬ (i < 1 ∨ i > t) := by omega
    rw [if_neg h12, if_neg h3, decide_eq_false h1, decide_eq_false h2, decide_eq_false h3]
    cases hq : Au R (Int.toNat (Int.tmod i kp)) with
    | none => rfl
    | some v => first | rfl | exact congrArg (fun z : Val => (LV.tup [fx z, .p (.int .i64 2), .p (.int .i64 0)], [imO kp b t, .row (Aa R)])) (show (Au R (Int.toNat (Int.tmod i kp))).getD A4 = v by rw [hq] <;> rfl)
theorem topR {kp b t : Int} {R : List (Option Val)} : Runs lp 29 [.ptr 0 0 0] [imO kp b t, .row (Aa R)] (.p (.int .i64 t), [imO kp b t, .row (Aa R)]) := Top0
end Go.Proofs.Ytmbjojnldbeicaa
