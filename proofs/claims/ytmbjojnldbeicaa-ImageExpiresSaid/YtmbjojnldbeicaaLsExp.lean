import Derived.Test.YtmbjojnldbeicaaLsExpW
set_option linter.unusedVariables false
set_option linter.unusedSimpArgs false
set_option maxRecDepth 100000
namespace Go.Proofs.Ytmbjojnldbeicaa
open Go Go.LS
def firstAt (kp t : Int) (R : List (Option Val)) (v : Val) : Prop := t ≤ kp → ringAt R (Int.toNat (Int.tmod 1 kp)) = some v
theorem firstAt_put {kp t : Int} {R : List (Option Val)} {v : Val} (ht : 1 ≤ t) (h : firstAt kp t R v) : firstAt kp (t + 1) (putR kp t R none) v := by
  intro hle
  have h1 := h (by omega)
  unfold putR
  rw [if_pos (by omega)]
  unfold ringAt at h1 ⊢
  rw [List.getD, List.getElem?_set_ne]
  · exact h1
  · rw [Int.tmod_eq_emod_of_nonneg (by omega), Int.tmod_eq_emod_of_nonneg (by omega)]
    rcases Int.lt_or_le (t + 1) kp with h2 | h2
    · rw [Int.emod_eq_of_lt (by omega) h2, Int.emod_eq_of_lt (by omega) (by omega)]; omega
    · have : t + 1 = kp := by omega
      rw [this, Int.emod_self, Int.emod_eq_of_lt (by omega) (by omega)]; omega
theorem expL {kp cn : Int} {k n : Int} {s : List UInt8} {is : List Val} {ns : List (List UInt8)} {v : Val} (hk : 0 ≤ kp ∧ kp ≤ 64) (hc : cn ≤ 100) : ∀ (j i : Nat) (t : Int) (R : List (Option Val)), (i : Int) + j = cn → t = 1 + (i : Int) → okR kp R → firstAt kp t R v →
    ∃ R', okR kp R' ∧ firstAt kp (1 + cn) R' v ∧ LoopN lp 0 (loopNo lf6 0) (tl 0 95 [(0, .p (.int .i64 kp)), (2, .p (.int .i64 cn)), (4, (.ptr 0 0 0)), (7, (.ptr 1 0 0)), (9, (.p (.int .i64 (i : Int))))]) [.row [[.p (.int .i64 k), .p (.int .i64 n), .p (.str s), (.p (.sl (rowsV is))), (.p (.sl (rowsN ns)))]], .row [[.p (.int .i64 kp), (.rs 2 0 (Int.toNat kp)), .p (.int .i64 0), .p (.int .i64 t)]], .row (ringS R)] (.exit 0, (tl 0 95 [(0, .p (.int .i64 kp)), (2, .p (.int .i64 cn)), (4, (.ptr 0 0 0)), (7, (.ptr 1 0 0))]), [.row [[.p (.int .i64 k), .p (.int .i64 n), .p (.str s), (.p (.sl (rowsV is))), (.p (.sl (rowsN ns)))]], .row [[.p (.int .i64 kp), (.rs 2 0 (Int.toNat kp)), .p (.int .i64 0), (.p (.int .i64 (1 + cn)))]], .row (ringS R')]) := by
  intro j
  induction j with
  | zero =>
    intro i t R h ht hR hf
    have e : (i : Int) = cn := by omega
    refine ⟨R, hR, by rw [← e, ← ht]; exact hf, ?_⟩
    have et : t = 1 + cn := by omega
    subst et
    exact expR_n (by rw [decide_eq_false_iff_not]; omega)
  | succ j ih =>
    intro i t R h ht hR hf
    obtain ⟨R', r1, r2, r3⟩ := ih (i + 1) (t + 1) (putR kp t R none) (by push_cast; omega) (by push_cast; omega) (okR_put hR (fun v h => by cases h)) (firstAt_put (by omega) hf)
    refine ⟨R', r1, r2, ?_⟩
    have hn := noteNo (kp := kp) (b := 0) (t := t) (R := R) (v := .mk 0 0 [] [] []) hk.2 ⟨by omega, by omega⟩ hR
    exact expR_y (by rw [decide_eq_true_iff]; omega) hn (by rw [nx (by omega)]; exact r3)
theorem mayT {kp : Int} (h : wI kp 64 = true) : Runs lp 10 [.p (.int .i64 kp), .p (.int .i64 0)] [] (.p (.bool true), []) := by
  have h1 : decide (kp ≥ 0) = true ∧ decide (kp ≤ 64) = true := by simpa [wI] using h
  refine ifE may0 ?_
  rw [h1.1, h1.2]; rfl
theorem mayF {kp : Int} (h : wI kp 64 = false) : Runs lp 10 [.p (.int .i64 kp), .p (.int .i64 0)] [] (.p (.bool false), []) := by
  refine ifE may0 ?_
  by_cases h0 : kp ≥ 0
  · have h1 : ¬ kp ≤ 64 := fun h1 => by simp [wI, h0, h1] at h
    simp [h0, h1]
  · simp [h0]
theorem lawEx {kp cn : Int} {v : Val} (hv : okV v) : Runs lp 6 [.p (.int .i64 kp), encV v, .p (.int .i64 cn)] [] (.p (.bool true), []) := by
  have hlg := rLarge v hv
  have hmay := okV_zero
  have hdep : largeV v = false → depthV v ≤ 1000000 := fun h => by have := small_depth hv h; omega
  have hchk : largeV v = false → Runs lp 26 [encV v] [] (.p (.int .i64 (checkV v)), []) := fun h => rCheck v hv (hdep h)
  cases hw : wI kp 64 with
  | false =>
    have hnew := newR (kp := kp) (b := 0)
    rw [hw, if_neg (by decide)] at hnew
    have hm := mayF hw
    obtain ⟨k, n, s, is, ns⟩ := v
    have no : ∀ {p : Prop}, wI kp 64 = true → p := fun h => by rw [hw] at h; cases h
    refine ifE (lawE (t := 0) (R := []) (fun hW => no hW) (fun hW => lives_runs) (fun hW => no hW) (fun hW a b => no hW) (fun hW a b hL => no hW) (fun hW a b hL h4 => no hW) (fun hW a b hL h4 => no hW) (fun hW a b hL h4 => no hW) (fun hW a b hL h4 _ _ _ => no hW) (fun hW => hnew) (fun hW => lives_runs) (fun hW => hm)) ?_
    rw [hw]; rfl
  | true =>
    have hnew := newR (kp := kp) (b := 0)
    rw [hw, if_pos rfl, if_pos (by decide)] at hnew
    have hm := mayT hw
    have hk : 0 ≤ kp ∧ kp ≤ 64 := by
      have : kp ≥ 0 ∧ kp ≤ 64 := by simpa [wI] using hw
      exact this
    have hn1 := fun (h : largeV v = false) => noteYes (kp := kp) (b := 0) (t := 0) (R := List.replicate (Int.toNat kp) none) hv (hdep h) hk.2 ⟨by omega, by omega⟩ okR_new
    have oR1 : okR kp (putR kp 0 (List.replicate (Int.toNat kp) none) (some v)) := okR_put okR_new (fun w h => by cases h; exact hv)
    have f1 : firstAt kp 1 (putR kp 0 (List.replicate (Int.toNat kp) none) (some v)) v := by
      intro h
      unfold putR ringAt
      rw [if_pos (by omega), List.getD, List.getElem?_set]
      have := (tmod_place (i := 1) (kp := kp) (by omega) (by omega)).2
      simp [this]
    obtain ⟨R', o2, f2, lp2⟩ : ∃ R', okR kp R' ∧ (0 ≤ cn → cn ≤ 100 → firstAt kp (1 + cn) R' v) ∧ (0 ≤ cn → cn ≤ 100 → LoopN lp 0 (loopNo lf6 0) (tl 0 95 [(0, .p (.int .i64 kp)), (2, .p (.int .i64 cn)), (4, (.ptr 0 0 0)), (7, (.ptr 1 0 0)), (9, (.p (.int .i64 ((0 : Nat) : Int))))]) [.row [[.p (.int .i64 (kV v)), .p (.int .i64 (nV v)), .p (.str (sV v)), .p (.sl (rowsV (iV v))), .p (.sl (rowsN (mV v)))]], .row [[.p (.int .i64 kp), .rs 2 0 (Int.toNat kp), .p (.int .i64 0), .p (.int .i64 1)]], .row (ringS (putR kp 0 (List.replicate (Int.toNat kp) none) (some v)))] (.exit 0, (tl 0 95 [(0, .p (.int .i64 kp)), (2, .p (.int .i64 cn)), (4, (.ptr 0 0 0)), (7, (.ptr 1 0 0))]), [.row [[.p (.int .i64 (kV v)), .p (.int .i64 (nV v)), .p (.str (sV v)), .p (.sl (rowsV (iV v))), .p (.sl (rowsN (mV v)))]], .row [[.p (.int .i64 kp), .rs 2 0 (Int.toNat kp), .p (.int .i64 0), .p (.int .i64 (1 + cn))]], .row (ringS R')])) := by
      by_cases hc : 0 ≤ cn ∧ cn ≤ 100
      · obtain ⟨R', a, b, c⟩ := expL (k := kV v) (n := nV v) (s := sV v) (is := iV v) (ns := mV v) (v := v) hk hc.2 (Int.toNat cn) 0 1 _ (by omega) (by omega) oR1 f1
        exact ⟨R', a, fun _ _ => b, fun _ _ => c⟩
      · exact ⟨_, oR1, fun a b => absurd ⟨a, b⟩ hc, fun a b => absurd ⟨a, b⟩ hc⟩
    have hg : 0 ≤ cn → cn ≤ 100 → Runs lp 27 [.ptr 0 0 0, .p (.int .i64 1)] [imO kp 0 (1 + cn), .row (ringS R')] (.tup [fx (getI kp 0 (1 + cn) R' 1).1, .p (.int .i64 (getI kp 0 (1 + cn) R' 1).2.1), .p (.int .i64 (getI kp 0 (1 + cn) R' 1).2.2)], [imO kp 0 (1 + cn), .row (ringS R')]) := fun a b => getR hk ⟨by omega, by omega⟩ ⟨by omega, by omega⟩ o2
    have hgt : 0 ≤ cn → cn ≤ 100 → getI kp 0 (1 + cn) R' 1 = if cn ≥ kp then (zeroV, 3, 0) else (v, 2, 0) := fun a b => by
      unfold getI leastI
      rw [if_neg (by omega)]
      by_cases hcc : cn ≥ kp
      · rw [if_pos (show (1 + cn - kp > 0) by omega), if_pos (by omega), if_pos hcc]
      · rw [if_neg (show ¬ (1 + cn - kp > 0) by omega), if_neg (by omega), if_neg hcc, f2 a b (by omega)]
    have okg : 0 ≤ cn → cn ≤ 100 → okV (getI kp 0 (1 + cn) R' 1).1 := fun a b => by
      rw [hgt a b]; split
      · exact okV_zero
      · exact hv
    have hsm := fun (a : 0 ≤ cn) (b : cn ≤ 100) => sameX _ v (okg a b) hv
    obtain ⟨k, n, s, is, ns⟩ := v
    refine ifE (lawE (t := 1 + cn) (R := R') (fun hW => hnew) (fun hW => lives_runs) (fun hW => hm) (fun hW a b => hlg) (fun hW a b hL => hchk hL) (fun hW a b hL h4 => by have := hn1 hL; rw [if_pos h4] at this; exact this) (fun hW a b hL h4 => lp2 (by have := of_decide_eq_false a; omega) (by have := of_decide_eq_false b; omega)) (fun hW a b hL h4 => hg (by have := of_decide_eq_false a; omega) (by have := of_decide_eq_false b; omega)) (fun hW a b hL h4 _ _ _ => hsm (by have := of_decide_eq_false a; omega) (by have := of_decide_eq_false b; omega)) (fun hW => absurd hW (by rw [hw]; decide)) (fun hW => lives_runs) (fun hW => absurd hW (by rw [hw]; decide))) ?_
    clear hlg hdep hchk hnew hm hn1 hg hsm lp2 okg
    generalize getI kp 0 (1 + cn) R' 1 = G at *
    rw [hw]
    by_cases c1 : cn < 0
    · simp [c1]
    · by_cases c2 : cn > 100
      · simp [c1, c2]
      · have e := hgt (by omega) (by omega)
        subst e
        by_cases c3 : largeV (Val.mk k n s is ns) = true
        · simp [c1, c2, c3]
        · by_cases c4 : (checkV (Val.mk k n s is ns) == 0) = true
          · by_cases c5 : cn ≥ kp
            · simp [c1, c2, c3, c4, c5, zeroV, kV]
            · simp [c1, c2, c3, c4, c5, sameV_refl]
          · have c4' : (checkV (Val.mk k n s is ns) == 0) = false := by simpa using c4
            simp [c1, c2, c3, c4']
end Go.Proofs.Ytmbjojnldbeicaa
