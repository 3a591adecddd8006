import Derived.Test.YtmbjojnldbeicaaLsIm2
set_option linter.unusedVariables false
set_option linter.unusedSimpArgs false
set_option maxRecDepth 100000
namespace Go.Proofs.Ytmbjojnldbeicaa
open Go Go.LS
theorem frX_ge {kp xb : Int} {L : List (Option Val)} {i : Nat} (h : BndX kp xb L) (hi : i < L.length) : knownX kp xb L (IntKind.wrap .i64 (IntKind.wrap .i64 (xb + 1) + (i : Int))) = decide (frX kp xb L ≤ i) := by
  obtain ⟨a, b, c, d, e, _⟩ := h
  rw [wrap_i64 (n := xb + 1) (by omega) (by omega), wrap_i64 (by omega) (by omega)]
  unfold knownX frX topX
  have h1 : decide (xb + 1 + (i : Int) > xb) = true := decide_eq_true (by omega)
  have h2 : decide (xb + 1 + (i : Int) ≤ xb + L.length) = true := decide_eq_true (by omega)
  rw [h1, h2]
  by_cases h3 : (xb + L.length - kp - xb).toNat ≤ i
  · rw [decide_eq_true h3, decide_eq_true (show xb + 1 + (i : Int) > xb + L.length - kp by omega)]; rfl
  · rw [decide_eq_false h3, decide_eq_false (show ¬ xb + 1 + (i : Int) > xb + L.length - kp by omega)]; rfl
theorem xCodeL {kp xb : Int} {a : Option Val} {r : List (Option Val)} (h : BndX kp xb (a :: r)) (hW : okWs (a :: r)) : ∀ (k i : Nat) (B : List UInt8), (a :: r).length - i = k → i ≤ (a :: r).length → B.length + 4097 * k ≤ 90000000000000 →
    LoopN lp 2 (loopNo lf21 0) (tl 0 66 [(0, (.ptr 0 0 0)), (3, (.sl (bs B) 2 (List.length B))), (4, (.p (.int .i64 (i : Int))))]) (xS 1 kp xb (a :: r) ++ [.spare 1 (List.length B)])
      (.exit 0, tl 0 66 [(3, (.sl (bs (B ++ codeE ((a :: r).drop (max i (frX kp xb (a :: r)))))) 2 (List.length (B ++ codeE ((a :: r).drop (max i (frX kp xb (a :: r))))))))], xS 1 kp xb (a :: r) ++ [.spare 1 (List.length (B ++ codeE ((a :: r).drop (max i (frX kp xb (a :: r))))))]) := by
  intro k
  induction k with
  | zero =>
    intro i B h1 h2 h3
    have e : B ++ codeE ((a :: r).drop (max i (frX kp xb (a :: r)))) = B := by rw [List.drop_eq_nil_of_le (by omega)]; simp [codeE]
    rw [e]
    exact xCodeR_n (by rw [rowsE_len]; exact decide_eq_false (by omega))
  | succ k ih =>
    intro i B h1 h2 h3
    have hi : i < (a :: r).length := by omega
    have hk := xKnR (i := IntKind.wrap .i64 (IntKind.wrap .i64 (xb + 1) + (i : Int))) h
    have hg := frX_ge h hi
    have hlt : decide ((i : Int) < ((List.length (rowsE (a :: r)) : Nat) : Int)) = true := by rw [rowsE_len]; exact decide_eq_true (by omega)
    have hlm := h.l1
    by_cases hf : frX kp xb (a :: r) ≤ i
    · rw [decide_eq_true hf] at hg
      have e1 : max i (frX kp xb (a :: r)) = i := by omega
      have e2 : max (i + 1) (frX kp xb (a :: r)) = i + 1 := by omega
      have e : B ++ codeE ((a :: r).drop i) = (B ++ encE (ringAt (a :: r) i)) ++ codeE ((a :: r).drop (i + 1)) := by
        rw [List.drop_eq_getElem_cons hi]
        have : (a :: r)[i] = ringAt (a :: r) i := by rw [ringAt, List.getD, List.getElem?_eq_getElem hi]; rfl
        rw [this]; simp [codeE]
      rw [e1, e]
      cases hs : (ringAt (a :: r) i).isSome with
      | true =>
        obtain ⟨q1, q2⟩ := okAt hW hs
        have hl := code_small q1.2.1 q1.2.2
        have hp := rEnc _ q1.1 (check_ok q1.2.1).1 (by omega)
        rw [encV_fx] at hp
        have hr := ih (i + 1) (B ++ encE (ringAt (a :: r) i)) (by omega) (by omega) (by rw [q2]; simp only [encE, List.length_append, List.length_cons]; omega)
        have e3 : B ++ encE (ringAt (a :: r) i) = B ++ [1] ++ encC ((ringAt (a :: r) i).getD zeroV) := by rw [q2]; simp [encE]
        rw [e2, e3] at hr
        rw [e3]
        refine xCodeR_yyy (L := a :: r) hlt hk hg hs hi (by simp; omega) (by rw [eta_val]; exact hp) (by rw [eta_val]; simp; omega) ?_
        rw [eta_val, nx (by omega)]; exact hr
      | false =>
        have q2 : ringAt (a :: r) i = none := by simpa using hs
        have hr := ih (i + 1) (B ++ encE (ringAt (a :: r) i)) (by omega) (by omega) (by rw [q2]; simp only [encE, List.length_append, List.length_cons, List.length_nil]; omega)
        have e3 : B ++ encE (ringAt (a :: r) i) = B ++ [0] := by rw [q2]; simp [encE]
        rw [e2, e3] at hr
        rw [e3]
        refine xCodeR_yyn (L := a :: r) hlt hk hg hs hi (by simp; omega) ?_
        rw [nx (by omega)]; exact hr
    · rw [decide_eq_false hf] at hg
      have e1 : max i (frX kp xb (a :: r)) = frX kp xb (a :: r) := by omega
      have e2 : max (i + 1) (frX kp xb (a :: r)) = frX kp xb (a :: r) := by omega
      have hr := ih (i + 1) B (by omega) (by omega) (by omega)
      rw [e2] at hr
      rw [e1]
      refine xCodeR_yn (L := a :: r) hlt hk hg ?_
      rw [nx (by omega)]; exact hr
def xN (L : List (Option Val)) : Nat := match L with
  | [] => 1
  | _ :: _ => 2
theorem xCodeC {kp xb : Int} {L : List (Option Val)} (h : BndX kp xb L) (hW : okWs L) :
    Runs lp 21 [.ptr 0 0 0] (xS 1 kp xb L) (.sl (bs (codeX kp xb L)) (xN L) (codeX kp xb L).length, xS 1 kp xb L ++ [.spare 1 (codeX kp xb L).length]) := by
  obtain ⟨b0, b1⟩ := topX_bnd h
  have hk0 := h.k0; have hk1 := h.k1; have hx0 := h.b0; have hx1 := h.b1; have hlm := h.l1
  have w1 : Runs lp 43 [.p (.int .i64 kp)] [] (.sl (bs (vcode (Int.toNat kp))) 0 (vcode (Int.toNat kp)).length, [.spare 1 (vcode (Int.toNat kp)).length]) := by
    have := rcount_runs (n := Int.toNat kp) (by omega); rwa [Int.toNat_of_nonneg hk0] at this
  have w2 : Runs lp 43 [.p (.int .i64 xb)] [] (.sl (bs (vcode (Int.toNat xb))) 0 (vcode (Int.toNat xb)).length, [.spare 1 (vcode (Int.toNat xb)).length]) := by
    have := rcount_runs (n := Int.toNat xb) (by omega); rwa [Int.toNat_of_nonneg hx0] at this
  have w3 : Runs lp 43 [.p (.int .i64 (topX xb L))] [] (.sl (bs (vcode (Int.toNat (topX xb L)))) 0 (vcode (Int.toNat (topX xb L))).length, [.spare 1 (vcode (Int.toNat (topX xb L))).length]) := by
    have := rcount_runs (n := Int.toNat (topX xb L)) (by omega); rwa [Int.toNat_of_nonneg b0] at this
  have l1 := vcode_len9 (n := kp) (by omega) (by omega)
  have l2 := vcode_len9 (n := xb) (by omega) (by omega)
  have l3 := vcode_len9 (n := topX xb L) (by omega) (by omega)
  have ht := xTopR h
  cases L with
  | nil =>
    have e : codeX kp xb [] = vcode (Int.toNat kp) ++ vcode (Int.toNat xb) ++ vcode (Int.toNat (topX xb [])) := by simp [codeX, codeE]
    rw [e]
    exact xCode0 w1 w2 (by omega) ht w3 (by simp only [List.length_append]; omega) (xCodeZ)
  | cons a r =>
    have hl := xCodeL h hW (a :: r).length 0 (vcode (Int.toNat kp) ++ vcode (Int.toNat xb) ++ vcode (Int.toNat (topX xb (a :: r)))) (by omega) (by omega) (by simp only [List.length_append]; omega)
    rw [show max 0 (frX kp xb (a :: r)) = frX kp xb (a :: r) by omega] at hl
    exact xCode1 w1 w2 (by omega) ht w3 (by simp only [List.length_append]; omega) hl
theorem vcode_ne0 (u : Nat) : vcode u ≠ [] := fun h => by have := vcode_pos u; rw [h] at this; simp at this
theorem pCodeC {kp b t : Int} {R : List (Option Val)} (hk : 0 ≤ kp ∧ kp ≤ 64) (hR : R.length = Int.toNat kp) (hW : okWs R) (hb : 0 ≤ b ∧ b ≤ t) (ht : t ≤ 1000000000000000) :
    Runs lp 17 [.ptr 0 0 0] [imO kp b t, .row (ringS R)] (.sl (bs (codeM kp b t R)) 2 (codeM kp b t R).length, [imO kp b t, .row (ringS R), .spare 1 (codeM kp b t R).length]) := by
  have w1 : Runs lp 36 [.p (.int .i64 kp)] [] (.tup [.sl (bs (vcode (Int.toNat kp))) 0 (vcode (Int.toNat kp)).length, .p (.int .i64 0)], [.spare 1 (vcode (Int.toNat kp)).length]) := by
    have := count_runs (n := Int.toNat kp) (by omega); rwa [Int.toNat_of_nonneg (by omega)] at this
  have w2 : Runs lp 36 [.p (.int .i64 b)] [] (.tup [.sl (bs (vcode (Int.toNat b))) 0 (vcode (Int.toNat b)).length, .p (.int .i64 0)], [.spare 1 (vcode (Int.toNat b)).length]) := by
    have := count_runs (n := Int.toNat b) (by omega); rwa [Int.toNat_of_nonneg (by omega)] at this
  have w3 : Runs lp 36 [.p (.int .i64 t)] [] (.tup [.sl (bs (vcode (Int.toNat t))) 0 (vcode (Int.toNat t)).length, .p (.int .i64 0)], [.spare 1 (vcode (Int.toNat t)).length]) := by
    have := count_runs (n := Int.toNat t) (by omega); rwa [Int.toNat_of_nonneg (by omega)] at this
  have l1 := vcode_len9 (n := kp) (by omega) (by omega)
  have l2 := vcode_len9 (n := b) (by omega) (by omega)
  have l3 := vcode_len9 (n := t) (by omega) (by omega)
  have hl := leastR (R := R) hk ⟨hb.1, by omega⟩ ⟨by omega, ht⟩
  have hle : leastI kp b t ≤ t + 1 ∧ t + 1 - leastI kp b t ≤ 64 ∧ 0 ≤ leastI kp b t := by unfold leastI; split <;> omega
  have hL := pCodeL hk hR hW hb.1 ht (t + 1 - leastI kp b t).toNat (leastI kp b t) (vcode (Int.toNat kp) ++ vcode (Int.toNat b) ++ vcode (Int.toNat t)) hle.2.2 (Int.le_refl _) (by omega) (by simp [vcode_ne0]) (by simp only [List.length_append]; omega)
  exact pCode1 (vcode_ne0 _) (by omega) w1 (by omega) w2 (by simp only [List.length_append]; omega) w3 hl hL
end Go.Proofs.Ytmbjojnldbeicaa
