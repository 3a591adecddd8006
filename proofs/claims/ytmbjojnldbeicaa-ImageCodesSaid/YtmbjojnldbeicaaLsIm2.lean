import Derived.Test.YtmbjojnldbeicaaLsIm3W
set_option linter.unusedVariables false
set_option linter.unusedSimpArgs false
set_option maxRecDepth 100000
namespace Go.Proofs.Ytmbjojnldbeicaa
open Go Go.LS
abbrev imZ (b t : Int) : LObj := .row [[.p (.int .i64 0), .tight [], .p (.int .i64 b), .p (.int .i64 t)]]
def mS (f : Bool) (kp b t : Int) (R : List (Option Val)) : List LObj := match f with
  | true => [imO kp b t, .row (ringS R)]
  | false => [imZ b t]
def xS (o : Nat) (kp xb : Int) : List (Option Val) → List LObj
  | [] => [.row [[.p (.int .i64 kp), .p (.int .i64 xb), .tight []]]]
  | a :: r => [.row [[.p (.int .i64 kp), .p (.int .i64 xb), .sl (rowsE (a :: r)) o (List.length (rowsE (a :: r)))]], .spare 6 (List.length (rowsE (a :: r)))]
structure BndX (kp xb : Int) (L : List (Option Val)) : Prop where
  k0 : 0 ≤ kp
  k1 : kp ≤ 64
  b0 : 0 ≤ xb
  b1 : xb ≤ 500000000000000
  l1 : L.length ≤ 1000000
  oks : ∀ v, some v ∈ L → okV v
theorem topW {kp xb : Int} {L : List (Option Val)} (h : BndX kp xb L) : IntKind.wrap .i64 (xb + ((List.length (rowsE L) : Nat) : Int)) = topX xb L := by
  obtain ⟨a, b, c, d, e, _⟩ := h
  rw [rowsE_len, wrap_i64 (by omega) (by omega)]; rfl
theorem topX_bnd {kp xb : Int} {L : List (Option Val)} (h : BndX kp xb L) : 0 ≤ topX xb L ∧ topX xb L ≤ 1000000000000000 := by
  obtain ⟨a, b, c, d, e, _⟩ := h
  unfold topX; omega
theorem xTopR {kp xb : Int} {L : List (Option Val)} (h : BndX kp xb L) : Runs lp 12 [.ptr 0 0 0] (xS 1 kp xb L) (.p (.int .i64 (topX xb L)), xS 1 kp xb L) := by
  have hw := topW h
  cases L with
  | nil => exact ifE xTop0 (by rw [show (xb + 0 : Int) = xb + ((List.length (rowsE []) : Nat) : Int) from rfl, hw]; rfl)
  | cons a r => exact ifE xTop1 (by rw [hw]; rfl)
theorem xKnR {kp xb i : Int} {L : List (Option Val)} (h : BndX kp xb L) : Runs lp 44 [.ptr 0 0 0, .p (.int .i64 i)] (xS 1 kp xb L) (.p (.bool (knownX kp xb L i)), xS 1 kp xb L) := by
  have ht := xTopR h
  obtain ⟨b0, b1⟩ := topX_bnd h
  have hk := h.k1
  have hk0 := h.k0
  have hw : IntKind.wrap .i64 (topX xb L - kp) = topX xb L - kp := wrap_i64 (by omega) (by omega)
  have fin : ∀ st : List LObj, (if (decide (i > xb)) = true then (if (decide (i ≤ topX xb L)) = true then ((LV.p (.bool (decide (i > IntKind.wrap .i64 (topX xb L - kp)))), st) : LV × List LObj) else (.p (.bool false), st)) else (.p (.bool false), st)) = (.p (.bool (knownX kp xb L i)), st) := fun st => by
    rw [hw]; unfold knownX
    cases decide (i > xb) <;> cases decide (i ≤ topX xb L) <;> rfl
  cases L with
  | nil => exact ifE (xKn0 (fun _ => ht)) (fin _)
  | cons a r => exact ifE (xKn1 (fun _ => ht)) (fin _)
theorem vcode_len9 {n : Int} (h : 0 ≤ n) (h1 : n ≤ 1000000000000000000) : (vcode (Int.toNat n)).length ≤ 10 := vcode_len _ (by omega)
def okW (v : Val) : Prop := okV v ∧ checkV v = 0 ∧ sizeW v = sizeV v
def okWs (L : List (Option Val)) : Prop := ∀ v, some v ∈ L → okW v
theorem putV {v : Val} (h : okW v) {L : List UInt8} (hne : L ≠ []) (hl : L.length ≤ 100000000000000) : Runs lp 38 [.p (.sl (bs L)), encV v] [] (.sl (bs (L ++ encC v)) 0 (L ++ encC v).length, [.spare 1 (L ++ encC v).length]) := by
  obtain ⟨h1, h2, h3⟩ := h
  have hm := check_ok h2
  have hs := code_small h2 h3
  have hcl : Runs lp 57 [.p (.sl (bs L))] [] (.sl (bs L) 0 (List.length L), [.spare 1 (List.length L)]) := by
    have := vClB (L := L) hne (by simp; omega)
    simpa using this
  have hc := vCheck v h1 (by omega)
  have hp := vPut v h1 hm.1 L (by omega)
  obtain ⟨k, n, s, is, ns⟩ := v
  refine ifE (vPuA hne hcl hc (fun _ => hp)) ?_
  rw [h2]; rfl
theorem eta_val (v : Val) : Val.mk (kV v) (nV v) (sV v) (iV v) (mV v) = v := by obtain ⟨_, _, _, _, _⟩ := v; rfl
theorem okAt {L : List (Option Val)} (h : okWs L) {k : Nat} (hs : (ringAt L k).isSome = true) : okW ((ringAt L k).getD zeroV) ∧ ringAt L k = some ((ringAt L k).getD zeroV) := by
  cases hq : ringAt L k with
  | none => rw [hq] at hs; cases hs
  | some v =>
    refine ⟨?_, rfl⟩
    unfold ringAt at hq
    rw [List.getD] at hq
    cases hx : L[k]? with
    | none => rw [hx] at hq; cases hq
    | some o => rw [hx] at hq; simp at hq; subst hq; exact h v (List.mem_of_getElem? hx)
theorem pCodeL {kp b t : Int} {R : List (Option Val)} (hk : 0 ≤ kp ∧ kp ≤ 64) (hR : R.length = Int.toNat kp) (hW : okWs R) (hb : 0 ≤ b) (ht : t ≤ 1000000000000000) : ∀ (j : Nat) (i : Int) (B : List UInt8), 0 ≤ i → leastI kp b t ≤ i → i + j = t + 1 → B ≠ [] → B.length + 4097 * j ≤ 90000000000000 →
    LoopN lp 2 (loopNo lf17 1) (tl 0 71 [(0, (.ptr 0 0 0)), (3, (.sl (bs B) 2 (List.length B))), (8, .p (.int .i64 i))]) [imO kp b t, .row (ringS R), .spare 1 (List.length B)]
      (.exit 2, tl 0 71 [(3, (.sl (bs (B ++ codeE (ringL kp R i j))) 2 (List.length (B ++ codeE (ringL kp R i j)))))], [imO kp b t, .row (ringS R), .spare 1 (List.length (B ++ codeE (ringL kp R i j)))]) := by
  intro j
  induction j with
  | zero =>
    intro i B h0 h1 h2 h3 h4
    have e : B ++ codeE (ringL kp R i 0) = B := by simp [ringL, codeE]
    rw [e]
    exact pCodeR_n (decide_eq_false (by omega))
  | succ j ih =>
    intro i B h0 h1 h2 h3 h4
    have hkp : 0 < kp := by unfold leastI at h1; split at h1 <;> omega
    obtain ⟨p1, p2⟩ := tmod_place h0 hkp
    have hw : IntKind.wrap .i64 (i + 1) = i + 1 := wrap_i64 (by omega) (by omega)
    have e : ∀ o, o = ringAt R (Int.toNat (Int.tmod i kp)) → B ++ codeE (ringL kp R i (j + 1)) = (B ++ encE o) ++ codeE (ringL kp R (i + 1) j) := fun o ho => by
      rw [ringL, ho]; simp [codeE]
    cases hs : (ringAt R (Int.toNat (Int.tmod i kp))).isSome with
    | true =>
      obtain ⟨q1, q2⟩ := okAt hW hs
      have hp := putV q1 (L := B ++ [1]) (by simp) (by simp; omega)
      have hl := code_small q1.2.1 q1.2.2
      rw [e _ q2.symm]
      have h := ih (i + 1) (B ++ encE (some ((ringAt R (Int.toNat (Int.tmod i kp))).getD zeroV))) (by omega) (by omega) (by omega) (by simp [h3]) (by simp only [encE, List.length_append, List.length_cons]; omega)
      have e2 : B ++ encE (some ((ringAt R (Int.toNat (Int.tmod i kp))).getD zeroV)) = B ++ [1] ++ encC ((ringAt R (Int.toNat (Int.tmod i kp))).getD zeroV) := by simp [encE]
      rw [e2] at h ⊢
      rw [encV_fx] at hp
      refine pCodeR_yy (decide_eq_true (by omega)) (by omega) p1 p2 (by rw [hR]; exact p2) hs (by simp; omega) (by rw [eta_val]; exact hp) ?_
      rw [eta_val, hw]; exact h
    | false =>
      have q2 : ringAt R (Int.toNat (Int.tmod i kp)) = none := by simpa using hs
      rw [e _ q2.symm]
      have h := ih (i + 1) (B ++ encE none) (by omega) (by omega) (by omega) (by simp [h3]) (by simp only [encE, List.length_append, List.length_cons, List.length_nil]; omega)
      refine pCodeR_yn (decide_eq_true (by omega)) (by omega) p1 p2 (by rw [hR]; exact p2) hs (by simp; omega) ?_
      rw [hw]; exact h
end Go.Proofs.Ytmbjojnldbeicaa
