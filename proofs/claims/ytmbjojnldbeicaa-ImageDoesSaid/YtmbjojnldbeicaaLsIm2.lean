import Derived.Test.YtmbjojnldbeicaaLsIm3W
set_option linter.unusedVariables false
set_option linter.unusedSimpArgs false
set_option maxRecDepth 100000
namespace Go.Proofs.Ytmbjojnldbeicaa
open Go Go.LS
abbrev imZ (b t : Int) : LObj := .row [[.p (.int .i64 0), .tight [], .p (.int .i64 b), .p (.int .i64 t)]]
def mS (f : Bool) (kp b t : Int) (R : List (Option Val)) : List LObj := match f with
 | true => [imO kp b t, .row (Aa R)]
 | false => [imZ b t]
def xS (o : Nat) (kp xb : Int) : List (Option Val) → List LObj
 | [] => [.row [[.p (.int .i64 kp), .p (.int .i64 xb), .tight []]]]
 | a :: r => [.row [[.p (.int .i64 kp), .p (.int .i64 xb), .sl (Ai (a :: r)) o (List.length (Ai (a :: r)))]], .spare 6 (List.length (Ai (a :: r)))]
structure V7 (kp xb : Int) (L : List (Option Val)) : Prop where
 k0 : 0 ≤ kp
 k1 : kp ≤ 64
 b0 : 0 ≤ xb
 b1 : xb ≤ 500000000000000
 l1 : L.length ≤ 1000000
 oks : ∀ v, some v ∈ L → okV v
theorem topW {kp xb : Int} {L : List (Option Val)} (h : V7 kp xb L) : IntKind.wrap .i64 (xb + ((List.length (Ai L) : Nat) : Int)) = A5 xb L := by
 obtain ⟨a, b, c, d, e, _⟩ := h
 rw [Gy, A9 (by omega) (by omega)]; rfl
theorem D8 {kp xb : Int} {L : List (Option Val)} (h : V7 kp xb L) : 0 ≤ A5 xb L ∧ A5 xb L ≤ 1000000000000000 := by
 obtain ⟨a, b, c, d, e, _⟩ := h
 unfold A5; omega
theorem C2 {kp xb : Int} {L : List (Option Val)} (h : V7 kp xb L) : Runs lp 12 [.ptr 0 0 0] (xS 1 kp xb L) (.p (.int .i64 (A5 xb L)), xS 1 kp xb L) := by
 have hw := topW h
 cases L with
 | nil => exact ifE xTop0 (by rw [show (xb + 0 : Int) = xb + ((List.length (Ai []) : Nat) : Int) from rfl, hw]; rfl)
 | cons a r => exact ifE xTop1 (by rw [hw]; rfl)
theorem xKnR {kp xb i : Int} {L : List (Option Val)} (h : V7 kp xb L) : Runs lp 44 [.ptr 0 0 0, .p (.int .i64 i)] (xS 1 kp xb L) (.p (.bool (Dm kp xb L i)), xS 1 kp xb L) := by
 have ht := C2 h
 obtain ⟨b0, b1⟩ := D8 h
 have hk := h.k1
 have hk0 := h.k0
 have hw : IntKind.wrap .i64 (A5 xb L - kp) = A5 xb L - kp := A9 (by omega) (by omega)
 have fin : ∀ st : List LObj, (if (decide (i > xb)) = true then (if (decide (i ≤ A5 xb L)) = true then ((LV.p (.bool (decide (i > IntKind.wrap .i64 (A5 xb L - kp)))), st) : LV × List LObj) else (.p (.bool false), st)) else (.p (.bool false), st)) = (.p (.bool (Dm kp xb L i)), st) := fun st => by
  rw [hw]; unfold Dm
  cases decide (i > xb) <;> cases decide (i ≤ A5 xb L) <;> rfl
 cases L with
 | nil => exact ifE (xKn0 (fun _ => ht)) (fin _)
 | cons a r => exact ifE (xKn1 (fun _ => ht)) (fin _)
theorem Mk {kp xb i : Int} {L : List (Option Val)} (h : V7 kp xb L) :
  Runs lp 42 [.ptr 0 0 0, .p (.int .i64 i)] (xS 1 kp xb L) (.tup [fx (Ay kp xb L i).1, .p (.int .i64 (Ay kp xb L i).2.1), .p (.int .i64 (Ay kp xb L i).2.2)], xS 1 kp xb L) := by
 have ht := C2 h
 have hk := xKnR (i := i) h
 obtain ⟨b0, b1⟩ := D8 h
 cases L with
 | nil =>
  have hn : decide (i > A5 xb ([] : List (Option Val))) = false → Dm kp xb ([] : List (Option Val)) i = false := fun a => by
   have a := of_decide_eq_false a
   simp [A5] at a
   unfold Dm A5; simp; intro _ _; omega
  refine ifE (xGet0 (fun _ => ht) (fun _ b => hn b) (fun _ _ => hk)) ?_
  unfold Ay
  by_cases h1 : i < 1
  ·simp [h1, A4, kV, nV, sV, iV, mV, Ad, Ak]; rfl
  ·by_cases h2 : i > A5 xb ([] : List (Option Val))
   ·simp [h1, h2, A4, kV, nV, sV, iV, mV, Ad, Ak]; rfl
   ·have h12 : ¬ (i < 1 ∨ i > A5 xb ([] : List (Option Val))) := by omega
    rw [if_neg h12, if_pos (hn (decide_eq_false h2)), decide_eq_false h1, decide_eq_false h2]; rfl
 | cons a r =>
  have hb1 := h.b1; have hb0 := h.b0; have hl := h.l1
  have key : decide (i < 1) = false → decide (i > A5 xb (a :: r)) = false → Dm kp xb (a :: r) i = true → IntKind.wrap .i64 (IntKind.wrap .i64 (i - xb) - 1) = ((Int.toNat (i - xb - 1) : Nat) : Int) ∧ Int.toNat (i - xb - 1) < (a :: r).length := fun x y z => by
   have x := of_decide_eq_false x; have y := of_decide_eq_false y
   unfold Dm at z
   simp only [Bool.and_eq_true, decide_eq_true_eq] at z
   obtain ⟨z1, z2, z3⟩ := z
   rw [A9 (n := i - xb) (by omega) (by omega), A9 (by omega) (by omega)]
   unfold A5 at z2
   omega
  refine ifE (xGet1 (L := a :: r) (fun _ => ht) (fun _ _ => hk) (fun x y z => (key x y z).1) (fun x y z _ => (key x y z).2) (fun x y z _ => (key x y z).2)) ?_
  unfold Ay
  by_cases h1 : i < 1
  ·simp [h1, A4, kV, nV, sV, iV, mV, Ad, Ak]; rfl
  ·by_cases h2 : i > A5 xb (a :: r)
   ·simp [h1, h2, A4, kV, nV, sV, iV, mV, Ad, Ak]; rfl
   ·have h12 : ¬ (i < 1 ∨ i > A5 xb (a :: r)) := by omega
    rw [if_neg h12, decide_eq_false h1, decide_eq_false h2]
    cases h3 : Dm kp xb (a :: r) i with
    | false => rfl
    | true =>
     cases hq : Au (a :: r) (Int.toNat (i - xb - 1)) with
     | none => rfl
     | some v => rfl
theorem M6 {kp : Int} {R : List (Option Val)} (h : R.length = Int.toNat kp) (h0 : 0 < kp) (h1 : kp ≤ 64) : Runs lp 35 [.rs 0 0 (Int.toNat kp)] [.row (Aa R)] (.rs 1 0 (Int.toNat kp), [.row (Aa R), .row (Aa R)]) :=
 clRA h.symm (by omega) (by omega)
theorem Dn {n : Int} (h : 0 ≤ n) (h1 : n ≤ 1000000000000000000) : (Ab (Int.toNat n)).length ≤ 10 := Ef _ (by omega)
def okW (v : Val) : Prop := okV v ∧ Bp v = 0 ∧ B8 v = Ck v
def Dw (L : List (Option Val)) : Prop := ∀ v, some v ∈ L → okW v
theorem encE_len {o : Option Val} (h : ∀ v, o = some v → okW v) : (Jq o).length ≤ 4097 := by
 cases o with
 | none => simp [Jq]
 | some v =>
  obtain ⟨h1, h2, h3⟩ := h v rfl
  have := Jo h2 h3
  simp only [Jq, List.length_cons]; omega
theorem Y4 {L : List (Option Val)} (h : Dw L) : (Da L).length ≤ 4097 * L.length := by
 induction L with
 | nil => simp [Da]
 | cons a r ih =>
  have h1 := encE_len (o := a) (fun v e => h v (by rw [e]; exact List.mem_cons_self))
  have h2 := ih (fun v hv => h v (List.mem_cons_of_mem _ hv))
  simp only [Da, List.map_cons, List.flatten_cons, List.length_append, List.length_cons] at h2 ⊢
  omega
theorem putV {v : Val} (h : okW v) {L : List UInt8} (hne : L ≠ []) (hl : L.length ≤ 100000000000000) : Runs lp 38 [.p (.sl (bs L)), Es v] [] (.sl (bs (L ++ Bu v)) 0 (L ++ Bu v).length, [.spare 1 (L ++ Bu v).length]) := by
 obtain ⟨h1, h2, h3⟩ := h
 have hm := Oj h2
 have hs := Jo h2 h3
 have hcl : Runs lp 57 [.p (.sl (bs L))] [] (.sl (bs L) 0 (List.length L), [.spare 1 (List.length L)]) := by
  have := vClB (L := L) hne (by simp; omega)
  simpa using this
 have hc := Qi v h1 (by omega)
 have hp := vPut v h1 hm.1 L (by omega)
 obtain ⟨k, n, s, is, ns⟩ := v
 refine ifE (vPuA hne hcl hc (fun _ => hp)) ?_
 rw [h2]; rfl
theorem Xm (v : Val) : Val.mk (kV v) (nV v) (sV v) (iV v) (mV v) = v := by obtain ⟨_, _, _, _, _⟩ := v; rfl
theorem okAt {L : List (Option Val)} (h : Dw L) {k : Nat} (hs : (Au L k).isSome = true) : okW ((Au L k).getD A4) ∧ Au L k = some ((Au L k).getD A4) := by
 cases hq : Au L k with
 | none => rw [hq] at hs; cases hs
 | some v =>
  refine ⟨?_, rfl⟩
  unfold Au at hq
  rw [List.getD] at hq
  cases hx : L[k]? with
  | none => rw [hx] at hq; cases hq
  | some o => rw [hx] at hq; simp at hq; subst hq; exact h v (List.mem_of_getElem? hx)
theorem pCodeL {kp b t : Int} {R : List (Option Val)} (hk : 0 ≤ kp ∧ kp ≤ 64) (hR : R.length = Int.toNat kp) (hW : Dw R) (hb : 0 ≤ b) (ht : t ≤ 1000000000000000) : ∀ (j : Nat) (i : Int) (B : List UInt8), 0 ≤ i → Bi kp b t ≤ i → i + j = t + 1 → B ≠ [] → B.length + 4097 * j ≤ 90000000000000 →
  LoopN lp 2 (Ae Em 1) (tl 0 71 [(0, (.ptr 0 0 0)), (3, (.sl (bs B) 2 (List.length B))), (8, .p (.int .i64 i))]) [imO kp b t, .row (Aa R), .spare 1 (List.length B)]
   (.exit 2, tl 0 71 [(3, (.sl (bs (B ++ Da (F8 kp R i j))) 2 (List.length (B ++ Da (F8 kp R i j)))))], [imO kp b t, .row (Aa R), .spare 1 (List.length (B ++ Da (F8 kp R i j)))]) := by
 intro j
 induction j with
 | zero =>
  intro i B h0 h1 h2 h3 h4
  have e : B ++ Da (F8 kp R i 0) = B := by simp [F8, Da]
  rw [e]
  exact pCodeR_n (decide_eq_false (by omega))
 | succ j ih =>
  intro i B h0 h1 h2 h3 h4
  have hkp : 0 < kp := by unfold Bi at h1; split at h1 <;> omega
  obtain ⟨p1, p2⟩ := F1 h0 hkp
  have hw : IntKind.wrap .i64 (i + 1) = i + 1 := A9 (by omega) (by omega)
  have e : ∀ o, o = Au R (Int.toNat (Int.tmod i kp)) → B ++ Da (F8 kp R i (j + 1)) = (B ++ Jq o) ++ Da (F8 kp R (i + 1) j) := fun o ho => by
   rw [F8, ho]; simp [Da]
  cases hs : (Au R (Int.toNat (Int.tmod i kp))).isSome with
  | true =>
   obtain ⟨q1, q2⟩ := okAt hW hs
   have hp := putV q1 (L := B ++ [1]) (by simp) (by simp; omega)
   have hl := Jo q1.2.1 q1.2.2
   rw [e _ q2.symm]
   have h := ih (i + 1) (B ++ Jq (some ((Au R (Int.toNat (Int.tmod i kp))).getD A4))) (by omega) (by omega) (by omega) (by simp [h3]) (by simp only [Jq, List.length_append, List.length_cons]; omega)
   have e2 : B ++ Jq (some ((Au R (Int.toNat (Int.tmod i kp))).getD A4)) = B ++ [1] ++ Bu ((Au R (Int.toNat (Int.tmod i kp))).getD A4) := by simp [Jq]
   rw [e2] at h ⊢
   rw [Ks] at hp
   refine Yx (decide_eq_true (by omega)) (by omega) p1 p2 (by rw [hR]; exact p2) hs (by simp; omega) (by rw [Xm]; exact hp) ?_
   rw [Xm, hw]; exact h
  | false =>
   have q2 : Au R (Int.toNat (Int.tmod i kp)) = none := by simpa using hs
   rw [e _ q2.symm]
   have h := ih (i + 1) (B ++ Jq none) (by omega) (by omega) (by omega) (by simp [h3]) (by simp only [Jq, List.length_append, List.length_cons, List.length_nil]; omega)
   refine Yy (decide_eq_true (by omega)) (by omega) p1 p2 (by rw [hR]; exact p2) hs (by simp; omega) ?_
   rw [hw]; exact h
end Go.Proofs.Ytmbjojnldbeicaa
