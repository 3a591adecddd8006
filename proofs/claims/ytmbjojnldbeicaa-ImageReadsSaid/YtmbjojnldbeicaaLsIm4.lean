import Derived.Test.YtmbjojnldbeicaaLsIm2
set_option linter.unusedVariables false
set_option linter.unusedSimpArgs false
set_option maxRecDepth 100000
namespace Go.Proofs.Ytmbjojnldbeicaa
open Go Go.LS
theorem Kg (x : Src) (m : Int) : 0 ≤ (Aa x m).1 := by
 unfold Aa; split <;> simp <;> omega
theorem Kh (x : Src) (m : Int) (h : 0 ≤ m) : (Aa x m).1 ≤ m := (F7 x m h).1
def rdF : Nat → Src → List (Option Val) × Src
 | 0, x => ([], x)
 | n + 1, x => if x.2 = true then ([], x) else ((rdE x).1 :: (rdF n (rdE x).2).1, (rdF n (rdE x).2).2)
theorem X8 : ∀ (n : Nat) (L : List (Option Val)) (x : Src), rdN n L x = (L ++ (rdF n x).1, (rdF n x).2)
 | 0, L, x => by simp [rdN, rdF]
 | n + 1, L, x => by
  unfold rdN rdF
  by_cases h : x.2 = true
  ·simp [h]
  ·rw [if_neg h, if_neg h, X8 n]; simp
theorem X9 (x : Src) (hx : x.1.length ≤ 140737488355328) : (rdE x).2.1.length ≤ x.1.length := by
 have h := Dr x
 unfold rdE
 split
 ·exact h
 ·split
  ·exact Nat.le_trans (X0 _ (by omega)) h
  ·exact h
theorem S0 (x : Src) : ∀ v, (rdE x).1 = some v → okV v := by
 intro v hv
 unfold rdE at hv
 split at hv
 ·cases hv
 ·split at hv
  ·cases hv; exact (X1 _).1
  ·cases hv
theorem Ya : ∀ (n : Nat) (x : Src) v, some v ∈ (rdF n x).1 → okV v
 | 0, x, v, h => by simp [rdF] at h
 | n + 1, x, v, h => by
  unfold rdF at h
  split at h
  ·simp at h
  ·rcases List.mem_cons.1 h with h | h
   ·exact S0 x v h.symm
   ·exact Ya n _ v h
theorem T7 : ∀ (n : Nat) (x : Src), (rdF n x).1.length ≤ n ∧ ((rdF n x).2.2 = false → (rdF n x).1.length = n)
 | 0, x => by simp [rdF]
 | n + 1, x => by
  unfold rdF
  have h := T7 n (rdE x).2
  split
  ·rename_i hb; exact ⟨Nat.zero_le _, fun h => by simp only at h; rw [hb] at h; cases h⟩
  ·refine ⟨by simp only [List.length_cons]; omega, fun hh => ?_⟩
   simp only [List.length_cons, h.2 hh]
theorem rd8x (x : Src) (hx : x.1.length ≤ 140737488355328) : Runs lp 62 [.ptr 0 0 0] (sto x) (fx (A5 x).1, sto (A5 x).2) := by
 have := vRd8 x hx
 rw [Jj] at this; exact this
theorem rr8x (x : Src) (hx : x.1.length ≤ 140737488355328) : Runs lp 48 [.ptr 0 0 0] (sto x) (fx (A5 x).1, sto (A5 x).2) := by
 have := rRd8 x hx
 rw [Jj] at this; exact this
theorem rdOneN {x : Src} (hx : x.1.length ≤ 140737488355328) (h : (rdE x).1.isSome = false) : Runs lp 41 [.ptr 0 0 0] (sto x) (.agg [.p (.bool false), .p (.int .i64 0), .p (.int .i64 0), .p (.str []), .tight [], .tight []], sto (rdE x).2) := by
 have hb := Dr x
 refine ifE (rd1 (xv := x) (fun _ _ => rd8x _ (by omega))) ?_
 unfold rdE at h ⊢
 by_cases e0 : (Ab x).1 = 0
 ·rw [if_pos (by simpa using e0), if_pos e0]
 ·rw [if_neg (by simpa using e0)]
  rw [if_neg e0] at h
  by_cases e1 : (Ab x).1 = 1
  ·rw [if_pos e1] at h; cases h
  ·rw [if_neg (by simpa using e1), if_neg e0, if_neg e1]
theorem rdOneV {x : Src} (hx : x.1.length ≤ 140737488355328) (h : (rdE x).1.isSome = true) : Runs lp 41 [.ptr 0 0 0] (sto x) (.agg [.p (.bool true), .p (.int .i64 (kV ((rdE x).1.getD Au))), .p (.int .i64 (nV ((rdE x).1.getD Au))), .p (.str (sV ((rdE x).1.getD Au))), .p (.sl (Ad (iV ((rdE x).1.getD Au)))), .p (.sl (Af (mV ((rdE x).1.getD Au))))], sto (rdE x).2) := by
 have hb := Dr x
 refine ifE (rd1 (xv := x) (fun _ _ => rd8x _ (by omega))) ?_
 unfold rdE at h ⊢
 by_cases e0 : (Ab x).1 = 0
 ·rw [if_pos e0] at h; cases h
 ·rw [if_neg (by simpa using e0)]
  rw [if_neg e0] at h
  by_cases e1 : (Ab x).1 = 1
  ·rw [if_pos (by simpa using e1), if_neg e0, if_pos e1]; rfl
  ·rw [if_neg e1] at h; cases h
theorem Yb (v : Val) : Hc (some v) = [.p (.bool true), .p (.int .i64 (kV v)), .p (.int .i64 (nV v)), .p (.str (sV v)), .p (.sl (Ad (iV v))), .p (.sl (Af (mV v)))] := by obtain ⟨_, _, _, _, _⟩ := v; rfl
theorem pReadL {kp b tt : Int} (hk : kp ≤ 64) (htt : tt ≤ 1000000000000000) : ∀ (n : Nat) (t : Int) (R : List (Option Val)) (x : Src), x.1.length ≤ 140737488355328 → 0 ≤ t → tt = t + n → okR kp R →
  LoopN lp 1 (Ag Lb 0) (tl 0 59 [(0, (.ptr 0 0 0)), (5, .p (.int .i64 tt)), (6, (.ptr 1 0 0))]) [.row [[.p (.sl (bs x.1)), .p (.bool x.2)]], .row [[.p (.int .i64 kp), .rs 2 0 (Int.toNat kp), .p (.int .i64 b), .p (.int .i64 t)]], .row (Ah R)]
   (.exit 0, tl 0 59 [(0, (.ptr 0 0 0)), (6, (.ptr 1 0 0))], [.row [[.p (.sl (bs (rdF n x).2.1)), .p (.bool (rdF n x).2.2)]], .row [[.p (.int .i64 kp), .rs 2 0 (Int.toNat kp), .p (.int .i64 b), .p (.int .i64 (t + (rdF n x).1.length))]], .row (Ah (putAll kp t R (rdF n x).1))]) := by
 intro n
 induction n with
 | zero =>
  intro t R x hx h0 h1 hR
  have e : t + (([] : List (Option Val)).length : Nat) = t := by simp
  simp only [rdF, putAll, e]
  exact X5 (decide_eq_false (by omega))
 | succ n ih =>
  intro t R x hx h0 h1 hR
  rcases x with ⟨xl, bb⟩
  cases bb with
  | true =>
   have e : t + (([] : List (Option Val)).length : Nat) = t := by simp
   simp only [rdF, if_true, putAll, e]
   exact Vi (xv := (xl, true)) (decide_eq_true (by omega)) rfl
  | false =>
   simp only [rdF, Bool.false_eq_true, if_false, putAll, List.length_cons]
   have hle := X9 (xl, false) hx
   have hok := S0 (xl, false)
   have h := ih (t + 1) (E5 kp t R (rdE (xl, false)).1) (rdE (xl, false)).2 (by omega) (by omega) (by omega) (T4 hR hok)
   have e : t + 1 + ((rdF n (rdE (xl, false)).2).1.length : Nat) = t + (((rdF n (rdE (xl, false)).2).1.length + 1 : Nat) : Int) := by omega
   rw [e] at h
   cases hs : (rdE (xl, false)).1.isSome with
   | true =>
    obtain ⟨v, hv⟩ := Option.isSome_iff_exists.1 hs
    have hg : (rdE (xl, false)).1.getD Au = v := by rw [hv]; rfl
    have h1' := rdOneV hx hs
    have h2' := nNote (b := b) (some v) hk ⟨h0, by omega⟩ hR
    rw [Yb] at h2'
    rw [hg] at h1'
    exact Sv (kp := kp) (b := b) (t := t) (tt := tt) (R := R) (xv := (xl, false)) (decide_eq_true (by omega)) rfl hs (by rw [hg]; exact h1') (by rw [hg]; exact h2') (by rw [hg, ← hv]; exact h)
   | false =>
    have hv : (rdE (xl, false)).1 = none := by simpa using hs
    have h1' := rdOneN hx hs
    have h2' := nNote (b := b) none hk ⟨h0, by omega⟩ hR
    rw [hv] at h ⊢
    exact Sw (kp := kp) (b := b) (t := t) (tt := tt) (R := R) (xv := (xl, false)) (decide_eq_true (by omega)) rfl hs h1' h2' h
end Go.Proofs.Ytmbjojnldbeicaa
