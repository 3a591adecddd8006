import Derived.Test.YtmbjojnldbeicaaLsIm2
set_option linter.unusedVariables false
set_option linter.unusedSimpArgs false
set_option maxRecDepth 100000
namespace Go.Proofs.Ytmbjojnldbeicaa
open Go Go.LS
theorem Lq (x : Src) (m : Int) : 0 ≤ (Ac x m).1 := by
 unfold Ac; split <;> simp <;> omega
theorem Lr (x : Src) (m : Int) (h : 0 ≤ m) : (Ac x m).1 ≤ m := (Jn x m h).1
theorem Ls (u : Nat) : Ab u ≠ [] := fun h => by have := Gm u; rw [h] at this; simp at this
theorem pCodeC {kp b t : Int} {R : List (Option Val)} (hk : 0 ≤ kp ∧ kp ≤ 64) (hR : R.length = Int.toNat kp) (hW : Dw R) (hb : 0 ≤ b ∧ b ≤ t) (ht : t ≤ 1000000000000000) :
  Runs lp 17 [.ptr 0 0 0] [imO kp b t, .row (Aa R)] (.sl (bs (Az kp b t R)) 2 (Az kp b t R).length, [imO kp b t, .row (Aa R), .spare 1 (Az kp b t R).length]) := by
 have w1 : Runs lp 36 [.p (.int .i64 kp)] [] (.tup [.sl (bs (Ab (Int.toNat kp))) 0 (Ab (Int.toNat kp)).length, .p (.int .i64 0)], [.spare 1 (Ab (Int.toNat kp)).length]) := by
  have := Dz (n := Int.toNat kp) (by omega); rwa [Int.toNat_of_nonneg (by omega)] at this
 have w2 : Runs lp 36 [.p (.int .i64 b)] [] (.tup [.sl (bs (Ab (Int.toNat b))) 0 (Ab (Int.toNat b)).length, .p (.int .i64 0)], [.spare 1 (Ab (Int.toNat b)).length]) := by
  have := Dz (n := Int.toNat b) (by omega); rwa [Int.toNat_of_nonneg (by omega)] at this
 have w3 : Runs lp 36 [.p (.int .i64 t)] [] (.tup [.sl (bs (Ab (Int.toNat t))) 0 (Ab (Int.toNat t)).length, .p (.int .i64 0)], [.spare 1 (Ab (Int.toNat t)).length]) := by
  have := Dz (n := Int.toNat t) (by omega); rwa [Int.toNat_of_nonneg (by omega)] at this
 have l1 := Dn (n := kp) (by omega) (by omega)
 have l2 := Dn (n := b) (by omega) (by omega)
 have l3 := Dn (n := t) (by omega) (by omega)
 have hl := Vf (R := R) hk ⟨hb.1, by omega⟩ ⟨by omega, ht⟩
 have hle : Bi kp b t ≤ t + 1 ∧ t + 1 - Bi kp b t ≤ 64 ∧ 0 ≤ Bi kp b t := by unfold Bi; split <;> omega
 have hL := pCodeL hk hR hW hb.1 ht (t + 1 - Bi kp b t).toNat (Bi kp b t) (Ab (Int.toNat kp) ++ Ab (Int.toNat b) ++ Ab (Int.toNat t)) hle.2.2 (Int.le_refl _) (by omega) (by simp [Ls]) (by simp only [List.length_append]; omega)
 exact pCode1 (Ls _) (by omega) w1 (by omega) w2 (by simp only [List.length_append]; omega) w3 hl hL
theorem Xn {b t : Int} (hb : 0 ≤ b ∧ b ≤ t) (ht : t ≤ 1000000000000000) : Runs lp 37 [.ptr 0 0 0] [imZ b t] (.p (.int .i64 (Bi 0 b t)), [imZ b t]) := by
 have := zLeast (b := b) (t := t)
 rw [A9 (n := t - 0) (by omega) (by omega), A9 (by split <;> omega) (by split <;> omega)] at this
 exact this
theorem pCodeZ {b t : Int} (hb : 0 ≤ b ∧ b ≤ t) (ht : t ≤ 1000000000000000) :
  Runs lp 17 [.ptr 0 0 0] [imZ b t] (.sl (bs (Az 0 b t [])) 1 (Az 0 b t []).length, [imZ b t, .spare 1 (Az 0 b t []).length]) := by
 have w1 : Runs lp 36 [.p (.int .i64 0)] [] (.tup [.sl (bs (Ab 0)) 0 (Ab 0).length, .p (.int .i64 0)], [.spare 1 (Ab 0).length]) := Dz (n := 0) (by omega)
 have w2 : Runs lp 36 [.p (.int .i64 b)] [] (.tup [.sl (bs (Ab (Int.toNat b))) 0 (Ab (Int.toNat b)).length, .p (.int .i64 0)], [.spare 1 (Ab (Int.toNat b)).length]) := by
  have := Dz (n := Int.toNat b) (by omega); rwa [Int.toNat_of_nonneg (by omega)] at this
 have w3 : Runs lp 36 [.p (.int .i64 t)] [] (.tup [.sl (bs (Ab (Int.toNat t))) 0 (Ab (Int.toNat t)).length, .p (.int .i64 0)], [.spare 1 (Ab (Int.toNat t)).length]) := by
  have := Dz (n := Int.toNat t) (by omega); rwa [Int.toNat_of_nonneg (by omega)] at this
 have l1 := Dn (n := 0) (by omega) (by omega)
 have l2 := Dn (n := b) (by omega) (by omega)
 have l3 := Dn (n := t) (by omega) (by omega)
 have hle : Bi 0 b t = t + 1 := by unfold Bi; split <;> omega
 have e : Az 0 b t [] = Ab 0 ++ Ab (Int.toNat b) ++ Ab (Int.toNat t) := by
  unfold Az; rw [hle, Int.sub_self]; simp [F8, Da]
 rw [e]
 exact zCode1 (Ls _) (by simpa using (show (Ab (Int.toNat 0)).length ≤ 200000000000000 by omega)) w1 (by simp only [show (0 : Int).toNat = 0 from rfl] at l1; omega) w2 (by simp only [show (0 : Int).toNat = 0 from rfl] at l1; simp only [List.length_append]; omega) w3 (Xn hb ht) (zCodeR_n (decide_eq_false (by omega)))
def rdF : Nat → Src → List (Option Val) × Src
 | 0, x => ([], x)
 | n + 1, x => if x.2 = true then ([], x) else ((rdE x).1 :: (rdF n (rdE x).2).1, (rdF n (rdE x).2).2)
theorem rdN_F : ∀ (n : Nat) (L : List (Option Val)) (x : Src), rdN n L x = (L ++ (rdF n x).1, (rdF n x).2)
 | 0, L, x => by simp [rdN, rdF]
 | n + 1, L, x => by
  unfold rdN rdF
  by_cases h : x.2 = true
  ·simp [h]
  ·rw [if_neg h, if_neg h, rdN_F n]; simp
theorem rdE_le (x : Src) (hx : x.1.length ≤ 140737488355328) : (rdE x).2.1.length ≤ x.1.length := by
 have h := F0 x
 unfold rdE
 split
 ·exact h
 ·split
  ·exact Nat.le_trans (sRead_le _ (by omega)) h
  ·exact h
theorem rdE_ok (x : Src) : ∀ v, (rdE x).1 = some v → okV v := by
 intro v hv
 unfold rdE at hv
 split at hv
 ·cases hv
 ·split at hv
  ·cases hv; exact (sRead_ok _).1
  ·cases hv
theorem rdF_ok : ∀ (n : Nat) (x : Src) v, some v ∈ (rdF n x).1 → okV v
 | 0, x, v, h => by simp [rdF] at h
 | n + 1, x, v, h => by
  unfold rdF at h
  split at h
  ·simp at h
  ·rcases List.mem_cons.1 h with h | h
   ·exact rdE_ok x v h.symm
   ·exact rdF_ok n _ v h
theorem Xo : ∀ (n : Nat) (x : Src), (rdF n x).1.length ≤ n ∧ ((rdF n x).2.2 = false → (rdF n x).1.length = n)
 | 0, x => by simp [rdF]
 | n + 1, x => by
  unfold rdF
  have h := Xo n (rdE x).2
  split
  ·rename_i hb; exact ⟨Nat.zero_le _, fun h => by simp only at h; rw [hb] at h; cases h⟩
  ·refine ⟨by simp only [List.length_cons]; omega, fun hh => ?_⟩
   simp only [List.length_cons, h.2 hh]
theorem rd8x (x : Src) (hx : x.1.length ≤ 140737488355328) : Runs lp 62 [.ptr 0 0 0] (sto x) (fx (C9 x).1, sto (C9 x).2) := by
 have := vRd8 x hx
 rw [Ks] at this; exact this
theorem rdOneN {x : Src} (hx : x.1.length ≤ 140737488355328) (h : (rdE x).1.isSome = false) : Runs lp 41 [.ptr 0 0 0] (sto x) (.agg [.p (.bool false), .p (.int .i64 0), .p (.int .i64 0), .p (.str []), .tight [], .tight []], sto (rdE x).2) := by
 have hb := F0 x
 refine ifE (rd1 (xv := x) (fun _ _ => rd8x _ (by omega))) ?_
 unfold rdE at h ⊢
 by_cases e0 : (Aq x).1 = 0
 ·rw [if_pos (by simpa using e0), if_pos e0]
 ·rw [if_neg (by simpa using e0)]
  rw [if_neg e0] at h
  by_cases e1 : (Aq x).1 = 1
  ·rw [if_pos e1] at h; cases h
  ·rw [if_neg (by simpa using e1), if_neg e0, if_neg e1]
theorem rdOneV {x : Src} (hx : x.1.length ≤ 140737488355328) (h : (rdE x).1.isSome = true) : Runs lp 41 [.ptr 0 0 0] (sto x) (.agg [.p (.bool true), .p (.int .i64 (kV ((rdE x).1.getD A4))), .p (.int .i64 (nV ((rdE x).1.getD A4))), .p (.str (sV ((rdE x).1.getD A4))), .p (.sl (Ad (iV ((rdE x).1.getD A4)))), .p (.sl (Ak (mV ((rdE x).1.getD A4))))], sto (rdE x).2) := by
 have hb := F0 x
 refine ifE (rd1 (xv := x) (fun _ _ => rd8x _ (by omega))) ?_
 unfold rdE at h ⊢
 by_cases e0 : (Aq x).1 = 0
 ·rw [if_pos e0] at h; cases h
 ·rw [if_neg (by simpa using e0)]
  rw [if_neg e0] at h
  by_cases e1 : (Aq x).1 = 1
  ·rw [if_pos (by simpa using e1), if_neg e0, if_pos e1]; rfl
  ·rw [if_neg e1] at h; cases h
theorem ringE_fx (v : Val) : Ie (some v) = [.p (.bool true), .p (.int .i64 (kV v)), .p (.int .i64 (nV v)), .p (.str (sV v)), .p (.sl (Ad (iV v))), .p (.sl (Ak (mV v)))] := by obtain ⟨_, _, _, _, _⟩ := v; rfl
theorem pReadL {kp b tt : Int} (hk : kp ≤ 64) (htt : tt ≤ 1000000000000000) : ∀ (n : Nat) (t : Int) (R : List (Option Val)) (x : Src), x.1.length ≤ 140737488355328 → 0 ≤ t → tt = t + n → okR kp R →
  LoopN lp 1 (Ae Mv 0) (tl 0 59 [(0, (.ptr 0 0 0)), (5, .p (.int .i64 tt)), (6, (.ptr 1 0 0))]) [.row [[.p (.sl (bs x.1)), .p (.bool x.2)]], .row [[.p (.int .i64 kp), .rs 2 0 (Int.toNat kp), .p (.int .i64 b), .p (.int .i64 t)]], .row (Aa R)]
   (.exit 0, tl 0 59 [(0, (.ptr 0 0 0)), (6, (.ptr 1 0 0))], [.row [[.p (.sl (bs (rdF n x).2.1)), .p (.bool (rdF n x).2.2)]], .row [[.p (.int .i64 kp), .rs 2 0 (Int.toNat kp), .p (.int .i64 b), .p (.int .i64 (t + (rdF n x).1.length))]], .row (Aa (putAll kp t R (rdF n x).1))]) := by
 intro n
 induction n with
 | zero =>
  intro t R x hx h0 h1 hR
  have e : t + (([] : List (Option Val)).length : Nat) = t := by simp
  simp only [rdF, putAll, e]
  exact pReadR_n (decide_eq_false (by omega))
 | succ n ih =>
  intro t R x hx h0 h1 hR
  rcases x with ⟨xl, bb⟩
  cases bb with
  | true =>
   have e : t + (([] : List (Option Val)).length : Nat) = t := by simp
   simp only [rdF, if_true, putAll, e]
   exact Yz (xv := (xl, true)) (decide_eq_true (by omega)) rfl
  | false =>
   simp only [rdF, Bool.false_eq_true, if_false, putAll, List.length_cons]
   have hle := rdE_le (xl, false) hx
   have hok := rdE_ok (xl, false)
   have h := ih (t + 1) (Bj kp t R (rdE (xl, false)).1) (rdE (xl, false)).2 (by omega) (by omega) (by omega) (Qw hR hok)
   have e : t + 1 + ((rdF n (rdE (xl, false)).2).1.length : Nat) = t + (((rdF n (rdE (xl, false)).2).1.length + 1 : Nat) : Int) := by omega
   rw [e] at h
   cases hs : (rdE (xl, false)).1.isSome with
   | true =>
    obtain ⟨v, hv⟩ := Option.isSome_iff_exists.1 hs
    have hg : (rdE (xl, false)).1.getD A4 = v := by rw [hv]; rfl
    have h1' := rdOneV hx hs
    have h2' := Xd (b := b) (some v) hk ⟨h0, by omega⟩ hR
    rw [ringE_fx] at h2'
    rw [hg] at h1'
    exact Vl (kp := kp) (b := b) (t := t) (tt := tt) (R := R) (xv := (xl, false)) (decide_eq_true (by omega)) rfl hs (by rw [hg]; exact h1') (by rw [hg]; exact h2') (by rw [hg, ← hv]; exact h)
   | false =>
    have hv : (rdE (xl, false)).1 = none := by simpa using hs
    have h1' := rdOneN hx hs
    have h2' := Xd (b := b) none hk ⟨h0, by omega⟩ hR
    rw [hv] at h ⊢
    exact Vm (kp := kp) (b := b) (t := t) (tt := tt) (R := R) (xv := (xl, false)) (decide_eq_true (by omega)) rfl hs h1' h2' h
end Go.Proofs.Ytmbjojnldbeicaa
