/- Home: whether a token is at home. -/
import Derived.Test.YtmfdjhflhhaodaaLsHome
set_option linter.unusedVariables false
set_option linter.unusedSimpArgs false
namespace Go.Proofs.Ytmfdjhflhhaodaa
open Go Go.LS

/-- Entries: a term ahead of what else they have. -/
def okE (E : List (List PV)) : Prop := ∀ e ∈ E, ∃ (tv : Int) (x1 x2 x3 x4 x5 x6 x7 x8 x9 x10 x11 x12 x13 x14 x15 x16 : PV), e = [.int .i64 tv, x1, x2, x3, x4, x5, x6, x7, x8, x9, x10, x11, x12, x13, x14, x15, x16]
def trm (E : List (List PV)) (j : Nat) : Int := match E[j]? with
  | some (.int _ n :: _) => n
  | _ => 0
def thome (kd ix tm first base : Int) (E : List (List PV)) : Int :=
  if tmay kd ix tm = false then 180
  else if ix < first - 1 then 181
  else if ix = first - 1 then (if base = tm then 0 else 180)
  else if (E.length : Int) ≤ ix - first then 180
  else if trm E (ix - first).toNat = tm then 0 else 180

theorem okE.sized {E : List (List PV)} (h : okE E) : sized 17 E = true := by
  simp only [LS.sized, List.all_eq_true]
  intro e he
  obtain ⟨_, _, _, _, _, _, _, _, _, _, _, _, _, _, _, _, _, rfl⟩ := h e he
  rfl
theorem okE.append {E X : List (List PV)} (h : okE E) (k : okE X) : okE (E ++ X) := fun e he => (List.mem_append.1 he).elim (h e) (k e)
theorem okE.drop {E : List (List PV)} (h : okE E) (n : Nat) : okE (E.drop n) := fun e he => h e (List.mem_of_mem_drop he)

section
variable {kd ix tm first base : Int} {E : List (List PV)}
theorem vHome (hf : 1 ≤ first ∧ first ≤ 9223372036854775807) (hE : okE E) : Runs lp 13 [tok kd ix tm, .p (.int .i64 first), .p (.int .i64 base), .p (.sl E)] [] (.p (.int .i64 (thome kd ix tm first base E)), []) := by
  have h1 : (decide (first ≥ 1)) = true := by simp; omega
  have hw : IntKind.wrap .i64 (first - 1) = first - 1 := wrap_i64 (by omega) (by omega)
  by_cases hm : tmay kd ix tm = true
  · obtain ⟨g1, g2⟩ := tmay_bounds hm
    have hm' : (!(tmay kd ix tm)) = false := by simp [hm]
    have hmf : ¬ (tmay kd ix tm = false) := by simp [hm]
    have h2 : (decide (first < 1)) = false := by simp; omega
    by_cases a1 : ix < first - 1
    · have e : thome kd ix tm first base E = 181 := by simp [thome, hm, a1]
      rw [e]
      exact hom_ynny h1 hm' h2 (by rw [hw]; simpa using a1)
    · have a1' : (decide (ix < (IntKind.wrap .i64 (first - 1)))) = false := by rw [hw]; simpa using a1
      by_cases a2 : ix = first - 1
      · have a2' : (ix == (IntKind.wrap .i64 (first - 1))) = true := by rw [hw]; simpa using a2
        by_cases a3 : base = tm
        · have e : thome kd ix tm first base E = 0 := by simp only [thome]; rw [if_neg hmf, if_neg a1, if_pos a2, if_pos a3]
          rw [e]
          exact hom_ynnnyn h1 hm' h2 a1' a2' (by simpa using a3)
        · have e : thome kd ix tm first base E = 180 := by simp only [thome]; rw [if_neg hmf, if_neg a1, if_pos a2, if_neg a3]
          rw [e]
          exact hom_ynnnyy h1 hm' h2 a1' a2' (by simpa using a3)
      · have a2' : (ix == (IntKind.wrap .i64 (first - 1))) = false := by rw [hw]; simpa using a2
        have hw2 : IntKind.wrap .i64 (ix - first) = ix - first := wrap_i64 (by omega) (by omega)
        by_cases a3 : (E.length : Int) ≤ ix - first
        · have e : thome kd ix tm first base E = 180 := by simp only [thome]; rw [if_neg hmf, if_neg a1, if_neg a2, if_pos a3]
          rw [e]
          exact hom_ynnnny h1 hm' h2 a1' a2' (by rw [hw2]; simpa using a3)
        · have hlt : (ix - first).toNat < E.length := by omega
          obtain ⟨tv, x1, x2, x3, x4, x5, x6, x7, x8, x9, x10, x11, x12, x13, x14, x15, x16, he⟩ := hE _ (List.getElem_mem hlt)
          have hg : E[(ix - first).toNat]? = some [.int .i64 tv, x1, x2, x3, x4, x5, x6, x7, x8, x9, x10, x11, x12, x13, x14, x15, x16] := by rw [← he]; simp [hlt]
          have htv : trm E (ix - first).toNat = tv := by simp only [trm, hg]
          have a3' : (decide ((IntKind.wrap .i64 (ix - first)) ≥ ((List.length E : Nat) : Int))) = false := by rw [hw2]; simp; omega
          by_cases a4 : tv = tm
          · have e : thome kd ix tm first base E = 0 := by simp only [thome]; rw [if_neg hmf, if_neg a1, if_neg a2, if_neg a3, htv, if_pos a4]
            rw [e]
            exact hom_ynnnnnn h1 hm' h2 a1' a2' a3' (by rw [hw2]; omega) (by rw [hw2]; exact hg) (by simpa using a4)
          · have e : thome kd ix tm first base E = 180 := by simp only [thome]; rw [if_neg hmf, if_neg a1, if_neg a2, if_neg a3, htv, if_neg a4]
            rw [e]
            exact hom_ynnnnny h1 hm' h2 a1' a2' a3' (by rw [hw2]; omega) (by rw [hw2]; exact hg) (by simpa using a4)
  · have e : thome kd ix tm first base E = 180 := by simp [thome, hm]
    rw [e]
    exact hom_yy h1 (by simp [hm])
theorem vHome_s {m : Nat} (hf : 1 ≤ first ∧ first ≤ 9223372036854775807) (hE : okE E) : Runs lp 13 [tok kd ix tm, .p (.int .i64 first), .p (.int .i64 base), .sl E 0 m] [.spare 17 m] (.p (.int .i64 (thome kd ix tm first base E)), [.spare 17 m]) := by
  have h1 : (decide (first ≥ 1)) = true := by simp; omega
  have hw : IntKind.wrap .i64 (first - 1) = first - 1 := wrap_i64 (by omega) (by omega)
  by_cases hm : tmay kd ix tm = true
  · obtain ⟨g1, g2⟩ := tmay_bounds hm
    have hm' : (!(tmay kd ix tm)) = false := by simp [hm]
    have hmf : ¬ (tmay kd ix tm = false) := by simp [hm]
    have h2 : (decide (first < 1)) = false := by simp; omega
    by_cases a1 : ix < first - 1
    · have e : thome kd ix tm first base E = 181 := by simp [thome, hm, a1]
      rw [e]
      exact hom_s_ynny h1 hm' h2 (by rw [hw]; simpa using a1)
    · have a1' : (decide (ix < (IntKind.wrap .i64 (first - 1)))) = false := by rw [hw]; simpa using a1
      by_cases a2 : ix = first - 1
      · have a2' : (ix == (IntKind.wrap .i64 (first - 1))) = true := by rw [hw]; simpa using a2
        by_cases a3 : base = tm
        · have e : thome kd ix tm first base E = 0 := by simp only [thome]; rw [if_neg hmf, if_neg a1, if_pos a2, if_pos a3]
          rw [e]
          exact hom_s_ynnnyn h1 hm' h2 a1' a2' (by simpa using a3)
        · have e : thome kd ix tm first base E = 180 := by simp only [thome]; rw [if_neg hmf, if_neg a1, if_pos a2, if_neg a3]
          rw [e]
          exact hom_s_ynnnyy h1 hm' h2 a1' a2' (by simpa using a3)
      · have a2' : (ix == (IntKind.wrap .i64 (first - 1))) = false := by rw [hw]; simpa using a2
        have hw2 : IntKind.wrap .i64 (ix - first) = ix - first := wrap_i64 (by omega) (by omega)
        by_cases a3 : (E.length : Int) ≤ ix - first
        · have e : thome kd ix tm first base E = 180 := by simp only [thome]; rw [if_neg hmf, if_neg a1, if_neg a2, if_pos a3]
          rw [e]
          exact hom_s_ynnnny h1 hm' h2 a1' a2' (by rw [hw2]; simpa using a3)
        · have hlt : (ix - first).toNat < E.length := by omega
          obtain ⟨tv, x1, x2, x3, x4, x5, x6, x7, x8, x9, x10, x11, x12, x13, x14, x15, x16, he⟩ := hE _ (List.getElem_mem hlt)
          have hg : E[(ix - first).toNat]? = some [.int .i64 tv, x1, x2, x3, x4, x5, x6, x7, x8, x9, x10, x11, x12, x13, x14, x15, x16] := by rw [← he]; simp [hlt]
          have htv : trm E (ix - first).toNat = tv := by simp only [trm, hg]
          have a3' : (decide ((IntKind.wrap .i64 (ix - first)) ≥ ((List.length E : Nat) : Int))) = false := by rw [hw2]; simp; omega
          by_cases a4 : tv = tm
          · have e : thome kd ix tm first base E = 0 := by simp only [thome]; rw [if_neg hmf, if_neg a1, if_neg a2, if_neg a3, htv, if_pos a4]
            rw [e]
            exact hom_s_ynnnnnn h1 hm' h2 a1' a2' a3' (by rw [hw2]; omega) (by rw [hw2]; exact hg) (by simpa using a4)
          · have e : thome kd ix tm first base E = 180 := by simp only [thome]; rw [if_neg hmf, if_neg a1, if_neg a2, if_neg a3, htv, if_neg a4]
            rw [e]
            exact hom_s_ynnnnny h1 hm' h2 a1' a2' a3' (by rw [hw2]; omega) (by rw [hw2]; exact hg) (by simpa using a4)
  · have e : thome kd ix tm first base E = 180 := by simp [thome, hm]
    rw [e]
    exact hom_s_yy h1 (by simp [hm])
theorem vHome_t (hf : 1 ≤ first ∧ first ≤ 9223372036854775807) (hE : okE []) : Runs lp 13 [tok kd ix tm, .p (.int .i64 first), .p (.int .i64 base), .tight []] [] (.p (.int .i64 (thome kd ix tm first base [])), []) := by
  obtain ⟨n, hn⟩ := vHome (kd := kd) (ix := ix) (tm := tm) (base := base) hf hE
  exact ⟨n, by cases n with
    | zero => exact hn
    | succ n => exact hn⟩
end
end Go.Proofs.Ytmfdjhflhhaodaa
