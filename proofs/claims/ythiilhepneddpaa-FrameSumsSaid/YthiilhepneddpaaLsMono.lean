/- More steps tell the same. -/
import Derived.Test.YthiilhepneddpaaLsExec
set_option linter.unusedVariables false
set_option linter.unusedSimpArgs false
namespace Go.LS

abbrev CallLe (c c' : CallF) : Prop := ∀ f a s r, c f a s = some r → c' f a s = some r

theorem callIso_mono {c c' : CallF} (h : CallLe c c') {f : FuncId} {args : List LV} {st : List LObj} {r : LV × List LObj} (hr : callIso c f args st = some r) : callIso c' f args st = some r := by
  unfold callIso at hr ⊢
  simp only at hr ⊢
  split at hr
  · rename_i hcl
    split at hr
    · rename_i v st' hc
      rw [if_pos hcl, h _ _ _ _ hc]
      exact hr
    · cases hr
  · cases hr

theorem opStep_mono {c c' : CallF} (h : CallLe c c') {t : List LV} {st : List LObj} {op : LOp} {r : LV × List LObj} (hr : opStep c t st op = some r) : opStep c' t st op = some r := by
  cases op
  case call f args => simp only [opStep] at hr ⊢; exact callIso_mono h hr
  case callv f args =>
    simp only [opStep] at hr ⊢
    split at hr
    · exact callIso_mono h hr
    · cases hr
  all_goals exact hr

theorem runOp_mono {c c' : CallF} (h : CallLe c c') {t : List LV} {st : List LObj} {o : LOper} {r : LV × List LObj} (hr : runOp c t st o = some r) : runOp c' t st o = some r := by
  unfold runOp at hr ⊢
  split at hr
  · exact opStep_mono h hr
  · exact hr
  · cases hr

theorem runOps_mono {c c' : CallF} (h : CallLe c c') : ∀ {l : List LOper} {t : List LV} {st : List LObj} {r : List LV × List LObj}, runOps c l t st = some r → runOps c' l t st = some r
  | [], t, st, r, hr => hr
  | o :: l, t, st, r, hr => by
    simp only [runOps] at hr ⊢
    split at hr
    · rename_i v st' hs
      rw [runOp_mono h hs]
      exact runOps_mono h hr
    · cases hr

theorem heldOk_mono {c c' : CallF} (h : CallLe c c') {st : List LObj} {held : List (DOp × List LV × LV)} (hr : heldOk c st held = true) : heldOk c' st held = true := by
  unfold heldOk at hr ⊢
  rw [List.all_eq_true] at hr ⊢
  intro x hx
  have := hr x hx
  split at this
  · rename_i v s hs
    rw [runOp_mono h hs]
    exact this
  · cases this

theorem runDrawn_mono {c c' : CallF} (h : CallLe c c') : ∀ {l : List DOp} {held : List (DOp × List LV × LV)} {t : List LV} {st : List LObj} {r : List LV × List LObj}, runDrawn c l held t st = some r → runDrawn c' l held t st = some r
  | [], held, t, st, r, hr => hr
  | d :: l, held, t, st, r, hr => by
    simp only [runDrawn] at hr ⊢
    split at hr
    · cases hr
    · rename_i v st' hs
      rw [runOp_mono h hs]
      simp only
      split at hr
      · split at hr
        · rename_i hp; rw [if_pos hp]; exact runDrawn_mono h hr
        · cases hr
      · split at hr
        · rename_i hp
          simp only [Bool.and_eq_true] at hp
          rw [if_pos (by simp [hp.1, heldOk_mono h hp.2])]; exact runDrawn_mono h hr
        · cases hr
      · split at hr
        · rename_i hp
          simp only [Bool.and_eq_true] at hp
          rw [if_pos (by simp only [Bool.and_eq_true]; exact ⟨hp.1, heldOk_mono h hp.2⟩)]; exact runDrawn_mono h hr
        · cases hr

theorem both_same (r : LOut × List LV × List LObj) : both (some r) (some r) = some r := by
  unfold both
  simp [LV.eqbs_refl, eqbSt_refl]

theorem exec_mono {c c' : CallF} (h : CallLe c c') {k : Nat} : ∀ {n m : Nat}, n ≤ m → ∀ {lc : LCode} {t : List LV} {st : List LObj} {r : LOut × List LV × List LObj}, exec c k n lc t st = some r → exec c' k m lc t st = some r
  | 0, m, _, lc, t, st, r, hr => by simp [exec] at hr
  | n + 1, 0, hnm, lc, t, st, r, hr => by omega
  | n + 1, m + 1, hnm, lc, t, st, r, hr => by
    have hle : n ≤ m := by omega
    cases lc with
    | skip => exact hr
    | exit id mask => exact hr
    | ret mask => exact hr
    | fail => simp [exec] at hr
    | region ops =>
      simp only [exec] at hr ⊢
      split at hr
      · rename_i t' st' hs
        rw [runOps_mono h hs]; exact hr
      · cases hr
    | drawn ops =>
      simp only [exec] at hr ⊢
      split at hr
      · rename_i t' st' hs
        rw [runDrawn_mono h hs]; exact hr
      · cases hr
    | seq a b =>
      have go : ∀ {la : LCode} {r}, cont2 (exec c k n la t st) (exec c k n b) = some r → cont2 (exec c' k m la t st) (exec c' k m b) = some r := by
        intro la r hr
        cases ha : exec c k n la t st with
        | none => rw [ha] at hr; cases hr
        | some x =>
          rw [ha] at hr
          rw [exec_mono h hle ha]
          obtain ⟨o, t', st'⟩ := x
          cases o with
          | normal => exact exec_mono h hle hr
          | _ => exact hr
      simp only [exec] at hr ⊢
      exact go hr
    | both x a b d =>
      have go : ∀ {la : LCode} {r}, cont2 (exec c k n la t st) (exec c k n d) = some r → cont2 (exec c' k m la t st) (exec c' k m d) = some r := by
        intro la r hr
        cases ha : exec c k n la t st with
        | none => rw [ha] at hr; cases hr
        | some x =>
          rw [ha] at hr
          rw [exec_mono h hle ha]
          obtain ⟨o, t', st'⟩ := x
          cases o with
          | normal => exact exec_mono h hle hr
          | _ => exact hr
      simp only [exec] at hr ⊢
      split at hr
      · exact go hr
      · exact go hr
      · obtain ⟨e1, e2⟩ := both_eq hr
        rw [go e1, go e2]
        exact both_same r
      · cases hr
    | cond x a b =>
      simp only [exec] at hr ⊢
      split at hr
      · exact exec_mono h hle hr
      · exact exec_mono h hle hr
      · obtain ⟨e1, e2⟩ := both_eq hr
        rw [exec_mono h hle e1, exec_mono h hle e2]
        exact both_same r
      · cases hr
    | block id mask a =>
      simp only [exec] at hr ⊢
      cases ha : exec c k n a t st with
      | none => rw [ha] at hr; cases hr
      | some x =>
        rw [ha] at hr
        rw [exec_mono h hle ha]
        exact hr
    | loop mask a =>
      simp only [exec] at hr ⊢
      split at hr
      · rename_i t0 st0 hg
        cases ha : exec c k n a t0 st0 with
        | none => rw [ha] at hr; cases hr
        | some x =>
          rw [ha] at hr
          rw [exec_mono h hle ha]
          obtain ⟨o, t', st'⟩ := x
          cases o with
          | normal => exact exec_mono h hle hr
          | _ => exact hr
      · cases hr

theorem runF_mono {lp : LProg} : ∀ {n m : Nat}, n ≤ m → CallLe (runF lp n) (runF lp m)
  | 0, m, _ => fun f a s r h => by simp [runF] at h
  | n + 1, 0, hnm => by omega
  | n + 1, m + 1, hnm => by
    intro f a s r h
    simp only [runF] at h ⊢
    split at h
    · exact h
    · split at h
      · cases h
      · rename_i lf hlf
        split at h
        · cases h
        · rename_i out t' st' hne hex
          rw [exec_mono (runF_mono (show n ≤ m by omega)) (show n ≤ m by omega) hex]
          simp only
          cases out with
          | exit i => exact (hne i rfl).elim
          | _ => exact h
        · cases h

/-- From some number of steps on. -/
def Runs (lp : LProg) (f : FuncId) (args : List LV) (st : List LObj) (r : LV × List LObj) : Prop := ∃ n, runF lp n f args st = some r
def Exec (lp : LProg) (k : Nat) (c : LCode) (t : List LV) (st : List LObj) (r : LOut × List LV × List LObj) : Prop := ∃ n, exec (runF lp n) k n c t st = some r

theorem Exec.at {lp : LProg} {k : Nat} {c : LCode} {t : List LV} {st : List LObj} {r : LOut × List LV × List LObj} (h : Exec lp k c t st r) : ∃ n, ∀ m, n ≤ m → exec (runF lp m) k m c t st = some r :=
  let ⟨n, hn⟩ := h
  ⟨n, fun m hm => exec_mono (runF_mono hm) hm hn⟩
theorem Runs.at {lp : LProg} {f : FuncId} {args : List LV} {st : List LObj} {r : LV × List LObj} (h : Runs lp f args st r) : ∃ n, ∀ m, n ≤ m → runF lp m f args st = some r :=
  let ⟨n, hn⟩ := h
  ⟨n, fun m hm => runF_mono hm _ _ _ _ hn⟩

end Go.LS
