import Derived.Test.YtpkmddkodchanaaLsTre2W
import Derived.Test.YtpkmddkodchanaaLsClo
set_option linter.unusedVariables false
set_option linter.unusedSimpArgs false
set_option maxRecDepth 100000
namespace Go.Proofs.Ytpkmddkodchanaa
open Go Go.LS
theorem tChk {v : Val} {ps : List (List UInt8)} (hok : okV v) (hp : ps.length ≤ 140737488355328) : Runs lp 27 [B9 v, .p (.sl (Ab ps))] [] (.p (.int .i64 (An v ps (Af ps))), []) := by
 obtain ⟨k, n, s, is, ns⟩ := v
 refine ifE (tChk0 (by intros; exact vMay _ hok) (by intros; exact pMay hp)) ?_
 simp only [An, Fw, Oy]
 by_cases h7 : (k == 7) = true <;> by_cases hm : Bc (.mk k n s is ns) = true <;> by_cases hq : Af ps = true <;> simp [h7, hm, hq]
theorem rDoc {v : Val} (hok : okV v) : Runs lp 14 [B9 v] [] (.p (.bool (Fw v)), []) := by
 obtain ⟨k, n, s, is, ns⟩ := v
 refine ifE (rDoc0 (by intros; exact rMay _ hok)) ?_
 simp only [Fw, Oy]
 by_cases h7 : (k == 7) = true <;> simp [h7]
theorem wrongL {v : Val} {ps : List (List UInt8)} (hok : okV v) (hp : ps.length ≤ 140737488355328) (sp : ∀ x ∈ ps, x.length ≤ 140737488355328) : Runs lp 12 [B9 v, .p (.sl (Ab ps))] [] (.p (.int .i64 (An v ps (Af ps))), []) := by
 have d := rDoc hok
 obtain ⟨k, n, s, is, ns⟩ := v
 refine ifE (wrong0 (by intros; exact d) (by intros; exact rpMay hp sp)) ?_
 simp only [An]
 by_cases h7 : Fw (.mk k n s is ns) = true <;> by_cases hq : Af ps = true <;> simp [h7, hq]
theorem Kr {v : Val} {ps : List (List UInt8)} {p : Bool} (h : (An v ps p == 0) = true) : Fw v = true ∧ p = true := by
 unfold An at h
 cases hd : Fw v <;> cases p <;> rw [hd] at h <;> simp_all
theorem I0 {v : Val} (h : Fw v = true) : Bc v = true := by simp only [Fw, Bool.and_eq_true] at h; exact h.2
end Go.Proofs.Ytpkmddkodchanaa
