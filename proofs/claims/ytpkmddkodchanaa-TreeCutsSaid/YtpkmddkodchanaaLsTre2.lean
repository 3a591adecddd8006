import Derived.Test.YtpkmddkodchanaaLsTre2W
import Derived.Test.YtpkmddkodchanaaLsClo
set_option linter.unusedVariables false
set_option linter.unusedSimpArgs false
set_option maxRecDepth 100000
namespace Go.Proofs.Ytpkmddkodchanaa
open Go Go.LS
theorem tChk {v : Val} {ps : List (List UInt8)} (hok : okV v) (hp : ps.length ≤ 140737488355328) : Runs lp 27 [encV v, .p (.sl (rowsN ps))] [] (.p (.int .i64 (chkV v ps (pathB ps))), []) := by
  obtain ⟨k, n, s, is, ns⟩ := v
  refine ifE (tChk0 (by intros; exact vMay _ hok) (by intros; exact pMay hp)) ?_
  simp only [chkV, docV, kindV]
  by_cases h7 : (k == 7) = true <;> by_cases hm : mayV (.mk k n s is ns) = true <;> by_cases hq : pathB ps = true <;> simp [h7, hm, hq]
theorem rDoc {v : Val} (hok : okV v) : Runs lp 14 [encV v] [] (.p (.bool (docV v)), []) := by
  obtain ⟨k, n, s, is, ns⟩ := v
  refine ifE (rDoc0 (by intros; exact rMay _ hok)) ?_
  simp only [docV, kindV]
  by_cases h7 : (k == 7) = true <;> simp [h7]
theorem wrongL {v : Val} {ps : List (List UInt8)} (hok : okV v) (hp : ps.length ≤ 140737488355328) (sp : ∀ x ∈ ps, x.length ≤ 140737488355328) : Runs lp 12 [encV v, .p (.sl (rowsN ps))] [] (.p (.int .i64 (chkV v ps (pathB ps))), []) := by
  have d := rDoc hok
  obtain ⟨k, n, s, is, ns⟩ := v
  refine ifE (wrong0 (by intros; exact d) (by intros; exact rpMay hp sp)) ?_
  simp only [chkV]
  by_cases h7 : docV (.mk k n s is ns) = true <;> by_cases hq : pathB ps = true <;> simp [h7, hq]
theorem chk_doc {v : Val} {ps : List (List UInt8)} {p : Bool} (h : (chkV v ps p == 0) = true) : docV v = true ∧ p = true := by
  unfold chkV at h
  cases hd : docV v <;> cases p <;> rw [hd] at h <;> simp_all
theorem doc_may {v : Val} (h : docV v = true) : mayV v = true := by simp only [docV, Bool.and_eq_true] at h; exact h.2
theorem rGetT {v x : Val} {ps : List (List UInt8)} (hok : okV v) (hm : mayV v = true) (hp : ps.length ≤ 140737488355328) (hg : getV ps v = some x) :
    Runs lp 13 [encV v, .p (.sl (rowsN ps))] [] (.tup [encV x, .p (.bool true)], []) ∧ okV x := by
  obtain ⟨l1, l2⟩ := rGetL hp ps.length 0 v (by omega) hok hm
  rw [List.drop_zero] at l1 l2
  obtain ⟨a, ox, _⟩ := l1 x hg
  refine ⟨?_, ox⟩
  obtain ⟨k, n, s, is, ns⟩ := v
  obtain ⟨kx, nx, sx, isx, nsx⟩ := x
  exact rGt0 (kx := kx) (nx := nx) (sx := sx) (isx := isx) (nsx := nsx) (ky := 0) (ny := 0) (sy := []) (isy := []) (nsy := []) (g := true) (fun _ => a) (fun h => by cases h)
theorem rGetF {v : Val} {ps : List (List UInt8)} (hok : okV v) (hm : mayV v = true) (hp : ps.length ≤ 140737488355328) (hg : getV ps v = none) :
    Runs lp 13 [encV v, .p (.sl (rowsN ps))] [] (.tup [.agg [.p (.int .i64 0), .p (.int .i64 0), .p (.str []), .tight [], .tight []], .p (.bool false)], []) := by
  obtain ⟨l1, l2⟩ := rGetL hp ps.length 0 v (by omega) hok hm
  rw [List.drop_zero] at l1 l2
  obtain ⟨x, a⟩ := l2 hg
  obtain ⟨k, n, s, is, ns⟩ := v
  obtain ⟨kx, nx, sx, isx, nsx⟩ := x
  exact rGt0 (kx := 0) (nx := 0) (sx := []) (isx := []) (nsx := []) (ky := kx) (ny := nx) (sy := sx) (isy := isx) (nsy := nsx) (g := false) (fun h => by cases h) (fun _ => a)
end Go.Proofs.Ytpkmddkodchanaa
