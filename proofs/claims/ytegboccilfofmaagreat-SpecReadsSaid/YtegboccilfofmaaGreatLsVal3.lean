import Derived.Test.YtegboccilfofmaaGreatLsVal2
set_option linter.unusedVariables false
set_option maxRecDepth 100000
set_option linter.unusedSimpArgs false
namespace Go.Proofs.YtegboccilfofmaaGreat
open Go Go.LS
theorem Mx (v : Val) : (if Bw v = true then (if decide (Ax v > 8) = true then ((.p (.int .i64 21), []) : LV × List LObj) else if decide (Bu v > 4096) = true then (.p (.int .i64 22), []) else (.p (.int .i64 0), [])) else (.p (.int .i64 20), [])) = (.p (.int .i64 (Av v)), []) := by
 unfold Av
 by_cases h1 : Bw v = true
 ·by_cases h2 : Ax v > 8
  ·simp [h1, h2]
  ·by_cases h3 : Bu v > 4096
   ·simp [h1, h2, h3]
   ·simp [h1, h2, h3]
 ·simp [h1]
theorem Sr (v : Val) (hok : okV v) (hd : Ax v ≤ 1000000) : Runs lp 55 [Eo v] [] (.p (.int .i64 (Av v)), []) := by
 obtain ⟨k, n, s, is, ns⟩ := v
 exact ifE (vCheck0 (vMay _ hok) (fun _ => vDepth _ hok hd) (fun h _ => vSize _ hok h)) (Mx _)
theorem Ss (v : Val) (hok : okV v) (hd : Ax v ≤ 1000000) : Runs lp 60 [Eo v] [] (.p (.int .i64 (Av v)), []) := by
 obtain ⟨k, n, s, is, ns⟩ := v
 exact ifE (rCheck0 (rMay _ hok) (fun _ => rDepth _ hok hd) (fun h _ => rSize _ hok h)) (Mx _)
end Go.Proofs.YtegboccilfofmaaGreat
