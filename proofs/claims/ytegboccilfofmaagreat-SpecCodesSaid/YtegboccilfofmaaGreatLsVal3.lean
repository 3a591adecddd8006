import Derived.Test.YtegboccilfofmaaGreatLsVal2
set_option linter.unusedVariables false
set_option maxRecDepth 100000
set_option linter.unusedSimpArgs false
namespace Go.Proofs.YtegboccilfofmaaGreat
open Go Go.LS
theorem M8 (v : Val) : (if Bx v = true then (if decide (Ay v > 8) = true then ((.p (.int .i64 21), []) : LV × List LObj) else if decide (Bk v > 4096) = true then (.p (.int .i64 22), []) else (.p (.int .i64 0), [])) else (.p (.int .i64 20), [])) = (.p (.int .i64 (Av v)), []) := by
 unfold Av
 by_cases h1 : Bx v = true
 ·by_cases h2 : Ay v > 8
  ·simp [h1, h2]
  ·by_cases h3 : Bk v > 4096
   ·simp [h1, h2, h3]
   ·simp [h1, h2, h3]
 ·simp [h1]
theorem Pu (v : Val) (hok : okV v) (hd : Ay v ≤ 1000000) : Runs lp 55 [D4 v] [] (.p (.int .i64 (Av v)), []) := by
 obtain ⟨k, n, s, is, ns⟩ := v
 exact ifE (vCheck0 (vMay _ hok) (fun _ => vDepth _ hok hd) (fun h _ => vSize _ hok h)) (M8 _)
theorem Yc (v : Val) (hok : okV v) (hd : Ay v ≤ 1000000) : Runs lp 60 [D4 v] [] (.p (.int .i64 (Av v)), []) := by
 obtain ⟨k, n, s, is, ns⟩ := v
 exact ifE (rCheck0 (rMay _ hok) (fun _ => rDepth _ hok hd) (fun h _ => rSize _ hok h)) (M8 _)
end Go.Proofs.YtegboccilfofmaaGreat
