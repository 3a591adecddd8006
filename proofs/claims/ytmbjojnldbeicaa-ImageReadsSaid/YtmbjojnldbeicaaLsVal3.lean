import Derived.Test.YtmbjojnldbeicaaLsVal2
set_option linter.unusedVariables false
set_option linter.unusedSimpArgs false
set_option maxRecDepth 100000
set_option linter.unusedSimpArgs false
namespace Go.Proofs.Ytmbjojnldbeicaa
open Go Go.LS
theorem Mp (v : Val) : (if B7 v = true then (if decide (Bm v > 8) = true then ((.p (.int .i64 21), []) : LV × List LObj) else if decide (B2 v > 4096) = true then (.p (.int .i64 22), []) else (.p (.int .i64 0), [])) else (.p (.int .i64 20), [])) = (.p (.int .i64 (Dz v)), []) := by
 unfold Dz
 by_cases h1 : B7 v = true
 ·by_cases h2 : Bm v > 8
  ·simp [h1, h2]
  ·by_cases h3 : B2 v > 4096
   ·simp [h1, h2, h3]
   ·simp [h1, h2, h3]
 ·simp [h1]
theorem vCheck (v : Val) (hok : okV v) (hd : Bm v ≤ 1000000) : Runs lp 33 [El v] [] (.p (.int .i64 (Dz v)), []) := by
 obtain ⟨k, n, s, is, ns⟩ := v
 exact ifE (Zo (vMay _ hok) (fun _ => vDepth _ hok hd) (fun h _ => vSize _ hok h)) (Mp _)
theorem rCheck (v : Val) (hok : okV v) (hd : Bm v ≤ 1000000) : Runs lp 26 [El v] [] (.p (.int .i64 (Dz v)), []) := by
 obtain ⟨k, n, s, is, ns⟩ := v
 exact ifE (Zp (rMay _ hok) (fun _ => rDepth _ hok hd) (fun h _ => rSize _ hok h)) (Mp _)
end Go.Proofs.Ytmbjojnldbeicaa
