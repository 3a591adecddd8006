import Derived.Test.YtmbjojnldbeicaaLsVal2
set_option linter.unusedVariables false
set_option linter.unusedSimpArgs false
set_option maxRecDepth 100000
set_option linter.unusedSimpArgs false
namespace Go.Proofs.Ytmbjojnldbeicaa
open Go Go.LS
theorem Oc (v : Val) : (if Ce v = true then (if decide (Bg v > 8) = true then ((.p (.int .i64 21), []) : LV × List LObj) else if decide (B8 v > 4096) = true then (.p (.int .i64 22), []) else (.p (.int .i64 0), [])) else (.p (.int .i64 20), [])) = (.p (.int .i64 (Bp v)), []) := by
 unfold Bp
 by_cases h1 : Ce v = true
 ·by_cases h2 : Bg v > 8
  ·simp [h1, h2]
  ·by_cases h3 : B8 v > 4096
   ·simp [h1, h2, h3]
   ·simp [h1, h2, h3]
 ·simp [h1]
theorem Qi (v : Val) (hok : okV v) (hd : Bg v ≤ 1000000) : Runs lp 33 [Es v] [] (.p (.int .i64 (Bp v)), []) := by
 obtain ⟨k, n, s, is, ns⟩ := v
 exact ifE (vCheck0 (vMay _ hok) (fun _ => vDepth _ hok hd) (fun h _ => vSize _ hok h)) (Oc _)
theorem Qj (v : Val) (hok : okV v) (hd : Bg v ≤ 1000000) : Runs lp 26 [Es v] [] (.p (.int .i64 (Bp v)), []) := by
 obtain ⟨k, n, s, is, ns⟩ := v
 exact ifE (rCheck0 (rMay _ hok) (fun _ => rDepth _ hok hd) (fun h _ => rSize _ hok h)) (Oc _)
end Go.Proofs.Ytmbjojnldbeicaa
