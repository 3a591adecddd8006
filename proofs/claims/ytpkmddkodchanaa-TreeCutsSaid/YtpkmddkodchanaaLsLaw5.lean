import Derived.Test.YtpkmddkodchanaaLsLaw5W
import Derived.Test.YtpkmddkodchanaaLsClo
set_option linter.unusedVariables false
set_option linter.unusedSimpArgs false
set_option maxRecDepth 100000
namespace Go.Proofs.Ytpkmddkodchanaa
open Go Go.LS
abbrev fx (v : Val) : LV := .agg [.p (.int .i64 (kV v)), .p (.int .i64 (nV v)), .p (.str (sV v)), .p (.sl (rowsV (iV v))), .p (.sl (rowsN (mV v)))]
theorem sameX (a b : Val) (ha : okV a) (hb : okV b) : Runs lp 15 [fx a, fx b] [] (.p (.bool (sameV a b)), []) := by
  have := rSame a ha b hb
  rw [encV_fx, encV_fx] at this; exact this
theorem cutX {B : Nat} (hB : B ≤ 1000000000) {v : Val} (hv : okW B v) {ps : List (List UInt8)} (hp : ps.length ≤ 140737488355328) {c : Int} :
    Runs lp 23 [fx v, .p (.sl (rowsN ps)), .p (.int .i64 c)] [] (.tup [fx (cutT (chkV v ps (pathB ps)) ps v c).1, .p (.int .i64 (cutT (chkV v ps (pathB ps)) ps v c).2)], []) := by
  have := tCutF hB hv hp (c := c)
  rw [encV_fx, encV_fx] at this; exact this
theorem cutRX {B : Nat} (hB : B < 1000000000) {v : Val} (hv : okW B v) (hm : mayV v = true) {ps : List (List UInt8)} (hp : ps.length ≤ 140737488355328) (hpl : ∀ p ∈ ps, p.length ≤ 140737488351232) (hne : ps ≠ []) {c : Int} (hc : 0 ≤ c) :
    Runs lp 25 [fx v, .p (.sl (rowsN ps)), .p (.int .i64 c)] [] (fx (atV (cutV c) ps v), []) := by
  have := rCutL hB hv hm hp hpl hne hc
  rw [encV_fx, encV_fx] at this; exact this
theorem okZ {B : Nat} : okW B zeroV := okW_mk ⟨by omega, by omega, by simp, by simp, by simp, by simp, by simp⟩
theorem okW_cutT {B : Nat} {e c : Int} {v : Val} {ps : List (List UInt8)} (hv : okW B v) : okW B (cutT e ps v c).1 := by
  unfold cutT
  split
  · split
    · exact okZ
    · exact okW_at (f := cutV c) (fun v i h => okW_cut h) ps v hv
  · exact okZ
theorem largeL {v : Val} (hok : okV v) {ps : List (List UInt8)} : Runs lp 8 [encV v, .p (.sl (rowsN ps))] [] (.p (.bool (largeV v || decide (((List.length (rowsN ps) : Nat) : Int) > 50))), []) := by
  have hl := rLarge v hok
  obtain ⟨k, n, s, is, ns⟩ := v
  refine ifE (large0 hl) ?_
  cases largeV (.mk k n s is ns) <;> rfl
theorem doc7 {v : Val} (h : docV v = true) : kV v = 7 := by
  obtain ⟨k, n, s, is, ns⟩ := v
  simp only [docV, kindV, Bool.and_eq_true, beq_iff_eq] at h
  exact h.1
theorem docI {v : Val} (h1 : kV v = 7) (h2 : mayV v = true) : docV v = true := by
  obtain ⟨k, n, s, is, ns⟩ := v
  simp only [docV, kindV, h2, Bool.and_true, beq_iff_eq]
  exact h1
theorem chk0 {v : Val} {ps : List (List UInt8)} (h : docV v = true) (hp : pathB ps = true) : chkV v ps (pathB ps) = 0 := by unfold chkV; rw [if_pos h, if_pos hp]
theorem lawCutsR {v : Val} (hok : okV v) {ps : List (List UInt8)} (hp : ps.length ≤ 140737488355328) (sp : ∀ q ∈ ps, q.length ≤ 140737488351232) {cn : Int} : Runs lp 7 [encV v, .p (.sl (rowsN ps)), .p (.int .i64 cn)] [] (.p (.bool true), []) := by
  have hlg := largeL hok (ps := ps)
  have sp' : ∀ q ∈ ps, q.length ≤ 140737488355328 := fun q hq => by have := sp q hq; omega
  have hwr := wrongL hok hp sp'
  have hW : (largeV v || decide (((List.length (rowsN ps) : Nat) : Int) > 50)) = false → okW 3000 v := fun h => okW_of hok (by cases hl : largeV v <;> simp_all)
  generalize (largeV v || decide (((List.length (rowsN ps) : Nat) : Int) > 50)) = lg at *
  obtain ⟨k, n, s, is, ns⟩ := v
  have oD : lg = false → okW 3000 (cutT (chkV (Val.mk k n s is ns) ps (pathB ps)) ps (Val.mk k n s is ns) cn).1 := fun a => okW_cutT (hW a)
  have oA : lg = false → okW 3000 (atV (cutV cn) ps (Val.mk k n s is ns)) := fun a => okW_at (f := cutV cn) (fun v i h => okW_cut h) ps _ (hW a)
  have up : ∀ {B : Nat} {v : Val}, B ≤ 1000000 → okW B v → okV v := fun hB h => okW_okV (by omega) _ h
  refine ifE (lawTreeCuts (hlg) (fun a => lives) (fun a => cutX (B := 3000) (by omega) (hW a) hp) (fun a => lives) (fun a => hwr) (fun a h0 hc => cutX (B := 3000) (by omega) (oD a) hp) (fun a h0 hc _ => cutRX (B := 3000) (by omega) (hW a) (doc_may (chk_doc h0).1) hp sp (path_ne (chk_doc h0).2) (by have := of_decide_eq_false hc; omega)) (fun a h0 hc _ => sameX _ _ (up (by omega) (oD a)) (up (by omega) (oA a))) (fun a h0 hc _ _ _ => sameX _ _ (up (by omega) (okW_cutT (oD a))) (up (by omega) (oD a)))) ?_
  clear hlg hwr hW oD oA up
  by_cases hl : lg = true
  · simp [hl]
  by_cases h0 : ((chkV (Val.mk k n s is ns) ps (pathB ps)) == 0) = true
  · obtain ⟨hd, hpb⟩ := chk_doc h0
    by_cases hc : cn < 0
    · have S : cutT (chkV (Val.mk k n s is ns) ps (pathB ps)) ps (Val.mk k n s is ns) cn = (zeroV, 1) := by unfold cutT; rw [if_pos h0, decide_eq_true hc, if_pos rfl]
      simp [hl, h0, S, hc, zeroV, kV]
    · have S : cutT (chkV (Val.mk k n s is ns) ps (pathB ps)) ps (Val.mk k n s is ns) cn = (atV (cutV cn) ps (Val.mk k n s is ns), 0) := by unfold cutT; rw [if_pos h0, decide_eq_false hc, if_neg (by decide)]
      have ch := cut_chg (c := cn) (by omega)
      have d2 : docV (atV (cutV cn) ps (Val.mk k n s is ns)) = true := docI (by rw [at_kind ch (doc_may hd)]; exact doc7 hd) (at_may ch ps _ (doc_may hd))
      have S2 : cutT (chkV (atV (cutV cn) ps (Val.mk k n s is ns)) ps (pathB ps)) ps (atV (cutV cn) ps (Val.mk k n s is ns)) cn = (atV (cutV cn) ps (Val.mk k n s is ns), 0) := by unfold cutT; rw [chk0 d2 hpb, if_pos (by rfl), decide_eq_false hc, if_neg (by decide), at_twice ch ps _ (doc_may hd)]
      simp [hl, h0, S, S2, hc, sameV_refl]
  · have h0' : ((chkV (Val.mk k n s is ns) ps (pathB ps)) == 0) = false := by simpa using h0
    have S : cutT (chkV (Val.mk k n s is ns) ps (pathB ps)) ps (Val.mk k n s is ns) cn = (zeroV, (chkV (Val.mk k n s is ns) ps (pathB ps))) := by unfold cutT; rw [if_neg h0]
    simp only [S]
    simp [hl, h0', zeroV, kV]
end Go.Proofs.Ytpkmddkodchanaa
