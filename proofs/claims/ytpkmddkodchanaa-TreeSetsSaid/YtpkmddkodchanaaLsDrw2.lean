import Derived.Test.YtpkmddkodchanaaLsDrw
set_option linter.unusedVariables false
set_option linter.unusedSimpArgs false
set_option maxRecDepth 100000
namespace Go.Proofs.Ytpkmddkodchanaa
open Go Go.LS
theorem path_ne {ps : List (List UInt8)} (h : pathB ps = true) : ps ≠ [] := by rintro rfl; simp [pathB] at h
theorem path_all {ps : List (List UInt8)} (h : pathB ps = true) : ps.all nameB = true := by simp only [pathB, Bool.and_eq_true] at h; exact h.2
theorem tSetF {B : Nat} (hB : B < 1000000000) {v x : Val} (hv : okW B v) (hx : okW B x) {ps : List (List UInt8)} (hp : ps.length ≤ 140737488355328) (hpl : ∀ p ∈ ps, p.length ≤ 140737488351232) :
    Runs lp 18 [encV v, .p (.sl (rowsN ps)), encV x] [] (.tup [encV (setT (chkV v ps (pathB ps)) ps v x).1, .p (.int .i64 (setT (chkV v ps (pathB ps)) ps v x).2)], []) := by
  have hvo := okW_okV (by omega) _ hv
  have hxo := okW_okV (by omega) _ hx
  have hc := tChk hvo hp
  have hmx := vMay x hxo
  have run : (chkV v ps (pathB ps) == 0) = true → Runs lp 34 [encV v, .p (.sl (rowsN ps)), encV x] [] (.tup [encV (setV ps v x).1, .p (.bool (setV ps v x).2)], []) :=
    fun h0 => tSetL (by omega) hx ps v hv (doc_may (chk_doc h0).1) hpl hp
  have cl : Runs lp 29 [encV (setV ps v x).1] [] (encV (setV ps v x).1, []) := vClone _ (okW_okV (by omega) _ (okW_set hx ps v hv hpl))
  unfold setT
  generalize hW : setV ps v x = S at *
  obtain ⟨⟨kW, nW, sW, iW, mW⟩, bW⟩ := S
  obtain ⟨k, n, s, is, ns⟩ := v
  obtain ⟨kx, nx, sx, isx, nsx⟩ := x
  refine ifE (tSe0 (W := .mk kW nW sW iW mW) (bY := bW) (fun _ => hmx) (fun _ _ => hc) (fun _ _ h0 => run h0) (fun _ _ h0 _ => cl) (fun _ => hc) (fun _ h0 => run h0) (fun _ h0 _ => cl)) ?_
  have ek : kV (Val.mk k n s is ns) = k := rfl
  rw [ek]
  cases h7 : (k == 7) <;> cases hm : mayV (.mk kx nx sx isx nsx) <;> cases h0 : (chkV (.mk k n s is ns) ps (pathB ps) == 0) <;> cases bW <;> rfl
end Go.Proofs.Ytpkmddkodchanaa
