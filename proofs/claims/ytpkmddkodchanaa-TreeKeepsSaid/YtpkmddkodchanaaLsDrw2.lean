import Derived.Test.YtpkmddkodchanaaLsDrw
set_option linter.unusedVariables false
set_option linter.unusedSimpArgs false
set_option maxRecDepth 100000
namespace Go.Proofs.Ytpkmddkodchanaa
open Go Go.LS
theorem path_ne {ps : List (List UInt8)} (h : pathB ps = true) : ps ≠ [] := by rintro rfl; simp [pathB] at h
theorem path_all {ps : List (List UInt8)} (h : pathB ps = true) : ps.all nameB = true := by simp only [pathB, Bool.and_eq_true] at h; exact h.2
theorem tDropF {B : Nat} (hB : B ≤ 1000000000) {v : Val} (hv : okW B v) {ps : List (List UInt8)} (hp : ps.length ≤ 140737488355328) :
    Runs lp 22 [encV v, .p (.sl (rowsN ps))] [] (.tup [encV (dropT (chkV v ps (pathB ps)) ps v).1, .p (.int .i64 (dropT (chkV v ps (pathB ps)) ps v).2)], []) := by
  have hvo := okW_okV (by omega) _ hv
  have hc := tChk hvo hp
  unfold dropT
  cases h0 : (chkV v ps (pathB ps) == 0) with
  | false =>
    rw [if_neg (by decide)]
    obtain ⟨k, n, s, is, ns⟩ := v
    have no : ∀ {x : Prop}, (chkV (.mk k n s is ns) ps (pathB ps) == 0) = true → x := fun h => by rw [h0] at h; cases h
    refine ifE (tDr0 (W := nullV) (hc) (fun h0 => no h0) (fun h0 => no h0)) ?_
    rw [h0]; rfl
  | true =>
    rw [if_pos rfl]
    obtain ⟨hd, hq⟩ := chk_doc h0
    have a := tAtW hB ps v (path_ne hq) hv (doc_may hd)
    have c := vClone _ (okW_okV (by omega) _ (okW_at (f := withoutV) (fun v i h => okW_without h) ps v hv))
    generalize hW : atV withoutV ps v = W at *
    obtain ⟨kW, nW, sW, iW, mW⟩ := W
    obtain ⟨k, n, s, is, ns⟩ := v
    refine ifE (tDr0 (W := .mk kW nW sW iW mW) (hc) (fun _ => a) (fun _ => c)) ?_
    rw [h0]; rfl
theorem tCutF {B : Nat} (hB : B ≤ 1000000000) {v : Val} (hv : okW B v) {ps : List (List UInt8)} (hp : ps.length ≤ 140737488355328) {c : Int} :
    Runs lp 23 [encV v, .p (.sl (rowsN ps)), .p (.int .i64 c)] [] (.tup [encV (cutT (chkV v ps (pathB ps)) ps v c).1, .p (.int .i64 (cutT (chkV v ps (pathB ps)) ps v c).2)], []) := by
  have hvo := okW_okV (by omega) _ hv
  have hc := tChk hvo hp
  unfold cutT
  cases h0 : (chkV v ps (pathB ps) == 0) with
  | false =>
    rw [if_neg (by decide)]
    obtain ⟨k, n, s, is, ns⟩ := v
    have no : ∀ {x : Prop}, (chkV (.mk k n s is ns) ps (pathB ps) == 0) = true → x := fun h => by rw [h0] at h; cases h
    refine ifE (tCu0 (W := nullV) (hc) (fun h0 h1 => no h0) (fun h0 h1 => no h0)) ?_
    rw [h0]; rfl
  | true =>
    rw [if_pos rfl]
    by_cases hn : c < 0
    · rw [decide_eq_true hn, if_pos rfl]
      obtain ⟨k, n, s, is, ns⟩ := v
      have no : ∀ {x : Prop}, decide (c < 0) = false → x := fun h => by rw [decide_eq_true hn] at h; cases h
      refine ifE (tCu0 (W := nullV) (hc) (fun h0 h1 => no h1) (fun h0 h1 => no h1)) ?_
      rw [h0, decide_eq_true hn]; rfl
    · rw [decide_eq_false hn, if_neg (by decide)]
      obtain ⟨hd, hq⟩ := chk_doc h0
      have a := tAtC hB (c := c) (by omega) ps v (path_ne hq) hv (doc_may hd)
      have cl := vClone _ (okW_okV (by omega) _ (okW_at (f := cutV c) (fun v i h => okW_cut h) ps v hv))
      generalize hW : atV (cutV c) ps v = W at *
      obtain ⟨kW, nW, sW, iW, mW⟩ := W
      obtain ⟨k, n, s, is, ns⟩ := v
      refine ifE (tCu0 (W := .mk kW nW sW iW mW) (hc) (fun _ _ => a) (fun _ _ => cl)) ?_
      rw [h0, decide_eq_false hn]; rfl
theorem tSetF {B : Nat} (hB : B < 1000000000) {v x : Val} (hv : okW B v) (hx : okW B x) {ps : List (List UInt8)} (hp : ps.length ≤ 140737488355328) (hpl : ∀ p ∈ ps, p.length ≤ 140737488351232) :
    Runs lp 18 [encV v, .p (.sl (rowsN ps)), encV x] [] (.tup [encV (setT (chkV v ps (pathB ps)) ps v x).1, .p (.int .i64 (setT (chkV v ps (pathB ps)) ps v x).2)], []) := by
  have hvo := okW_okV (by omega) _ hv
  have hxo := okW_okV (by omega) _ hx
  have hc := tChk hvo hp
  have hmx := vMay x hxo
  have run : (chkV v ps (pathB ps) == 0) = true → Runs lp 34 [encV v, .p (.sl (rowsN ps)), encV x] [] (.tup [encV (setV ps v x).1, .p (.bool (setV ps v x).2)], []) :=
    fun h0 => tSetL (by omega) hx ps v hv (doc_may (chk_doc h0).1) hpl hp
  have cl : Runs lp 29 [encV (setV ps v x).1] [] (encV (setV ps v x).1, []) := vClone _ (okW_okV (by omega) _ (okW_set hx ps v hv hpl))
  unfold setT
  generalize hW : setV ps v x = S at *
  obtain ⟨⟨kW, nW, sW, iW, mW⟩, bW⟩ := S
  obtain ⟨k, n, s, is, ns⟩ := v
  obtain ⟨kx, nx, sx, isx, nsx⟩ := x
  refine ifE (tSe0 (W := .mk kW nW sW iW mW) (bY := bW) (fun _ => hmx) (fun _ _ => hc) (fun _ _ h0 => run h0) (fun _ _ h0 _ => cl) (fun _ => hc) (fun _ h0 => run h0) (fun _ h0 _ => cl)) ?_
  have ek : kV (Val.mk k n s is ns) = k := rfl
  rw [ek]
  cases h7 : (k == 7) <;> cases hm : mayV (.mk kx nx sx isx nsx) <;> cases h0 : (chkV (.mk k n s is ns) ps (pathB ps) == 0) <;> cases bW <;> rfl
end Go.Proofs.Ytpkmddkodchanaa
