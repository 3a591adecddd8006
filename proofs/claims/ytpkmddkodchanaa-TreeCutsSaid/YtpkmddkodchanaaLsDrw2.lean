import Derived.Test.YtpkmddkodchanaaLsDrw
set_option linter.unusedVariables false
set_option linter.unusedSimpArgs false
set_option maxRecDepth 100000
namespace Go.Proofs.Ytpkmddkodchanaa
open Go Go.LS
theorem path_ne {ps : List (List UInt8)} (h : pathB ps = true) : ps ≠ [] := by rintro rfl; simp [pathB] at h
theorem tCutF {B : Nat} (hB : B ≤ 1000000000) {v : Val} (hv : okW B v) {ps : List (List UInt8)} (hp : ps.length ≤ 140737488355328) {c : Int} :
    Runs lp 23 [encV v, .p (.sl (rowsN ps)), .p (.int .i64 c)] [] (.tup [encV (cutT (chkV v ps (pathB ps)) ps v c).1, .p (.int .i64 (cutT (chkV v ps (pathB ps)) ps v c).2)], []) := by
  have hvo := okW_okV (by omega) _ hv
  have hc := tChk hvo hp
  unfold cutT
  cases h0 : (chkV v ps (pathB ps) == 0) with
  | false =>
    rw [if_neg (by decide)]
    obtain ⟨k, n, s, is, ns⟩ := v
    have no : ∀ {x : Prop}, (chkV (.mk k n s is ns) ps (pathB ps) == 0) = true → x := fun h => by rw [h0] at h; cases h
    refine ifE (tCu0 (W := nullV) (hc) (fun h0 h1 => no h0) (fun h0 h1 => no h0)) ?_
    rw [h0]; rfl
  | true =>
    rw [if_pos rfl]
    by_cases hn : c < 0
    · rw [decide_eq_true hn, if_pos rfl]
      obtain ⟨k, n, s, is, ns⟩ := v
      have no : ∀ {x : Prop}, decide (c < 0) = false → x := fun h => by rw [decide_eq_true hn] at h; cases h
      refine ifE (tCu0 (W := nullV) (hc) (fun h0 h1 => no h1) (fun h0 h1 => no h1)) ?_
      rw [h0, decide_eq_true hn]; rfl
    · rw [decide_eq_false hn, if_neg (by decide)]
      obtain ⟨hd, hq⟩ := chk_doc h0
      have a := tAtC hB (c := c) (by omega) ps v (path_ne hq) hv (doc_may hd)
      have cl := vClone _ (okW_okV (by omega) _ (okW_at (f := cutV c) (fun v i h => okW_cut h) ps v hv))
      generalize hW : atV (cutV c) ps v = W at *
      obtain ⟨kW, nW, sW, iW, mW⟩ := W
      obtain ⟨k, n, s, is, ns⟩ := v
      refine ifE (tCu0 (W := .mk kW nW sW iW mW) (hc) (fun _ _ => a) (fun _ _ => cl)) ?_
      rw [h0, decide_eq_false hn]; rfl
theorem rCutL {B : Nat} (hB : B < 1000000000) {v : Val} (hv : okW B v) (hm : mayV v = true) {ps : List (List UInt8)} (hp : ps.length ≤ 140737488355328) (hpl : ∀ p ∈ ps, p.length ≤ 140737488351232) (hne : ps ≠ []) {c : Int} (hc : 0 ≤ c) :
    Runs lp 25 [encV v, .p (.sl (rowsN ps)), .p (.int .i64 c)] [] (encV (atV (cutV c) ps v), []) := by
  have hvo := okW_okV (by omega) _ hv
  obtain ⟨c1, c2⟩ := cut_set (c := c) ps v hne hm
  cases hg : getV ps v with
  | none =>
    have g := rGetF hvo hm hp hg
    rw [c2 (fun a ha => by rw [hg] at ha; cases ha)]
    obtain ⟨k, n, s, is, ns⟩ := v
    have no : ∀ {q : Prop}, false = true → q := fun h => by cases h
    exact rCu0 (bY := false) (kx := 0) (nx := 0) (sx := []) (isx := []) (nsx := []) (W := nullV) (bw := true) (fun hb => no hb) (fun hb h6 hl => no hb) (fun hb h6 hl => no hb) (fun hb h6 hl => no hb) (fun hb h6 hl => no hb) (fun hb => g)
  | some a =>
    obtain ⟨g, ao⟩ := rGetT hvo hm hp hg
    have aw : okW B a := okW_get ps v a hv hg
    have cz := rCloneZ ao
    have no : ∀ {q : Prop}, true = false → q := fun h => by cases h
    have s1 : (kV a == 6 && decide (((iV a).length : Int) > c)) = true → Runs lp 20 [encV v, .p (.sl (rowsN ps)), encV (.mk (kV a) (nV a) (sV a) ((iV a).take c.toNat) (mV a))] [] (.tup [encV (atV (cutV c) ps v), .p (.bool (setR ps v (.mk (kV a) (nV a) (sV a) ((iV a).take c.toNat) (mV a))).2)], []) := fun hcut => by
      have xw : okW B (.mk (kV a) (nV a) (sV a) ((iV a).take c.toNat) (mV a)) := by
        obtain ⟨ka, na, sa, ia, ma⟩ := a
        obtain ⟨h1, h2, h3, h4, h5, h6, h7⟩ := okW_inv aw
        exact okW_mk ⟨h1, h2, h3, by simp only [iV, List.length_take]; omega, h5, h6, fun y hy => h7 y (List.mem_of_mem_take hy)⟩
      have := rSetL (by omega) xw ps v hv hm hpl hp
      rw [(setR_eq ps v hm).2 (set_ok ps v a hm hg), c1 a hg hcut] at this
      exact this
    have e0 : (kV a == 6 && decide (((iV a).length : Int) > c)) = false → atV (cutV c) ps v = v := fun h => c2 (fun b hb => by rw [hg] at hb; cases hb; exact h)
    generalize hW : atV (cutV c) ps v = W at *
    obtain ⟨kW, nW, sW, iW, mW⟩ := W
    obtain ⟨k, n, s, is, ns⟩ := v
    obtain ⟨kx, nx, sx, isx, nsx⟩ := a
    simp only [kV, iV, nV, sV, mV] at s1 e0
    refine ifE (rCu0 (bY := true) (kx := kx) (nx := nx) (sx := sx) (isx := isx) (nsx := nsx) (W := .mk kW nW sW iW mW) (bw := (setR ps (.mk k n s is ns) (.mk kx nx sx (isx.take c.toNat) nsx)).2) (fun hb => g) (fun hb h6 hl => cz) (fun hb h6 hl => (Int.toNat_of_nonneg hc).symm) (fun hb h6 hl => by have h := of_decide_eq_false hl; rw [rowsV_len] at h; omega) (fun hb h6 hl => s1 (by have h := of_decide_eq_false hl; rw [rowsV_len] at h; rw [h6]; simp; omega)) (fun hb => no hb)) ?_
    rw [rowsV_len]
    cases h6 : (kx == 6)
    · rw [e0 (by rw [h6]; rfl)]; rfl
    · by_cases hl : (isx.length : Int) ≤ c
      · rw [decide_eq_true hl, e0 (by rw [h6]; simp; omega)]; rfl
      · rw [decide_eq_false hl]; rfl
end Go.Proofs.Ytpkmddkodchanaa
