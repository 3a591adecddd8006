import Derived.Test.YtmbjojnldbeicaaLsIm7W
set_option linter.unusedVariables false
set_option linter.unusedSimpArgs false
set_option maxRecDepth 100000
namespace Go.Proofs.Ytmbjojnldbeicaa
open Go Go.LS
theorem okWs_put {kp t : Int} {R : List (Option Val)} {x : Option Val} (h : okWs R) (hx : ∀ v, x = some v → okW v) : okWs (putR kp t R x) := by
  intro v hv
  unfold putR at hv
  split at hv
  · rcases List.mem_or_eq_of_mem_set hv with hv | hv
    · exact h v hv
    · exact hx v hv.symm
  · exact h v hv
theorem okWs_app {L : List (Option Val)} {x : Option Val} (h : okWs L) (hx : ∀ v, x = some v → okW v) : okWs (L ++ [x]) := by
  intro v hv
  rcases List.mem_append.1 hv with hv | hv
  · exact h v hv
  · exact hx v (List.mem_singleton.1 hv).symm
theorem okWs_new {n : Nat} : okWs (List.replicate n none) := fun v hv => by have := List.eq_of_mem_replicate hv; cases this
theorem Rel.note {kp b t xb : Int} {R L : List (Option Val)} (h : Rel kp b t R xb L) {x : Option Val} (hx : ∀ v, x = some v → okW v) (hl : L.length < 1000000) : Rel kp b (t + 1) (putR kp t R x) xb (L ++ [x]) := by
  refine ⟨h.inv.note x, h.base.next, ⟨h.bnd.k0, h.bnd.k1, h.bnd.b0, h.bnd.b1, by simp; omega, fun v hv => ?_⟩, okR_put h.okr fun v e => (hx v e).1⟩
  rcases List.mem_append.1 hv with hv | hv
  · exact h.bnd.oks v hv
  · exact (hx v (List.mem_singleton.1 hv).symm).1
theorem Rel.least {kp b t xb : Int} {R L : List (Option Val)} (h : Rel kp b t R xb L) : leastI kp b t = xb + frX kp xb L + 1 := by
  rw [leastI_eq h.base]
  have := h.inv.top
  unfold frX topX
  split <;> omega
theorem Rel.ring {kp b t xb : Int} {R L : List (Option Val)} (h : Rel kp b t R xb L) : ringL kp R (leastI kp b t) (t + 1 - leastI kp b t).toNat = L.drop (frX kp xb L) := by
  have e := h.least
  have ht := h.inv.top
  have hk := h.inv.k0
  have hf : ((frX kp xb L : Nat) : Int) ≤ L.length := by unfold frX topX; omega
  have hg : t - kp - xb ≤ ((frX kp xb L : Nat) : Int) := by unfold frX topX; omega
  rw [ringL_eq h.inv _ (leastI kp b t) (by omega) (by omega) (by omega)]
  congr 1
  omega
theorem Rel.code {kp t xb : Int} {R L : List (Option Val)} (h : Rel kp xb t R xb L) : codeM kp xb t R = codeX kp xb L := by
  unfold codeM codeX
  rw [h.ring]
  have := h.inv.top
  have e : topX xb L = t := this.symm
  rw [e]
theorem largeW {v : Val} (hv : okV v) (h : largeV v = false) (hc : checkV v = 0) : okW v := ⟨hv, hc, sizeW_eq hv h⟩
theorem okLarge {v : Val} (hv : okV v) (h : largeV v = false) : depthV v ≤ 1000000 := by
  have := small_depth hv h; omega
theorem mayXR {kp b : Int} : Runs lp 10 [.p (.int .i64 kp), .p (.int .i64 b)] [] (.p (.bool (wI kp 64 && wI b 1099511627776)), []) := by
  refine ifE may0 ?_
  unfold wI
  by_cases h1 : kp ≥ 0 <;> by_cases h2 : kp ≤ 64 <;> by_cases h3 : b ≥ 0 <;> simp [h1, h2, h3]
theorem mayXF {kp b : Int} (h : (wI kp 64 && wI b 1099511627776) = false) : Runs lp 10 [.p (.int .i64 kp), .p (.int .i64 b)] [] (.p (.bool false), []) := by have := mayXR (kp := kp) (b := b); rwa [h] at this
theorem mayXT {kp b : Int} (h : (wI kp 64 && wI b 1099511627776) = true) : Runs lp 10 [.p (.int .i64 kp), .p (.int .i64 b)] [] (.p (.bool true), []) := by have := mayXR (kp := kp) (b := b); rwa [h] at this
theorem cdL {kp b : Int} {ops : List OpI} (hops : ∀ o ∈ ops, okI1 o) : ∀ (n j : Nat) (L : List (Option Val)) (t : Int) (R : List (Option Val)), ops.length - j = n → j ≤ ops.length → Rel kp b t R b L → okWs L → okWs R → L.length ≤ j ∧ j ≤ 100 →
    ∃ L2 t2 R2, Rel kp b t2 R2 b L2 ∧ okWs L2 ∧ okWs R2 ∧ LoopN lp 0 (loopNo lf4 0) (tl 0 99 [(2, (.p (.sl (rowsI ops)))), (7, (.ptr 0 0 0)), (9, (.ptr 2 0 0)), (10, (.p (.int .i64 (j : Int))))]) (mS true kp b t R ++ xS 3 kp b L) (.exit 0, (tl 0 99 [(7, (.ptr 0 0 0)), (9, (.ptr 2 0 0))]), mS true kp b t2 R2 ++ xS 3 kp b L2) := by
  intro n
  induction n with
  | zero =>
    intro j L t R h1 h2 h hL hR hj
    have hlt : decide ((j : Int) < ((List.length (rowsI ops) : Nat) : Int)) = false := by rw [rowsI_len]; exact decide_eq_false (by omega)
    refine ⟨L, t, R, h, hL, hR, ?_⟩
    cases L with
    | nil => exact cdBRt_n hlt
    | cons a0 q0 => exact cdARt_n hlt
  | succ n ih =>
    intro j L t R h1 h2 h hL hR hj
    obtain ⟨n1, n2, n3, n4, n5⟩ := h.nums
    have hlt : decide ((j : Int) < ((List.length (rowsI ops) : Nat) : Int)) = true := by rw [rowsI_len]; exact decide_eq_true (by omega)
    by_cases hj1 : j < 100
    · have h100 : decide ((j : Int) < 100) = true := decide_eq_true (by omega)
      obtain ⟨⟨ok, ⟨ke, ne, se, ise, nse⟩, bv⟩, hop⟩ : ∃ o, ops[j]? = some o := ⟨ops[j], List.getElem?_eq_getElem (by omega)⟩
      have hov : okV (.mk ke ne se ise nse) := hops _ (List.mem_of_getElem? hop)
      cases L with
      | nil =>
        have hl1 := h.bnd.l1
        cases bv with
        | true =>
          cases ho : (ok == 1) with
          | false =>
            obtain ⟨L2, t2, R2, x1, x2, x3, x4⟩ := ih (j + 1) _ t R (by omega) (by omega) h hL hR (by omega)
            rw [← nx (by omega)] at x4
            exact ⟨L2, t2, R2, x1, x2, x3, cdBRt_yyn ok ke ne se ise nse hlt h100 hop ho x4⟩
          | true =>
            cases hlg : largeV (.mk ke ne se ise nse) with
            | true =>
              obtain ⟨L2, t2, R2, x1, x2, x3, x4⟩ := ih (j + 1) _ t R (by omega) (by omega) h hL hR (by omega)
              rw [← nx (by omega)] at x4
              exact ⟨L2, t2, R2, x1, x2, x3, cdBRt_yyyy ok ke ne se ise nse hlt h100 hop ho (rLarge _ hov) hlg x4⟩
            | false =>
              have hdp := okLarge hov hlg
              have hm := noteYes (b := b) hov hdp n1.2 ⟨n4, n5⟩ h.okr
              have hck := rCheck _ hov hdp
              cases hc : (checkV (.mk ke ne se ise nse) == 0) with
              | true =>
                have hw := largeW hov hlg (eq_of_beq hc)
                obtain ⟨L2, t2, R2, x1, x2, x3, x4⟩ := ih (j + 1) _ (t + 1) _ (by omega) (by omega) (h.note (x := some (.mk ke ne se ise nse)) (fun v e => by cases e; exact hw) (by omega)) (okWs_app hL (fun v e => by cases e; exact hw)) (okWs_put hR (fun v e => by cases e; exact hw)) (by simp only [List.length_append, List.length_singleton]; omega)
                rw [← nx (by omega)] at x4
                rw [hc, if_pos rfl] at hm
                have hx := xNoteV0 (kp := kp) (xb := b) (k := ke) (n := ne) (s := se) (is := ise) (ns := nse) hck
                rw [hc, if_pos rfl] at hx
                exact ⟨L2, t2, R2, x1, x2, x3, cdBRt_yyyny ok ke ne se ise nse hlt h100 hop ho (rLarge _ hov) hlg hc hm hx x4⟩
              | false =>
                obtain ⟨L2, t2, R2, x1, x2, x3, x4⟩ := ih (j + 1) _ t R (by omega) (by omega) h hL hR (by omega)
                rw [← nx (by omega)] at x4
                rw [hc, if_neg (by decide)] at hm
                have hx := xNoteV0 (kp := kp) (xb := b) (k := ke) (n := ne) (s := se) (is := ise) (ns := nse) hck
                rw [hc, if_neg (by decide)] at hx
                exact ⟨L2, t2, R2, x1, x2, x3, cdBRt_yyynn ok ke ne se ise nse hlt h100 hop ho (rLarge _ hov) hlg hc hm hx x4⟩
        | false =>
          cases ho : (ok == 1) with
          | false =>
            obtain ⟨L2, t2, R2, x1, x2, x3, x4⟩ := ih (j + 1) _ t R (by omega) (by omega) h hL hR (by omega)
            rw [← nx (by omega)] at x4
            exact ⟨L2, t2, R2, x1, x2, x3, cdBRf_yyn ok ke ne se ise nse hlt h100 hop ho x4⟩
          | true =>
            cases hlg : largeV (.mk ke ne se ise nse) with
            | true =>
              obtain ⟨L2, t2, R2, x1, x2, x3, x4⟩ := ih (j + 1) _ t R (by omega) (by omega) h hL hR (by omega)
              rw [← nx (by omega)] at x4
              exact ⟨L2, t2, R2, x1, x2, x3, cdBRf_yyyy ok ke ne se ise nse hlt h100 hop ho (rLarge _ hov) hlg x4⟩
            | false =>
              have hdp := okLarge hov hlg
              have hm := noteNo (b := b) (v := .mk ke ne se ise nse) n1.2 ⟨n4, n5⟩ h.okr
              obtain ⟨L2, t2, R2, x1, x2, x3, x4⟩ := ih (j + 1) _ (t + 1) _ (by omega) (by omega) (h.note (x := none) (fun v e => by cases e) (by omega)) (okWs_app hL (fun v e => by cases e)) (okWs_put hR (fun v e => by cases e)) (by simp only [List.length_append, List.length_singleton]; omega)
              rw [← nx (by omega)] at x4
              have hx := xNoteN0 (kp := kp) (xb := b) (k := ke) (n := ne) (s := se) (is := ise) (ns := nse)
              exact ⟨L2, t2, R2, x1, x2, x3, cdBRf_yyyn ok ke ne se ise nse hlt h100 hop ho (rLarge _ hov) hlg hm hx x4⟩
      | cons a0 q0 =>
        have hl1 := h.bnd.l1
        cases bv with
        | true =>
          cases ho : (ok == 1) with
          | false =>
            obtain ⟨L2, t2, R2, x1, x2, x3, x4⟩ := ih (j + 1) _ t R (by omega) (by omega) h hL hR (by omega)
            rw [← nx (by omega)] at x4
            exact ⟨L2, t2, R2, x1, x2, x3, cdARt_yyn ok ke ne se ise nse hlt h100 hop ho x4⟩
          | true =>
            cases hlg : largeV (.mk ke ne se ise nse) with
            | true =>
              obtain ⟨L2, t2, R2, x1, x2, x3, x4⟩ := ih (j + 1) _ t R (by omega) (by omega) h hL hR (by omega)
              rw [← nx (by omega)] at x4
              exact ⟨L2, t2, R2, x1, x2, x3, cdARt_yyyy ok ke ne se ise nse hlt h100 hop ho (rLarge _ hov) hlg x4⟩
            | false =>
              have hdp := okLarge hov hlg
              have hm := noteYes (b := b) hov hdp n1.2 ⟨n4, n5⟩ h.okr
              have hck := rCheck _ hov hdp
              cases hc : (checkV (.mk ke ne se ise nse) == 0) with
              | true =>
                have hw := largeW hov hlg (eq_of_beq hc)
                obtain ⟨L2, t2, R2, x1, x2, x3, x4⟩ := ih (j + 1) _ (t + 1) _ (by omega) (by omega) (h.note (x := some (.mk ke ne se ise nse)) (fun v e => by cases e; exact hw) (by omega)) (okWs_app hL (fun v e => by cases e; exact hw)) (okWs_put hR (fun v e => by cases e; exact hw)) (by simp only [List.length_append, List.length_singleton]; omega)
                rw [← nx (by omega)] at x4
                rw [hc, if_pos rfl] at hm
                have hx := xNoteV1 (L := a0 :: q0) (kp := kp) (xb := b) (k := ke) (n := ne) (s := se) (is := ise) (ns := nse) hck (fun _ => by simp) (fun _ => by omega) (fun _ => by omega)
                rw [hc, if_pos rfl] at hx
                exact ⟨L2, t2, R2, x1, x2, x3, cdARt_yyyny (L := a0 :: q0) ok ke ne se ise nse hlt h100 hop ho (rLarge _ hov) hlg hc hm hx x4⟩
              | false =>
                obtain ⟨L2, t2, R2, x1, x2, x3, x4⟩ := ih (j + 1) _ t R (by omega) (by omega) h hL hR (by omega)
                rw [← nx (by omega)] at x4
                rw [hc, if_neg (by decide)] at hm
                have hx := xNoteV1 (L := a0 :: q0) (kp := kp) (xb := b) (k := ke) (n := ne) (s := se) (is := ise) (ns := nse) hck (fun _ => by simp) (fun _ => by omega) (fun _ => by omega)
                rw [hc, if_neg (by decide)] at hx
                exact ⟨L2, t2, R2, x1, x2, x3, cdARt_yyynn (L := a0 :: q0) ok ke ne se ise nse hlt h100 hop ho (rLarge _ hov) hlg hc hm hx x4⟩
        | false =>
          cases ho : (ok == 1) with
          | false =>
            obtain ⟨L2, t2, R2, x1, x2, x3, x4⟩ := ih (j + 1) _ t R (by omega) (by omega) h hL hR (by omega)
            rw [← nx (by omega)] at x4
            exact ⟨L2, t2, R2, x1, x2, x3, cdARf_yyn ok ke ne se ise nse hlt h100 hop ho x4⟩
          | true =>
            cases hlg : largeV (.mk ke ne se ise nse) with
            | true =>
              obtain ⟨L2, t2, R2, x1, x2, x3, x4⟩ := ih (j + 1) _ t R (by omega) (by omega) h hL hR (by omega)
              rw [← nx (by omega)] at x4
              exact ⟨L2, t2, R2, x1, x2, x3, cdARf_yyyy ok ke ne se ise nse hlt h100 hop ho (rLarge _ hov) hlg x4⟩
            | false =>
              have hdp := okLarge hov hlg
              have hm := noteNo (b := b) (v := .mk ke ne se ise nse) n1.2 ⟨n4, n5⟩ h.okr
              obtain ⟨L2, t2, R2, x1, x2, x3, x4⟩ := ih (j + 1) _ (t + 1) _ (by omega) (by omega) (h.note (x := none) (fun v e => by cases e) (by omega)) (okWs_app hL (fun v e => by cases e)) (okWs_put hR (fun v e => by cases e)) (by simp only [List.length_append, List.length_singleton]; omega)
              rw [← nx (by omega)] at x4
              have hx := xNoteN1 (L := a0 :: q0) (kp := kp) (xb := b) (k := ke) (n := ne) (s := se) (is := ise) (ns := nse) (by simp) (by omega) (by omega)
              exact ⟨L2, t2, R2, x1, x2, x3, cdARf_yyyn (L := a0 :: q0) ok ke ne se ise nse hlt h100 hop ho (rLarge _ hov) hlg hm hx x4⟩
    · have h100 : decide ((j : Int) < 100) = false := decide_eq_false (by omega)
      refine ⟨L, t, R, h, hL, hR, ?_⟩
      cases L with
      | nil => exact cdBRt_yn hlt h100
      | cons a0 q0 => exact cdARt_yn hlt h100
theorem lawCo {kp b : Int} {ops : List OpI} (hops : ∀ o ∈ ops, okI1 o) : ∃ st, Runs lp 4 [.p (.int .i64 kp), .p (.int .i64 b), .p (.sl (rowsI ops))] [] (.p (.bool true), st) := by
  have no : ∀ {p : Prop} {x : Bool}, x = true → x = false → p := fun h g => by rw [h] at g; cases g
  cases hw : wI kp 64 with
  | false =>
    have hnew := newR (kp := kp) (b := b)
    rw [hw, if_neg (by decide)] at hnew
    have hm : Runs lp 10 [.p (.int .i64 kp), .p (.int .i64 b)] [] (.p (.bool false), []) := mayXF (by rw [hw]; rfl)
    have h := lawC (kp := kp) (b := b) (t2 := 0) (R2 := []) (L2 := []) (ops := ops) (fun h => no h hw) (fun h => no h hw) (fun h => no h hw) (fun h => no h hw) (fun h => no h hw) (fun h => no h hw) (fun h => no h hw) (fun h => no h hw) (fun h => no h hw) (fun h => no h hw) (fun _ => hnew) (fun _ => hm)
    rw [hw, if_neg (by decide)] at h
    exact ⟨_, h⟩
  | true =>
    cases hw2 : wI b 1099511627776 with
    | false =>
      have hnew := newR (kp := kp) (b := b)
      rw [hw, hw2, if_pos rfl, if_neg (by decide)] at hnew
      have hm : Runs lp 10 [.p (.int .i64 kp), .p (.int .i64 b)] [] (.p (.bool false), []) := mayXF (by rw [hw, hw2]; rfl)
      have h := lawC (kp := kp) (b := b) (t2 := 0) (R2 := []) (L2 := []) (ops := ops) (fun _ h => no h hw2) (fun _ h => no h hw2) (fun _ h => no h hw2) (fun _ h => no h hw2) (fun _ h => no h hw2) (fun _ h => no h hw2) (fun _ h => no h hw2) (fun _ h => no h hw2) (fun _ _ => hnew) (fun _ _ => hm) (fun h => no hw h) (fun h => no hw h)
      rw [hw, hw2, if_pos rfl, if_neg (by decide)] at h
      exact ⟨_, h⟩
    | true =>
      have hnew := newR (kp := kp) (b := b)
      rw [hw, hw2, if_pos rfl, if_pos rfl] at hnew
      have hm : Runs lp 10 [.p (.int .i64 kp), .p (.int .i64 b)] [] (.p (.bool true), []) := mayXT (by rw [hw, hw2]; rfl)
      have hk : 0 ≤ kp ∧ kp ≤ 64 := by simpa [wI] using hw
      have hb : 0 ≤ b ∧ b ≤ 1099511627776 := by simpa [wI] using hw2
      have hr0 : Rel kp b b (List.replicate (Int.toNat kp) none) b [] := ⟨InvI.new hk.1 hb.1, BaseI.refl hb.1, ⟨hk.1, hk.2, hb.1, by omega, by simp, by simp⟩, okR_new⟩
      obtain ⟨L2, t2, R2, x1, x2, x3, x4⟩ := cdL (kp := kp) (b := b) hops ops.length 0 [] b _ (by omega) (by omega) hr0 (fun v hv => by cases hv) okWs_new ⟨by simp, by omega⟩
      obtain ⟨n1, n2, n3, n4, n5⟩ := x1.nums
      have hce := x1.code
      have hc1 := pCodeC (kp := kp) (b := b) (t := t2) (R := R2) n1 x1.inv.len x3 ⟨n2.1, by have := x1.inv.top; omega⟩ n5
      have hc2 := xCodeC x1.bnd x2
      cases L2 with
      | nil =>
        have h := lawC (kp := kp) (b := b) (t2 := t2) (R2 := R2) (L2 := []) (ops := ops) (fun _ _ => hnew) (fun _ _ => hm) (fun _ _ _ _ => x4) (fun _ _ _ _ => hc1) (fun _ _ _ _ => hc2) (fun _ _ _ h => no (by rfl) h) (fun _ _ _ h => no (by rfl) h) (fun _ _ _ h => no (by rfl) h) (fun _ h => no hw2 h) (fun _ h => no hw2 h) (fun h => no hw h) (fun h => no hw h)
        rw [hce, beq_self_eq_true] at h
        rw [hw, hw2, if_pos rfl, if_pos rfl] at h
        split at h
        · exact ⟨_, h⟩
        · exact ⟨_, h⟩
      | cons a0 q0 =>
        have h := lawC (kp := kp) (b := b) (t2 := t2) (R2 := R2) (L2 := a0 :: q0) (ops := ops) (fun _ _ => hnew) (fun _ _ => hm) (fun _ _ _ h => no h (by rfl)) (fun _ _ _ h => no h (by rfl)) (fun _ _ _ h => no h (by rfl)) (fun _ _ _ _ => x4) (fun _ _ _ _ => hc1) (fun _ _ _ _ => hc2) (fun _ h => no hw2 h) (fun _ h => no hw2 h) (fun h => no hw h) (fun h => no hw h)
        rw [hce, beq_self_eq_true] at h
        rw [hw, hw2, if_pos rfl, if_pos rfl] at h
        split at h
        · exact ⟨_, h⟩
        · exact ⟨_, h⟩
end Go.Proofs.Ytmbjojnldbeicaa
