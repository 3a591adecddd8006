import Derived.Test.YtpkmddkodchanaaLsSet
set_option linter.unusedVariables false
set_option linter.unusedSimpArgs false
set_option maxRecDepth 100000
namespace Go.Proofs.Ytpkmddkodchanaa
open Go Go.LS
theorem rSetL {B : Nat} (hB : B ≤ 1000000000) {x : Val} (hx : okW B x) : ∀ (ps : List (List UInt8)) (v : Val), okW B v → mayV v = true → (∀ p ∈ ps, p.length ≤ 140737488351232) → ps.length ≤ 140737488355328 →
    Runs lp 20 [encV v, .p (.sl (rowsN ps)), encV x] [] (.tup [encV (setR ps v x).1, .p (.bool (setR ps v x).2)], [])
  | [], v, hv, hm, hp, hl => by
    obtain ⟨k, n, s, is, ns⟩ := v
    obtain ⟨kx, nx, sx, isx, nsx⟩ := x
    exact rsN
  | p :: r, v, hv, hm, hp, hl => by
    have hp' : ∀ q ∈ r, q.length ≤ 140737488351232 := fun q hq => hp q (List.mem_cons_of_mem _ hq)
    have hl' : r.length ≤ 140737488355328 := by simp at hl; omega
    have hvo := okW_okV (by omega) _ hv
    have hplc := rPlace (st := p) hvo
    obtain ⟨hg1, hg2⟩ : ((iV v).length + 1) * 80 ≤ 140737488355328 ∧ ((mV v).length + 1) * 16 ≤ 140737488355328 := by
      obtain ⟨k, n, s, is, ns⟩ := v
      obtain ⟨_, _, _, a, b, _, _⟩ := okW_inv hv
      simp only [iV, mV]; omega
    rcases place_cases hm p with h | ⟨i, y, h, hi, hym, hy⟩
    · have ih := rSetL hB hx r docV0 okW_doc0 may_docV0 hp' hl'
      have e7 : kV v = 7 → setR (p :: r) v x = (growV v p (setR r docV0 x).1, (setR r docV0 x).2) := fun e => by rw [setR, h, if_pos (by omega), if_pos (by rw [e]; rfl)]
      have e6 : kV v = 6 → setR (p :: r) v x = if r.isEmpty && Option.getD (idxB p) (-1) == ((iV v).length : Int) then (growV v [] x, true) else (v, false) := fun e => by rw [setR, h, if_pos (by omega), if_neg (by rw [e]; decide), if_pos (by rw [e]; rfl)]
      have e0 : kV v ≠ 7 → kV v ≠ 6 → setR (p :: r) v x = (v, false) := fun a b => by rw [setR, h, if_pos (by omega), if_neg (by simpa using a), if_neg (by simpa using b)]
      generalize hS : setR r docV0 x = S at *
      obtain ⟨⟨kY, nY, sY, iY, mY⟩, bY⟩ := S
      have g7 := rWith (i := (iV v).length) (j := (((iV v).length : Nat) : Int)) (nm := p) (x := .mk kY nY sY iY mY) hvo rfl hg1 hg2
      have g6 := rWith (i := (iV v).length) (j := (((iV v).length : Nat) : Int)) (nm := []) (x := x) hvo rfl hg1 hg2
      rw [if_neg (Nat.lt_irrefl _)] at g7 g6
      obtain ⟨k, n, s, is, ns⟩ := v
      obtain ⟨kx, nx, sx, isx, nsx⟩ := x
      have no : ∀ {q : Prop}, decide (placeV (.mk k n s is ns) p < 0) = false → q := fun hP => by rw [h] at hP; simp at hP
      have ee : ∀ {w : Prop} {a b : w}, True := fun {_ _ _} => trivial
      have hlr := rowsV_len is
      by_cases h7 : k = 7
      · subst h7
        have no7 : ∀ {q : Prop}, ((7 : Int) == 7) = false → q := fun h => by cases h
        refine ifE (rsC (ke := 0) (ne := 0) (se := []) (ise := []) (nse := []) (Y := .mk kY nY sY iY mY) (bY := bY) (W := growV (.mk 7 n s is ns) p (.mk kY nY sY iY mY)) (hplc) (fun hP hK7 => ih) (fun hP hK7 => by rw [hlr]; exact g7) (fun hP hK7 hK6 _ => no7 hK7) (fun hP hK7 hK6 _ _ => no7 hK7) (fun hP => no hP) (fun hP => no hP) (fun hP => no hP) (fun hP => no hP)) ?_
        rw [h, e7 rfl]; rfl
      · have a7 : (k == 7) = false := by simpa using h7
        have no7 : ∀ {q : Prop}, (k == 7) = true → q := fun h => by rw [a7] at h; cases h
        refine ifE (rsC (ke := 0) (ne := 0) (se := []) (ise := []) (nse := []) (Y := .mk kY nY sY iY mY) (bY := bY) (W := growV (.mk k n s is ns) [] (.mk kx nx sx isx nsx)) (hplc) (fun hP hK7 => no7 hK7) (fun hP hK7 => no7 hK7) (fun hP hK7 hK6 _ => rIx p) (fun hP hK7 hK6 _ _ => by rw [hlr]; exact g6) (fun hP => no hP) (fun hP => no hP) (fun hP => no hP) (fun hP => no hP)) ?_
        rw [h, a7]
        by_cases h6 : k = 6
        · rw [e6 h6]; subst h6
          simp only [rowsV_len, rowsN_len, iV]
          by_cases hj : Option.getD (idxB p) (-1) == (is.length : Int)
          · cases r with
            | nil => simp [hj] <;> rfl
            | cons a b =>
              have e1 : (((List.length (p :: a :: b) : Nat) : Int) == 1) = false := by rw [beq_eq_false_iff_ne]; simp only [List.length_cons]; omega
              rw [e1]; rfl
          · cases r with
            | nil => simp [hj] <;> rfl
            | cons a b =>
              have e1 : (((List.length (p :: a :: b) : Nat) : Int) == 1) = false := by rw [beq_eq_false_iff_ne]; simp only [List.length_cons]; omega
              rw [e1]; rfl
        · rw [e0 h7 h6]
          have b : (k == 6) = false := by simpa using h6
          rw [b]; rfl
    · have ih := rSetL hB hx r y (okW_items hv hi) hy hp' hl'
      have e : setR (p :: r) v x = (swapV v i (setR r y x).1, (setR r y x).2) := by
        have n2 : ¬ ((i : Int) < 0) := by omega
        rw [setR, h, if_neg n2, Int.toNat_natCast, hi]
      rw [e]
      generalize hS : setR r y x = S at *
      obtain ⟨⟨kY, nY, sY, iY, mY⟩, bY⟩ := S
      have sw := rWith (i := i) (j := placeV v p) (nm := []) (x := .mk kY nY sY iY mY) hvo h hg1 hg2
      rw [if_pos (List.getElem?_eq_some_iff.1 hi).1] at sw
      have ht : (placeV v p).toNat = i := by rw [h]; simp
      obtain ⟨k, n, s, is, ns⟩ := v
      obtain ⟨kx, nx, sx, isx, nsx⟩ := x
      obtain ⟨ke, ne, se, ise, nse⟩ := y
      have no : ∀ {q : Prop}, decide (placeV (.mk k n s is ns) p < 0) = true → q := fun hP => by rw [h] at hP; simp at hP <;> omega
      refine ifE (rsC (ke := ke) (ne := ne) (se := se) (ise := ise) (nse := nse) (Y := .mk kY nY sY iY mY) (bY := bY) (W := swapV (.mk k n s is ns) i (.mk kY nY sY iY mY)) (hplc) (fun hP hK7 => no hP) (fun hP hK7 => no hP) (fun hP hK7 hK6 _ => no hP) (fun hP hK7 hK6 _ _ => no hP) (fun hP => by rw [h]; omega) (fun hP => by rw [ht]; exact hi) (fun hP => ih) (fun hP => sw)) ?_
      rw [h]
      have : decide ((i : Int) < 0) = false := by simp
      rw [this]
      rfl
theorem tCut1 {v y : Val} {i : Nat} {j c : Int} (hv : okV v) (hy : (iV v)[i]? = some y) (hc : 0 ≤ c) (hj : j = (i : Int)) : Runs lp 41 [encV v, .p (.int .i64 j), .ptr 0 0 0] [.row [[.p (.int .i64 c)]]] (encV (cutV c v i), [.row [[.p (.int .i64 c)]]]) := by
  subst hj
  have sw := tSwap (i := i) (j := (i : Int)) (x := .mk (kV y) (nV y) (sV y) ((iV y).take c.toNat) (mV y)) hv (List.getElem?_eq_some_iff.1 hy).1 rfl
  have e1 : (kV y == 6) = true → (((iV y).length : Int) ≤ c) → cutV c v i = v := fun a b => by rw [cutV_eq hy, if_neg (by simp only [Bool.and_eq_true, decide_eq_true_eq, not_and]; intro _; omega)]
  have e2 : (kV y == 6) = true → ¬ (((iV y).length : Int) ≤ c) → cutV c v i = swapV v i (.mk (kV y) (nV y) (sV y) ((iV y).take c.toNat) (mV y)) := fun a b => by rw [cutV_eq hy, if_pos (by simp only [Bool.and_eq_true, decide_eq_true_eq]; exact ⟨a, by omega⟩)]
  have e3 : (kV y == 6) = false → cutV c v i = v := fun a => by rw [cutV_eq hy, if_neg (by rw [a]; simp)]
  obtain ⟨k, n, s, is, ns⟩ := v
  obtain ⟨ke, ne, se, ise, nse⟩ := y
  refine ifE (cu0 (ke := ke) (ne := ne) (se := se) (ise := ise) (nse := nse) (hy) (fun _ h' => (Int.toNat_of_nonneg hc).symm) (fun _ h' => by have h := of_decide_eq_false h'; rw [rowsV_len] at h; omega) (fun _ h' => sw)) ?_
  simp only [kV, iV] at e1 e2 e3
  rw [rowsV_len]
  by_cases h6 : (ke == 6) = true
  · rw [if_pos h6]
    by_cases hl : (ise.length : Int) ≤ c
    · rw [decide_eq_true hl, if_pos rfl, e1 h6 hl]
    · rw [decide_eq_false hl, e2 h6 hl]; rfl
  · rw [if_neg h6, e3 (by simpa using h6)]
theorem lenP1 {p q : List UInt8} {r : List (List UInt8)} : decide (((List.length (rowsN (p :: q :: r)) : Nat) : Int) > 1) = true := by rw [rowsN_len, decide_eq_true_eq]; simp only [List.length_cons]; omega
theorem lenP0 {p : List UInt8} : decide (((List.length (rowsN [p]) : Nat) : Int) > 1) = false := by simp [rowsN]
theorem tAtC {B : Nat} (hB : B ≤ 1000000000) {c : Int} (hc : 0 ≤ c) : ∀ (ps : List (List UInt8)) (v : Val), ps ≠ [] → okW B v → mayV v = true →
    Runs lp 39 [encV v, .p (.sl (rowsN ps)), .fn (.func 41) [] [.ptr 0 0 0]] [.row [[.p (.int .i64 c)]]] (encV (atV (cutV c) ps v), [.row [[.p (.int .i64 c)]]])
  | [], v, hne, hv, hm => absurd rfl hne
  | p :: r, v, hne, hv, hm => by
    have hvo := okW_okV (by omega) _ hv
    have hplc := tPlace (st := p) hvo
    rcases place_cases hm p with h | ⟨i, y, h, hi, hym, hy⟩
    · rw [atV_none h]
      obtain ⟨k, n, s, is, ns⟩ := v
      have no : ∀ {q : Prop}, decide (placeV (.mk k n s is ns) p < 0) = false → q := fun hP => by rw [h] at hP; simp at hP
      refine ifE (atC (cn := c) (ke := 0) (ne := 0) (se := []) (ise := []) (nse := []) (Y := nullV) (W := nullV) (hplc) (fun hP hQ => no hP) (fun hP hQ => no hP) (fun hP hQ => no hP) (fun hP hQ => no hP) (fun hP hQ => no hP)) ?_
      rw [h]; rfl
    · have hlt := (List.getElem?_eq_some_iff.1 hi).1
      have ht : (placeV v p).toNat = i := by rw [h]; simp
      have hge : decide ((i : Int) < 0) = false := by simp
      cases r with
      | nil =>
        have wo := tCut1 (j := placeV v p) hvo hi hc h
        have e : atV (cutV c) [p] v = cutV c v i := by rw [atV_one, h, if_neg (by omega), Int.toNat_natCast]
        rw [e]
        generalize hW : cutV c v i = W at *
        obtain ⟨kW, nW, sW, iW, mW⟩ := W
        obtain ⟨k, n, s, is, ns⟩ := v
        have no : ∀ {q : Prop}, decide (placeV (.mk k n s is ns) p < 0) = true → q := fun hP => by rw [h] at hP; simp at hP <;> omega
        have no1 : ∀ {q : Prop}, decide (((List.length (rowsN [p]) : Nat) : Int) > 1) = true → q := fun hP => by rw [lenP0] at hP; cases hP
        refine ifE (atC (cn := c) (ke := 0) (ne := 0) (se := []) (ise := []) (nse := []) (Y := nullV) (W := .mk kW nW sW iW mW) (hplc) (fun hP hQ => no1 hQ) (fun hP hQ => no1 hQ) (fun hP hQ => no1 hQ) (fun hP hQ => no1 hQ) (fun hP hQ => wo)) ?_
        rw [h, hge, lenP0]; rfl
      | cons q t =>
        have ih := tAtC hB hc (q :: t) y (by simp) (okW_items hv hi) hy
        rw [atV_two h hi]
        generalize hS : atV (cutV c) (q :: t) y = Y at *
        obtain ⟨kY, nY, sY, iY, mY⟩ := Y
        have sw := tSwap (i := i) (j := placeV v p) (x := .mk kY nY sY iY mY) hvo hlt h
        obtain ⟨k, n, s, is, ns⟩ := v
        obtain ⟨ke, ne, se, ise, nse⟩ := y
        have no : ∀ {q : Prop}, decide (placeV (.mk k n s is ns) p < 0) = true → q := fun hP => by rw [h] at hP; simp at hP <;> omega
        have no1 : ∀ {q_1 : Prop}, decide (((List.length (rowsN (p :: q :: t)) : Nat) : Int) > 1) = false → q_1 := fun hP => by rw [lenP1] at hP; cases hP
        refine ifE (atC (cn := c) (ke := ke) (ne := ne) (se := se) (ise := ise) (nse := nse) (Y := .mk kY nY sY iY mY) (W := nullV) (hplc) (fun hP hQ => by rw [h]; omega) (fun hP hQ => by rw [ht]; exact hi) (fun hP hQ => ih) (fun hP hQ => by rw [ht]; exact sw) (fun hP hQ => no1 hQ)) ?_
        rw [ht, h, hge, lenP1]; rfl
end Go.Proofs.Ytpkmddkodchanaa
