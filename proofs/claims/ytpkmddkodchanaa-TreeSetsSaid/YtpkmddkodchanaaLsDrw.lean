import Derived.Test.YtpkmddkodchanaaLsSet
set_option linter.unusedVariables false
set_option linter.unusedSimpArgs false
set_option maxRecDepth 100000
namespace Go.Proofs.Ytpkmddkodchanaa
open Go Go.LS
theorem rSetL {B : Nat} (hB : B ≤ 1000000000) {x : Val} (hx : okW B x) : ∀ (ps : List (List UInt8)) (v : Val), okW B v → mayV v = true → (∀ p ∈ ps, p.length ≤ 140737488351232) → ps.length ≤ 140737488355328 →
    Runs lp 20 [encV v, .p (.sl (rowsN ps)), encV x] [] (.tup [encV (setR ps v x).1, .p (.bool (setR ps v x).2)], [])
  | [], v, hv, hm, hp, hl => by
    obtain ⟨k, n, s, is, ns⟩ := v
    obtain ⟨kx, nx, sx, isx, nsx⟩ := x
    exact rsN
  | p :: r, v, hv, hm, hp, hl => by
    have hp' : ∀ q ∈ r, q.length ≤ 140737488351232 := fun q hq => hp q (List.mem_cons_of_mem _ hq)
    have hl' : r.length ≤ 140737488355328 := by simp at hl; omega
    have hvo := okW_okV (by omega) _ hv
    have hplc := rPlace (st := p) hvo
    obtain ⟨hg1, hg2⟩ : ((iV v).length + 1) * 80 ≤ 140737488355328 ∧ ((mV v).length + 1) * 16 ≤ 140737488355328 := by
      obtain ⟨k, n, s, is, ns⟩ := v
      obtain ⟨_, _, _, a, b, _, _⟩ := okW_inv hv
      simp only [iV, mV]; omega
    rcases place_cases hm p with h | ⟨i, y, h, hi, hym, hy⟩
    · have ih := rSetL hB hx r docV0 okW_doc0 may_docV0 hp' hl'
      have e7 : kV v = 7 → setR (p :: r) v x = (growV v p (setR r docV0 x).1, (setR r docV0 x).2) := fun e => by rw [setR, h, if_pos (by omega), if_pos (by rw [e]; rfl)]
      have e6 : kV v = 6 → setR (p :: r) v x = if r.isEmpty && Option.getD (idxB p) (-1) == ((iV v).length : Int) then (growV v [] x, true) else (v, false) := fun e => by rw [setR, h, if_pos (by omega), if_neg (by rw [e]; decide), if_pos (by rw [e]; rfl)]
      have e0 : kV v ≠ 7 → kV v ≠ 6 → setR (p :: r) v x = (v, false) := fun a b => by rw [setR, h, if_pos (by omega), if_neg (by simpa using a), if_neg (by simpa using b)]
      generalize hS : setR r docV0 x = S at *
      obtain ⟨⟨kY, nY, sY, iY, mY⟩, bY⟩ := S
      have g7 := rWith (i := (iV v).length) (j := (((iV v).length : Nat) : Int)) (nm := p) (x := .mk kY nY sY iY mY) hvo rfl hg1 hg2
      have g6 := rWith (i := (iV v).length) (j := (((iV v).length : Nat) : Int)) (nm := []) (x := x) hvo rfl hg1 hg2
      rw [if_neg (Nat.lt_irrefl _)] at g7 g6
      obtain ⟨k, n, s, is, ns⟩ := v
      obtain ⟨kx, nx, sx, isx, nsx⟩ := x
      have no : ∀ {q : Prop}, decide (placeV (.mk k n s is ns) p < 0) = false → q := fun hP => by rw [h] at hP; simp at hP
      have ee : ∀ {w : Prop} {a b : w}, True := fun {_ _ _} => trivial
      have hlr := rowsV_len is
      by_cases h7 : k = 7
      · subst h7
        have no7 : ∀ {q : Prop}, ((7 : Int) == 7) = false → q := fun h => by cases h
        refine ifE (rsC (ke := 0) (ne := 0) (se := []) (ise := []) (nse := []) (Y := .mk kY nY sY iY mY) (bY := bY) (W := growV (.mk 7 n s is ns) p (.mk kY nY sY iY mY)) (hplc) (fun hP hK7 => ih) (fun hP hK7 => by rw [hlr]; exact g7) (fun hP hK7 hK6 _ => no7 hK7) (fun hP hK7 hK6 _ _ => no7 hK7) (fun hP => no hP) (fun hP => no hP) (fun hP => no hP) (fun hP => no hP)) ?_
        rw [h, e7 rfl]; rfl
      · have a7 : (k == 7) = false := by simpa using h7
        have no7 : ∀ {q : Prop}, (k == 7) = true → q := fun h => by rw [a7] at h; cases h
        refine ifE (rsC (ke := 0) (ne := 0) (se := []) (ise := []) (nse := []) (Y := .mk kY nY sY iY mY) (bY := bY) (W := growV (.mk k n s is ns) [] (.mk kx nx sx isx nsx)) (hplc) (fun hP hK7 => no7 hK7) (fun hP hK7 => no7 hK7) (fun hP hK7 hK6 _ => rIx p) (fun hP hK7 hK6 _ _ => by rw [hlr]; exact g6) (fun hP => no hP) (fun hP => no hP) (fun hP => no hP) (fun hP => no hP)) ?_
        rw [h, a7]
        by_cases h6 : k = 6
        · rw [e6 h6]; subst h6
          simp only [rowsV_len, rowsN_len, iV]
          by_cases hj : Option.getD (idxB p) (-1) == (is.length : Int)
          · cases r with
            | nil => simp [hj] <;> rfl
            | cons a b =>
              have e1 : (((List.length (p :: a :: b) : Nat) : Int) == 1) = false := by rw [beq_eq_false_iff_ne]; simp only [List.length_cons]; omega
              rw [e1]; rfl
          · cases r with
            | nil => simp [hj] <;> rfl
            | cons a b =>
              have e1 : (((List.length (p :: a :: b) : Nat) : Int) == 1) = false := by rw [beq_eq_false_iff_ne]; simp only [List.length_cons]; omega
              rw [e1]; rfl
        · rw [e0 h7 h6]
          have b : (k == 6) = false := by simpa using h6
          rw [b]; rfl
    · have ih := rSetL hB hx r y (okW_items hv hi) hy hp' hl'
      have e : setR (p :: r) v x = (swapV v i (setR r y x).1, (setR r y x).2) := by
        have n2 : ¬ ((i : Int) < 0) := by omega
        rw [setR, h, if_neg n2, Int.toNat_natCast, hi]
      rw [e]
      generalize hS : setR r y x = S at *
      obtain ⟨⟨kY, nY, sY, iY, mY⟩, bY⟩ := S
      have sw := rWith (i := i) (j := placeV v p) (nm := []) (x := .mk kY nY sY iY mY) hvo h hg1 hg2
      rw [if_pos (List.getElem?_eq_some_iff.1 hi).1] at sw
      have ht : (placeV v p).toNat = i := by rw [h]; simp
      obtain ⟨k, n, s, is, ns⟩ := v
      obtain ⟨kx, nx, sx, isx, nsx⟩ := x
      obtain ⟨ke, ne, se, ise, nse⟩ := y
      have no : ∀ {q : Prop}, decide (placeV (.mk k n s is ns) p < 0) = true → q := fun hP => by rw [h] at hP; simp at hP <;> omega
      refine ifE (rsC (ke := ke) (ne := ne) (se := se) (ise := ise) (nse := nse) (Y := .mk kY nY sY iY mY) (bY := bY) (W := swapV (.mk k n s is ns) i (.mk kY nY sY iY mY)) (hplc) (fun hP hK7 => no hP) (fun hP hK7 => no hP) (fun hP hK7 hK6 _ => no hP) (fun hP hK7 hK6 _ _ => no hP) (fun hP => by rw [h]; omega) (fun hP => by rw [ht]; exact hi) (fun hP => ih) (fun hP => sw)) ?_
      rw [h]
      have : decide ((i : Int) < 0) = false := by simp
      rw [this]
      rfl
end Go.Proofs.Ytpkmddkodchanaa
