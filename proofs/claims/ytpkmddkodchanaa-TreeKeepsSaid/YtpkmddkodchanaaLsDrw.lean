import Derived.Test.YtpkmddkodchanaaLsSet
set_option linter.unusedVariables false
set_option linter.unusedSimpArgs false
set_option maxRecDepth 100000
namespace Go.Proofs.Ytpkmddkodchanaa
open Go Go.LS
theorem kwrap {k n : Nat} (h : k < n) (hn : n ≤ 140737488355328) : IntKind.wrap .i64 ((k : Int) + 1) = ((k + 1 : Nat) : Int) := by rw [wrap_i64 (by omega) (by omega)]; push_cast; rfl
theorem kne {k n : Nat} (h : k < n) (hn : n ≤ 140737488355328) : ((k : Int) == IntKind.wrap .i64 ((k : Int) + 1)) = false := by rw [kwrap h hn, beq_eq_false_iff_ne]; push_cast; omega
theorem erase_take {α : Type} (l : List α) (k : Nat) (h : k < l.length) : List.take (k + (l.length - (k + 1))) (List.take k l ++ List.drop (k + 1) l ++ List.drop (k + (l.length - (k + 1))) l) = l.eraseIdx k := by
  rw [List.eraseIdx_eq_take_drop_succ, List.take_append_of_le_length (by simp; omega), List.take_of_length_le (by simp; omega)]
theorem erase_last {α : Type} (l : List α) (k : Nat) (h : k + 1 = l.length) : l.eraseIdx k = List.take k l := by
  rw [List.eraseIdx_eq_take_drop_succ, List.drop_eq_nil_of_le (by omega), List.append_nil]
theorem delN {ns : List (List UInt8)} {k : Nat} (hk : k < ns.length) (hl : ns.length * 16 ≤ 140737488355328) : Runs lp 55 [.rs 0 0 (List.length ns), .p (.int .i64 (k : Int)), .p (.int .i64 (IntKind.wrap .i64 ((k : Int) + 1)))] [.row (rowS (rowsN ns))] (.rs 0 0 (List.length ns - 1), [.row (rowS (rowsN (ns.eraseIdx k ++ [[]])))]) := by
  have h1 := kwrap hk (by omega)
  have h2 := kne hk (by omega)
  refine ifE (delN0 (h2) (h1) (by omega) (by omega) (by omega) (by omega) (by omega) (by omega) (fun hE => by have := of_decide_eq_true hE; omega) (fun hE => by have := of_decide_eq_true hE; omega) (fun hE => by have := of_decide_eq_true hE; omega) (fun hE => by have := of_decide_eq_false hE; first | omega | (simp only [List.length_append, List.length_take, List.length_drop]; omega)) (fun hE => by have := of_decide_eq_false hE; first | omega | (simp only [List.length_append, List.length_take, List.length_drop]; omega)) (fun hE => by have := of_decide_eq_false hE; first | omega | (simp only [List.length_append, List.length_take, List.length_drop]; omega)) (fun hE => by have := of_decide_eq_false hE; first | omega | (simp only [List.length_append, List.length_take, List.length_drop]; omega)) (fun hE => by have := of_decide_eq_false hE; first | omega | (simp only [List.length_append, List.length_take, List.length_drop]; omega)) (fun hE => by have := of_decide_eq_false hE; first | omega | (simp only [List.length_append, List.length_take, List.length_drop]; omega)) (fun hE => by have := of_decide_eq_false hE; first | omega | (simp only [List.length_append, List.length_take, List.length_drop]; omega)) (fun hE => by have := of_decide_eq_false hE; first | omega | (simp only [List.length_append, List.length_take, List.length_drop]; omega)) (fun hE => by have := of_decide_eq_false hE; first | omega | (simp only [List.length_append, List.length_take, List.length_drop]; omega)) (fun hE => by have := of_decide_eq_false hE; first | omega | (simp only [List.length_append, List.length_take, List.length_drop]; omega)) (fun hE => by have := of_decide_eq_false hE; first | omega | (simp only [List.length_append, List.length_take, List.length_drop]; omega)) (fun hE => by have := of_decide_eq_false hE; first | omega | (simp only [List.length_append, List.length_take, List.length_drop]; omega))) ?_
  by_cases hq : k + 1 = ns.length
  · rw [decide_eq_true hq, if_pos rfl, erase_last ns k hq, show k = ns.length - 1 by omega]
  · rw [decide_eq_false hq, erase_take ns k hk, show k + (ns.length - (k + 1)) = ns.length - 1 by omega]; rfl
theorem delV {is : List Val} {k : Nat} (hk : k < is.length) (hl : is.length * 80 ≤ 140737488355328) : Runs lp 53 [.rs 0 0 (List.length is), .p (.int .i64 (k : Int)), .p (.int .i64 (IntKind.wrap .i64 ((k : Int) + 1)))] [.row (rowS (rowsV is))] (.rs 0 0 (List.length is - 1), [.row (rowSZ (rowsV (is.eraseIdx k)))]) := by
  have h1 := kwrap hk (by omega)
  have h2 := kne hk (by omega)
  refine ifE (delV0 (h2) (h1) (by omega) (by omega) (by omega) (by omega) (by omega) (by omega) (fun hE => by have := of_decide_eq_true hE; omega) (fun hE => by have := of_decide_eq_true hE; omega) (fun hE => by have := of_decide_eq_true hE; omega) (fun hE => by have := of_decide_eq_false hE; first | omega | (simp only [List.length_append, List.length_take, List.length_drop]; omega)) (fun hE => by have := of_decide_eq_false hE; first | omega | (simp only [List.length_append, List.length_take, List.length_drop]; omega)) (fun hE => by have := of_decide_eq_false hE; first | omega | (simp only [List.length_append, List.length_take, List.length_drop]; omega)) (fun hE => by have := of_decide_eq_false hE; first | omega | (simp only [List.length_append, List.length_take, List.length_drop]; omega)) (fun hE => by have := of_decide_eq_false hE; first | omega | (simp only [List.length_append, List.length_take, List.length_drop]; omega)) (fun hE => by have := of_decide_eq_false hE; first | omega | (simp only [List.length_append, List.length_take, List.length_drop]; omega)) (fun hE => by have := of_decide_eq_false hE; first | omega | (simp only [List.length_append, List.length_take, List.length_drop]; omega)) (fun hE => by have := of_decide_eq_false hE; first | omega | (simp only [List.length_append, List.length_take, List.length_drop]; omega)) (fun hE => by have := of_decide_eq_false hE; first | omega | (simp only [List.length_append, List.length_take, List.length_drop]; omega)) (fun hE => by have := of_decide_eq_false hE; first | omega | (simp only [List.length_append, List.length_take, List.length_drop]; omega)) (fun hE => by have := of_decide_eq_false hE; first | omega | (simp only [List.length_append, List.length_take, List.length_drop]; omega)) (fun hE => by have := of_decide_eq_false hE; first | omega | (simp only [List.length_append, List.length_take, List.length_drop]; omega))) ?_
  by_cases hq : k + 1 = is.length
  · rw [decide_eq_true hq, if_pos rfl, erase_last is k hq, show k = is.length - 1 by omega]
  · rw [decide_eq_false hq, erase_take is k hk, show k + (is.length - (k + 1)) = is.length - 1 by omega]; rfl
theorem tWithout {v : Val} {i : Nat} {j : Int} (hv : okV v) (hi : i < (iV v).length) (hn : kV v ≠ 6 → i < (mV v).length) (hj : j = (i : Int)) : Runs lp 40 [encV v, .p (.int .i64 j)] [] (encV (withoutV v i), []) := by
  subst hj
  have sw := tSwap (i := i) (j := (i : Int)) (x := nullV) hv hi rfl
  obtain ⟨k, n, s, is, ns⟩ := v
  obtain ⟨_, hnn, hs, hil, hnl, hns, his⟩ := okV_inv hv
  simp only [iV, kV, mV] at hi hn
  have hne : is ≠ [] := by rintro rfl; simp at hi
  have hK : (k == 6) = false → i < ns.length := fun h => hn (by simpa using h)
  have hnn2 : (k == 6) = false → ns ≠ [] := fun h e => by have := hK h; subst e; simp at this
  have le1 := List.length_eraseIdx_of_lt hi
  refine ifE (wo0 (fun hK6 => tNull) (fun hK6 => sw) (fun hK6 => clV hil hne) (fun hK6 => delV hi hil) (fun hK6 => cloneR hnl (hnn2 hK6)) (fun hK6 => delN (hK hK6) hnl) (fun hK6 => by rw [rowsV_len, le1]) (fun hK6 => by have le2 := List.length_eraseIdx_of_lt (hK hK6); rw [rowsN_len, List.length_append, le2]; simp) (fun hK6 => by have le2 := List.length_eraseIdx_of_lt (hK hK6); rw [rowsN_append, List.take_append_of_le_length (by rw [rowsN_len, le2]; exact Nat.le_refl _), List.take_of_length_le (by rw [rowsN_len, le2]; exact Nat.le_refl _)])) ?_
  rw [withoutV]
  cases h6 : (k == 6) <;> rfl
theorem tCut1 {v y : Val} {i : Nat} {j c : Int} (hv : okV v) (hy : (iV v)[i]? = some y) (hc : 0 ≤ c) (hj : j = (i : Int)) : Runs lp 41 [encV v, .p (.int .i64 j), .ptr 0 0 0] [.row [[.p (.int .i64 c)]]] (encV (cutV c v i), [.row [[.p (.int .i64 c)]]]) := by
  subst hj
  have sw := tSwap (i := i) (j := (i : Int)) (x := .mk (kV y) (nV y) (sV y) ((iV y).take c.toNat) (mV y)) hv (List.getElem?_eq_some_iff.1 hy).1 rfl
  have e1 : (kV y == 6) = true → (((iV y).length : Int) ≤ c) → cutV c v i = v := fun a b => by rw [cutV_eq hy, if_neg (by simp only [Bool.and_eq_true, decide_eq_true_eq, not_and]; intro _; omega)]
  have e2 : (kV y == 6) = true → ¬ (((iV y).length : Int) ≤ c) → cutV c v i = swapV v i (.mk (kV y) (nV y) (sV y) ((iV y).take c.toNat) (mV y)) := fun a b => by rw [cutV_eq hy, if_pos (by simp only [Bool.and_eq_true, decide_eq_true_eq]; exact ⟨a, by omega⟩)]
  have e3 : (kV y == 6) = false → cutV c v i = v := fun a => by rw [cutV_eq hy, if_neg (by rw [a]; simp)]
  obtain ⟨k, n, s, is, ns⟩ := v
  obtain ⟨ke, ne, se, ise, nse⟩ := y
  refine ifE (cu0 (ke := ke) (ne := ne) (se := se) (ise := ise) (nse := nse) (hy) (fun _ h' => (Int.toNat_of_nonneg hc).symm) (fun _ h' => by have h := of_decide_eq_false h'; rw [rowsV_len] at h; omega) (fun _ h' => sw)) ?_
  simp only [kV, iV] at e1 e2 e3
  rw [rowsV_len]
  by_cases h6 : (ke == 6) = true
  · rw [if_pos h6]
    by_cases hl : (ise.length : Int) ≤ c
    · rw [decide_eq_true hl, if_pos rfl, e1 h6 hl]
    · rw [decide_eq_false hl, e2 h6 hl]; rfl
  · rw [if_neg h6, e3 (by simpa using h6)]
theorem placeN {v : Val} {p : List UInt8} {i : Nat} (hm : mayV v = true) (h : placeV v p = (i : Int)) : kV v ≠ 6 → i < (mV v).length := by
  intro hk
  obtain ⟨k, n, s, is, ns⟩ := v
  by_cases h7 : k = 7
  · subst h7
    rw [place7] at h
    split at h
    · rename_i hp
      have := List.idxOf_lt_length_of_mem hp
      simp only [mV]; omega
    · omega
  · rw [placeO (show k ≠ 6 from hk) h7] at h; omega
theorem lenP1 {p q : List UInt8} {r : List (List UInt8)} : decide (((List.length (rowsN (p :: q :: r)) : Nat) : Int) > 1) = true := by rw [rowsN_len, decide_eq_true_eq]; simp only [List.length_cons]; omega
theorem lenP0 {p : List UInt8} : decide (((List.length (rowsN [p]) : Nat) : Int) > 1) = false := by simp [rowsN]
theorem tAtW {B : Nat} (hB : B ≤ 1000000000) : ∀ (ps : List (List UInt8)) (v : Val), ps ≠ [] → okW B v → mayV v = true →
    Runs lp 39 [encV v, .p (.sl (rowsN ps)), .fn (.func 40) [] []] [] (encV (atV withoutV ps v), [])
  | [], v, hne, hv, hm => absurd rfl hne
  | p :: r, v, hne, hv, hm => by
    have hvo := okW_okV (by omega) _ hv
    have hplc := tPlace (st := p) hvo
    rcases place_cases hm p with h | ⟨i, y, h, hi, hym, hy⟩
    · rw [atV_none h]
      obtain ⟨k, n, s, is, ns⟩ := v
      have no : ∀ {q : Prop}, decide (placeV (.mk k n s is ns) p < 0) = false → q := fun hP => by rw [h] at hP; simp at hP
      refine ifE (atW (ke := 0) (ne := 0) (se := []) (ise := []) (nse := []) (Y := nullV) (W := nullV) (hplc) (fun hP hQ => no hP) (fun hP hQ => no hP) (fun hP hQ => no hP) (fun hP hQ => no hP) (fun hP hQ => no hP)) ?_
      rw [h]; rfl
    · have hlt := (List.getElem?_eq_some_iff.1 hi).1
      have ht : (placeV v p).toNat = i := by rw [h]; simp
      have hge : decide ((i : Int) < 0) = false := by simp
      cases r with
      | nil =>
        have wo := tWithout (j := placeV v p) hvo hlt (placeN hm h) h
        have e : atV withoutV [p] v = withoutV v i := by rw [atV_one, h, if_neg (by omega), Int.toNat_natCast]
        rw [e]
        generalize hW : withoutV v i = W at *
        obtain ⟨kW, nW, sW, iW, mW⟩ := W
        obtain ⟨k, n, s, is, ns⟩ := v
        have no : ∀ {q : Prop}, decide (placeV (.mk k n s is ns) p < 0) = true → q := fun hP => by rw [h] at hP; simp at hP <;> omega
        have no1 : ∀ {q : Prop}, decide (((List.length (rowsN [p]) : Nat) : Int) > 1) = true → q := fun hP => by rw [lenP0] at hP; cases hP
        refine ifE (atW (ke := 0) (ne := 0) (se := []) (ise := []) (nse := []) (Y := nullV) (W := .mk kW nW sW iW mW) (hplc) (fun hP hQ => no1 hQ) (fun hP hQ => no1 hQ) (fun hP hQ => no1 hQ) (fun hP hQ => no1 hQ) (fun hP hQ => wo)) ?_
        rw [h, hge, lenP0]; rfl
      | cons q t =>
        have ih := tAtW hB (q :: t) y (by simp) (okW_items hv hi) hy
        rw [atV_two h hi]
        generalize hS : atV withoutV (q :: t) y = Y at *
        obtain ⟨kY, nY, sY, iY, mY⟩ := Y
        have sw := tSwap (i := i) (j := placeV v p) (x := .mk kY nY sY iY mY) hvo hlt h
        obtain ⟨k, n, s, is, ns⟩ := v
        obtain ⟨ke, ne, se, ise, nse⟩ := y
        have no : ∀ {q : Prop}, decide (placeV (.mk k n s is ns) p < 0) = true → q := fun hP => by rw [h] at hP; simp at hP <;> omega
        have no1 : ∀ {q_1 : Prop}, decide (((List.length (rowsN (p :: q :: t)) : Nat) : Int) > 1) = false → q_1 := fun hP => by rw [lenP1] at hP; cases hP
        refine ifE (atW (ke := ke) (ne := ne) (se := se) (ise := ise) (nse := nse) (Y := .mk kY nY sY iY mY) (W := nullV) (hplc) (fun hP hQ => by rw [h]; omega) (fun hP hQ => by rw [ht]; exact hi) (fun hP hQ => ih) (fun hP hQ => by rw [ht]; exact sw) (fun hP hQ => no1 hQ)) ?_
        rw [ht, h, hge, lenP1]; rfl
theorem tAtC {B : Nat} (hB : B ≤ 1000000000) {c : Int} (hc : 0 ≤ c) : ∀ (ps : List (List UInt8)) (v : Val), ps ≠ [] → okW B v → mayV v = true →
    Runs lp 39 [encV v, .p (.sl (rowsN ps)), .fn (.func 41) [] [.ptr 0 0 0]] [.row [[.p (.int .i64 c)]]] (encV (atV (cutV c) ps v), [.row [[.p (.int .i64 c)]]])
  | [], v, hne, hv, hm => absurd rfl hne
  | p :: r, v, hne, hv, hm => by
    have hvo := okW_okV (by omega) _ hv
    have hplc := tPlace (st := p) hvo
    rcases place_cases hm p with h | ⟨i, y, h, hi, hym, hy⟩
    · rw [atV_none h]
      obtain ⟨k, n, s, is, ns⟩ := v
      have no : ∀ {q : Prop}, decide (placeV (.mk k n s is ns) p < 0) = false → q := fun hP => by rw [h] at hP; simp at hP
      refine ifE (atC (cn := c) (ke := 0) (ne := 0) (se := []) (ise := []) (nse := []) (Y := nullV) (W := nullV) (hplc) (fun hP hQ => no hP) (fun hP hQ => no hP) (fun hP hQ => no hP) (fun hP hQ => no hP) (fun hP hQ => no hP)) ?_
      rw [h]; rfl
    · have hlt := (List.getElem?_eq_some_iff.1 hi).1
      have ht : (placeV v p).toNat = i := by rw [h]; simp
      have hge : decide ((i : Int) < 0) = false := by simp
      cases r with
      | nil =>
        have wo := tCut1 (j := placeV v p) hvo hi hc h
        have e : atV (cutV c) [p] v = cutV c v i := by rw [atV_one, h, if_neg (by omega), Int.toNat_natCast]
        rw [e]
        generalize hW : cutV c v i = W at *
        obtain ⟨kW, nW, sW, iW, mW⟩ := W
        obtain ⟨k, n, s, is, ns⟩ := v
        have no : ∀ {q : Prop}, decide (placeV (.mk k n s is ns) p < 0) = true → q := fun hP => by rw [h] at hP; simp at hP <;> omega
        have no1 : ∀ {q : Prop}, decide (((List.length (rowsN [p]) : Nat) : Int) > 1) = true → q := fun hP => by rw [lenP0] at hP; cases hP
        refine ifE (atC (cn := c) (ke := 0) (ne := 0) (se := []) (ise := []) (nse := []) (Y := nullV) (W := .mk kW nW sW iW mW) (hplc) (fun hP hQ => no1 hQ) (fun hP hQ => no1 hQ) (fun hP hQ => no1 hQ) (fun hP hQ => no1 hQ) (fun hP hQ => wo)) ?_
        rw [h, hge, lenP0]; rfl
      | cons q t =>
        have ih := tAtC hB hc (q :: t) y (by simp) (okW_items hv hi) hy
        rw [atV_two h hi]
        generalize hS : atV (cutV c) (q :: t) y = Y at *
        obtain ⟨kY, nY, sY, iY, mY⟩ := Y
        have sw := tSwap (i := i) (j := placeV v p) (x := .mk kY nY sY iY mY) hvo hlt h
        obtain ⟨k, n, s, is, ns⟩ := v
        obtain ⟨ke, ne, se, ise, nse⟩ := y
        have no : ∀ {q : Prop}, decide (placeV (.mk k n s is ns) p < 0) = true → q := fun hP => by rw [h] at hP; simp at hP <;> omega
        have no1 : ∀ {q_1 : Prop}, decide (((List.length (rowsN (p :: q :: t)) : Nat) : Int) > 1) = false → q_1 := fun hP => by rw [lenP1] at hP; cases hP
        refine ifE (atC (cn := c) (ke := ke) (ne := ne) (se := se) (ise := ise) (nse := nse) (Y := .mk kY nY sY iY mY) (W := nullV) (hplc) (fun hP hQ => by rw [h]; omega) (fun hP hQ => by rw [ht]; exact hi) (fun hP hQ => ih) (fun hP hQ => by rw [ht]; exact sw) (fun hP hQ => no1 hQ)) ?_
        rw [ht, h, hge, lenP1]; rfl
end Go.Proofs.Ytpkmddkodchanaa
