import Derived.Test.YtpkmddkodchanaaLsTreW
set_option linter.unusedVariables false
set_option linter.unusedSimpArgs false
set_option maxRecDepth 100000
namespace Go.Proofs.Ytpkmddkodchanaa
open Go Go.LS
theorem sIxL {s : List UInt8} {ns : List (List UInt8)} (hl : ns.length ≤ 140737488355328) : ∀ (j i : Nat), i + j = ns.length →
    ((ns.drop i).contains s = true → ∃ m : Nat, idxN s (ns.drop i) (i : Int) = (m : Int) ∧ m < ns.length ∧ LoopN lp 0 (loopNo lf44 0) (tl 0 19 [(0, .p (.sl (rowsN ns))), (1, .p (.str s)), (7, .p (.int .i64 ((List.length (rowsN ns) : Nat) : Int))), (8, .p (.int .i64 (i : Int)))]) [] (.ret, tl 0 19 [(4, .p (.int .i64 (m : Int)))], [])) ∧
    ((ns.drop i).contains s = false → LoopN lp 0 (loopNo lf44 0) (tl 0 19 [(0, .p (.sl (rowsN ns))), (1, .p (.str s)), (7, .p (.int .i64 ((List.length (rowsN ns) : Nat) : Int))), (8, .p (.int .i64 (i : Int)))]) [] (.exit 0, tl 0 19 [], [])) := by
  intro j
  induction j with
  | zero =>
    intro i h
    obtain rfl : i = ns.length := by omega
    rw [List.drop_length]
    exact ⟨fun h => by simp at h, fun _ => sIxR_n (by rw [rowsN_len]; exact dlt_n)⟩
  | succ j ih =>
    intro i h
    have hi : i < ns.length := by omega
    have hx : ns[i]? = some ns[i] := List.getElem?_eq_getElem hi
    have e := getD_get hx
    obtain ⟨i1, i2⟩ := ih (i + 1) (by omega)
    rw [drop_get hx, List.contains_cons]
    cases hp : (s == ns[i]) with
    | true =>
      refine ⟨fun _ => ⟨i, by rw [idxN, hp]; rfl, hi, sIxR_yy (by rw [rowsN_len]; exact dlt hi) hi (by rw [e]; exact hp)⟩, fun h => by simp at h⟩
    | false =>
      rw [Bool.false_or]
      refine ⟨fun hc => ?_, fun hc => sIxR_yn (by rw [rowsN_len]; exact dlt hi) hi (by rw [e]; exact hp) (by rw [nx (by omega)]; exact i2 hc)⟩
      obtain ⟨m, a, b, c⟩ := i1 hc
      exact ⟨m, by rw [idxN, hp]; exact a, b, sIxR_yn (by rw [rowsN_len]; exact dlt hi) hi (by rw [e]; exact hp) (by rw [nx (by omega)]; exact c)⟩
theorem sIndex {s : List UInt8} {ns : List (List UInt8)} (hl : ns.length ≤ 140737488355328) : Runs lp 44 [.p (.sl (rowsN ns)), .p (.str s)] [] (.p (.int .i64 (idxN s ns 0)), []) := by
  obtain ⟨l1, l2⟩ := sIxL (s := s) hl ns.length 0 (by omega)
  rw [List.drop_zero] at l1 l2
  cases hc : ns.contains s with
  | true =>
    obtain ⟨m, a, b, c⟩ := l1 hc
    replace a : idxN s ns 0 = (m : Int) := a
    refine ifE (sIx0 (i := m) (fun _ => c) (fun h => by rw [hc] at h; cases h)) ?_
    rw [hc, a]; rfl
  | false =>
    refine ifE (sIx0 (i := 0) (fun h => by rw [hc] at h; cases h) (fun _ => l2 hc)) ?_
    rw [hc, idxN_none _ _ hc]; rfl
theorem tPlace {v : Val} {st : List UInt8} (hok : okV v) : Runs lp 28 [encV v, .p (.str st)] [] (.p (.int .i64 (placeV v st)), []) := by
  obtain ⟨k, n, s, is, ns⟩ := v
  obtain ⟨_, hn, hs, hil, hnl, hns, his⟩ := okV_inv hok
  refine ifE (tPl0 (fun _ => sIndex (by omega)) (fun _ _ => pIx st)) ?_
  simp only [placeV, rowsV_len]
  cases h7 : (k == 7) with
  | true => rfl
  | false =>
    cases h6 : (k == 6) with
    | false => rfl
    | true =>
      cases hx : idxB st with
      | none => simp <;> omega
      | some r =>
        by_cases hr : r < (is.length : Int)
        · simp [hr]
        · simp [hr]
theorem rPlL {k n : Int} {s st : List UInt8} {is : List Val} {ns : List (List UInt8)} (hl : ns.length ≤ 140737488355328) : ∀ (j i : Nat), i + j = ns.length →
    ((ns.drop i).contains st = true → ∃ m : Nat, idxN st (ns.drop i) (i : Int) = (m : Int) ∧ m < ns.length ∧ LoopN lp 0 (loopNo lf31 0) (tl 0 36 [(1, .p (.str st)), (2, .ptr 0 0 0), (6, .p (.int .i64 (i : Int)))]) [.row [[.p (.int .i64 k), .p (.int .i64 n), .p (.str s), .p (.sl (rowsV is)), .p (.sl (rowsN ns))]]] (.ret, tl 0 36 [(4, .p (.int .i64 (m : Int)))], [.row [[.p (.int .i64 k), .p (.int .i64 n), .p (.str s), .p (.sl (rowsV is)), .p (.sl (rowsN ns))]]])) ∧
    ((ns.drop i).contains st = false → LoopN lp 0 (loopNo lf31 0) (tl 0 36 [(1, .p (.str st)), (2, .ptr 0 0 0), (6, .p (.int .i64 (i : Int)))]) [.row [[.p (.int .i64 k), .p (.int .i64 n), .p (.str s), .p (.sl (rowsV is)), .p (.sl (rowsN ns))]]] (.exit 0, tl 0 36 [], [.row [[.p (.int .i64 k), .p (.int .i64 n), .p (.str s), .p (.sl (rowsV is)), .p (.sl (rowsN ns))]]])) := by
  intro j
  induction j with
  | zero =>
    intro i h
    obtain rfl : i = ns.length := by omega
    rw [List.drop_length]
    exact ⟨fun h => by simp at h, fun _ => rPlR_n (by rw [rowsN_len]; exact dlt_n)⟩
  | succ j ih =>
    intro i h
    have hi : i < ns.length := by omega
    have hx : ns[i]? = some ns[i] := List.getElem?_eq_getElem hi
    have e := getD_get hx
    obtain ⟨i1, i2⟩ := ih (i + 1) (by omega)
    rw [drop_get hx, List.contains_cons]
    have ec : (ns[i] == st) = (st == ns[i]) := by rw [Bool.eq_iff_iff]; simp only [beq_iff_eq]; exact ⟨fun h => h.symm, fun h => h.symm⟩
    cases hp : (st == ns[i]) with
    | true =>
      refine ⟨fun _ => ⟨i, by rw [idxN, hp]; rfl, hi, rPlR_yy (by rw [rowsN_len]; exact dlt hi) hi (by rw [e, ec]; exact hp)⟩, fun h => by simp at h⟩
    | false =>
      rw [Bool.false_or]
      refine ⟨fun hc => ?_, fun hc => rPlR_yn (by rw [rowsN_len]; exact dlt hi) hi (by rw [e, ec]; exact hp) (by rw [nx (by omega)]; exact i2 hc)⟩
      obtain ⟨m, a, b, c⟩ := i1 hc
      exact ⟨m, by rw [idxN, hp]; exact a, b, rPlR_yn (by rw [rowsN_len]; exact dlt hi) hi (by rw [e, ec]; exact hp) (by rw [nx (by omega)]; exact c)⟩
theorem rPlace {v : Val} {st : List UInt8} (hok : okV v) : Runs lp 31 [encV v, .p (.str st)] [] (.p (.int .i64 (placeV v st)), []) := by
  obtain ⟨k, n, s, is, ns⟩ := v
  obtain ⟨_, hn, hs, hil, hnl, hns, his⟩ := okV_inv hok
  obtain ⟨l1, l2⟩ := rPlL (k := k) (n := n) (s := s) (st := st) (is := is) (ns := ns) (by omega) ns.length 0 (by omega)
  rw [List.drop_zero] at l1 l2
  simp only [placeV]
  cases hc : ns.contains st with
  | true =>
    obtain ⟨m, a, b, c⟩ := l1 hc
    replace a : idxN st ns 0 = (m : Int) := a
    refine ifE (rPl0 (i := m) (fun _ => rIx st) (fun _ _ _ => c) (fun _ _ h => by rw [hc] at h; cases h)) ?_
    rw [hc, rowsV_len]
    cases h6 : (k == 6) with
    | true =>
      have h7 : (k == 7) = false := by have := eq_of_beq h6; subst this; rfl
      rw [h7]
      by_cases hr : Option.getD (idxB st) (-1) < (is.length : Int) <;> simp [hr]
    | false => cases h7 : (k == 7) <;> simp; exact a.symm
  | false =>
    refine ifE (rPl0 (i := 0) (fun _ => rIx st) (fun _ _ h => by rw [hc] at h; cases h) (fun _ _ _ => l2 hc)) ?_
    rw [hc, rowsV_len]
    cases h6 : (k == 6) with
    | true =>
      have h7 : (k == 7) = false := by have := eq_of_beq h6; subst this; rfl
      rw [h7]
      by_cases hr : Option.getD (idxB st) (-1) < (is.length : Int) <;> simp [hr]
    | false => cases h7 : (k == 7) <;> simp; exact (idxN_none _ _ hc).symm
theorem idxN_range {s : List UInt8} : ∀ (l : List (List UInt8)) (i : Int), 0 ≤ i → 0 ≤ idxN s l i → idxN s l i < i + l.length
  | [], i, _, h => by simp [idxN] at h
  | x :: r, i, h0, h => by
    rw [idxN] at h ⊢
    split at h
    · rename_i hc; rw [if_pos hc]; simp only [List.length_cons]; omega
    · rename_i hc
      rw [if_neg hc]
      have := idxN_range r (i + 1) (by omega) h
      simp only [List.length_cons]; omega
theorem place_in {v : Val} {st : List UInt8} (hm : mayV v = true) (h : ¬ placeV v st < 0) : ∃ x, (itemsV5 v)[(placeV v st).toNat]? = some x ∧ mayV x = true := by
  obtain ⟨k, n, s, is, ns⟩ := v
  have hi := (mayV_inv hm).1
  have hlt : (placeV (.mk k n s is ns) st).toNat < is.length := by
    simp only [placeV] at h ⊢
    cases h7 : (k == 7) with
    | true =>
      have e7 : k = 7 := eq_of_beq h7
      rw [h7] at h
      simp only [if_true] at h ⊢
      have hr := idxN_range ns 0 (by omega) (by omega : 0 ≤ idxN st ns 0)
      have hl : ns.length = is.length := by rcases kinds (mayV_inv hm).2 with q | q | q | q | q | q | q <;> first | exact q.2 | (exfalso; have := q.1; omega)
      omega
    | false =>
      rw [h7] at h
      simp only [Bool.false_eq_true, if_false] at h ⊢
      cases h6 : (k == 6) with
      | false => rw [h6] at h; simp at h
      | true =>
        rw [h6] at h
        simp only [if_true] at h ⊢
        split at h
        · rename_i hc; rw [if_pos hc]; omega
        · simp at h
  refine ⟨is[(placeV (.mk k n s is ns) st).toNat], List.getElem?_eq_getElem hlt, hi _ (List.getElem_mem hlt)⟩
theorem rGetL {ps : List (List UInt8)} (hl : ps.length ≤ 140737488355328) : ∀ (j i : Nat) (v : Val), i + j = ps.length → okV v → mayV v = true →
    (∀ x, getV (ps.drop i) v = some x → LoopN lp 0 (loopNo lf13 0) (tl 0 29 [(1, .p (.sl (rowsN ps))), (2, .ptr 0 0 0), (4, .ptr 1 0 0), (6, .p (.int .i64 (i : Int)))])
      [.row [(rowV v).map .p], .row [[.p (.int .i64 0), .p (.int .i64 0), .p (.str []), .tight [], .tight []]]] (.exit 0, tl 0 29 [(2, .ptr 0 0 0), (4, .ptr 1 0 0)], [.row [(rowV x).map .p], .row [[.p (.int .i64 0), .p (.int .i64 0), .p (.str []), .tight [], .tight []]]]) ∧ okV x ∧ mayV x = true) ∧
    (getV (ps.drop i) v = none → ∃ x, LoopN lp 0 (loopNo lf13 0) (tl 0 29 [(1, .p (.sl (rowsN ps))), (2, .ptr 0 0 0), (4, .ptr 1 0 0), (6, .p (.int .i64 (i : Int)))])
      [.row [(rowV v).map .p], .row [[.p (.int .i64 0), .p (.int .i64 0), .p (.str []), .tight [], .tight []]]] (.ret, (tl 0 29 [(4, (.ptr 1 0 0)), (5, .p (.bool false))]), [.row [(rowV x).map .p], .row [[.p (.int .i64 0), .p (.int .i64 0), .p (.str []), .tight [], .tight []]]])) := by
  intro j
  induction j with
  | zero =>
    intro i v h hok hm
    obtain rfl : i = ps.length := by omega
    rw [List.drop_length]
    refine ⟨fun x hx => ?_, fun hx => by simp [getV] at hx⟩
    simp only [getV, Option.some.injEq] at hx
    subst hx
    obtain ⟨k, n, s, is, ns⟩ := v
    exact ⟨rGtR_n (by rw [rowsN_len]; exact dlt_n), hok, hm⟩
  | succ j ih =>
    intro i v h hok hm
    have hi : i < ps.length := by omega
    have hx : ps[i]? = some ps[i] := List.getElem?_eq_getElem hi
    have e := getD_get hx
    have hp := rPlace (st := ps[i]) hok
    rw [drop_get hx]
    simp only [getV]
    by_cases h0 : placeV v ps[i] < 0
    · rw [if_pos h0]
      refine ⟨fun x hx => by simp at hx, fun _ => ?_⟩
      obtain ⟨k, n, s, is, ns⟩ := v
      exact ⟨.mk k n s is ns, rGtR_yy (by rw [rowsN_len]; exact dlt hi) hi (by rw [e]; exact hp) (by rw [e]; exact decide_eq_true h0)⟩
    · obtain ⟨x, hx1, hx2⟩ := place_in hm h0
      rw [if_neg h0, hx1]
      have hxm : x ∈ itemsV5 v := List.mem_of_getElem? hx1
      obtain ⟨k, n, s, is, ns⟩ := v
      obtain ⟨_, hn, hs, hil, hnl, hns, his⟩ := okV_inv hok
      obtain ⟨i1, i2⟩ := ih (i + 1) x (by omega) (his x hxm) hx2
      obtain ⟨ke, ne, se, ise, nse⟩ := x
      have on := fun (r : LOut × List LV × List LObj) hr => rGtR_yn (r := r) ke ne se ise nse (by rw [rowsN_len]; exact dlt hi) hi (by rw [e]; exact hp) (by rw [e]; exact decide_eq_false h0) (by rw [e]; omega) (by rw [e]; exact hx1) hr
      rw [nx (by omega)] at on
      refine ⟨fun y hy => ⟨on _ (i1 y hy).1, (i1 y hy).2⟩, fun hy => ?_⟩
      obtain ⟨y, hy⟩ := i2 hy
      exact ⟨y, on _ hy⟩
end Go.Proofs.Ytpkmddkodchanaa
