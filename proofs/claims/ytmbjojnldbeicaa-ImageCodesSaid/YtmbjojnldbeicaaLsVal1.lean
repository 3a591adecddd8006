import Derived.Test.YtmbjojnldbeicaaLsValW
set_option linter.unusedVariables false
set_option linter.unusedSimpArgs false
set_option maxRecDepth 100000
set_option linter.unusedSimpArgs false
namespace Go.Proofs.Ytmbjojnldbeicaa
open Go Go.LS
theorem nodup_takes : ∀ (ns : List (List UInt8)), (List.range ns.length).all (fun i => !((ns.take i).contains (ns.getD i []))) = !twiceB ns := by
  have two : ∀ l : List (List UInt8), twiceB l = false ↔ l.Nodup := by
    intro l
    induction l with
    | nil => simp [twiceB]
    | cons x r ih => simp only [twiceB, Bool.or_eq_false_iff, List.nodup_cons, ih, List.contains_eq_mem, decide_eq_false_iff_not]
  intro ns
  rw [Bool.eq_iff_iff, Bool.not_eq_true', two]
  simp only [List.all_eq_true, List.mem_range, Bool.not_eq_true', List.contains_eq_mem, decide_eq_false_iff_not]
  rw [List.Nodup, List.pairwise_iff_getElem]
  constructor
  · intro h i j hi hj hij he
    refine h j hj ?_
    rw [List.mem_take_iff_getElem]
    refine ⟨i, by omega, ?_⟩
    rw [List.getD, List.getElem?_eq_getElem hj]
    simpa using he
  · intro h i hi hm
    rw [List.mem_take_iff_getElem] at hm
    obtain ⟨j, hj, he⟩ := hm
    refine h j i (by omega) hi (by omega) ?_
    rw [List.getD, List.getElem?_eq_getElem hi] at he
    simpa using he
theorem dlt {i n : Nat} (h : i < n) : decide ((i : Int) < ((n : Nat) : Int)) = true := decide_eq_true (by omega)
theorem dlt_n {n : Nat} : decide (((n : Nat) : Int) < ((n : Nat) : Int)) = false := decide_eq_false (by omega)
theorem rTwice {ns : List (List UInt8)} (hl : ns.length ≤ 140737488355328) : Runs lp 69 [.p (.sl (rowsN ns))] [] (.p (.bool (twiceB ns)), []) := by
  have inner : ∀ i, i < ns.length → LoopN lp 0 (loopNo lf69 1) (tl 0 25 [(0, .p (.sl (rowsN ns))), (3, .p (.int .i64 (i : Int))), (4, .p (.int .i64 0))]) []
      (if (ns.take i).all (fun x => !(ns.getD i [] == x)) = true then (.exit 2, tl 0 25 [(0, .p (.sl (rowsN ns))), (3, .p (.int .i64 (i : Int)))], []) else (.ret, tl 0 25 [(2, .p (.bool true))], [])) := by
    intro i hi
    refine loop_all (fun j => tl 0 25 [(0, .p (.sl (rowsN ns))), (3, .p (.int .i64 (i : Int))), (4, .p (.int .i64 (j : Int)))]) [] (ns.take i) (fun x => !(ns.getD i [] == x)) ?_ ?_ ?_
    · intro j x hx hp
      obtain ⟨hj, rfl⟩ := List.getElem?_eq_some_iff.1 hx
      simp only [List.length_take, List.getElem_take] at hj hp
      refine rTwJ_yy (dlt (by omega)) hi (by omega) ?_
      simp only [Bool.not_eq_false'] at hp
      rw [List.getD_eq_getElem?_getD (l := ns) (i := j), List.getElem?_eq_getElem (by omega)]
      exact hp
    · intro j x r hx hp hr
      obtain ⟨hj, rfl⟩ := List.getElem?_eq_some_iff.1 hx
      simp only [List.length_take, List.getElem_take] at hj hp
      refine rTwJ_yn (dlt (by omega)) hi (by omega) ?_ ?_
      · simp only [Bool.not_eq_true'] at hp
        rw [List.getD_eq_getElem?_getD (l := ns) (i := j), List.getElem?_eq_getElem (by omega)]
        exact hp
      · rw [nx (by omega)]; exact hr
    · have e : (ns.take i).length = i := by simp; omega
      rw [e]
      exact rTwJ_n dlt_n
  have outer := loop_all (lp := lp) (k := 0) (L := loopNo lf69 0) (fun i => tl 0 25 [(0, .p (.sl (rowsN ns))), (3, .p (.int .i64 (i : Int)))]) [] (List.range ns.length) (fun i => !((ns.take i).contains (ns.getD i [])))
    (rF := (.ret, tl 0 25 [(2, .p (.bool true))], [])) (rT := (.exit 0, tl 0 25 [], []))
    (by
      intro i x hx hp
      obtain ⟨hi, rfl⟩ := List.getElem?_eq_some_iff.1 hx
      simp only [List.length_range, List.getElem_range] at hi hp ⊢
      refine rTwI_yy (metB := true) (by rw [rowsN_len]; exact dlt hi) rfl ?_
      have := inner i hi
      rwa [if_neg] at this
      simp only [Bool.not_eq_false', List.contains_eq_mem, decide_eq_true_eq] at hp
      simp only [List.all_eq_true, Bool.not_eq_true']
      intro h
      have := h _ hp
      simp at this)
    (by
      intro i x r hx hp hr
      obtain ⟨hi, rfl⟩ := List.getElem?_eq_some_iff.1 hx
      simp only [List.length_range, List.getElem_range] at hi hp ⊢
      refine rTwI_yn (metB := false) (by rw [rowsN_len]; exact dlt hi) rfl ?_ ?_
      · have := inner i hi
        rwa [if_pos] at this
        simp only [Bool.not_eq_true', List.contains_eq_mem, decide_eq_false_iff_not] at hp
        simp only [List.all_eq_true, Bool.not_eq_true', beq_eq_false_iff_ne]
        intro x hx he
        exact hp (he ▸ hx)
      · rw [nx (by omega)]; exact hr)
    (by
      simp only [List.length_range]
      exact rTwI_n (by rw [rowsN_len]; exact dlt_n))
  rw [nodup_takes] at outer
  have h := @rTw ns (fun h => by rw [h] at outer; exact outer) (fun h => by rw [h] at outer; exact outer)
  cases e : twiceB ns with
  | true => rw [e] at h; exact h
  | false => rw [e] at h; exact h
theorem vNames_loop {ns : List (List UInt8)} (hl : ns.length ≤ 140737488355328) : ∀ (k i : Nat), k + i = ns.length → ∃ ms,
    LoopN lp 0 (loopNo lf70 0) (tl 0 24 [(3, .mp 0), (7, .p (.sl (rowsN ns))), (8, .p (.int .i64 ((List.length (rowsN ns) : Nat) : Int))), (9, .p (.int .i64 (i : Int)))]) [.map (seenM (ns.take i))]
      (if (ns.drop i).all (fun x => nameB x && !(ns.take i).contains x) && !twiceB (ns.drop i) then (.exit 0, tl 0 24 [], [.map (seenM ms)]) else (.ret, tl 0 24 [(2, .p (.bool false))], [.map (seenM ms)])) := by
  intro k
  induction k with
  | zero =>
    intro i h
    refine ⟨ns.take i, ?_⟩
    rw [List.drop_eq_nil_of_le (by omega)]
    exact vNamesR_n (by rw [rowsN_len]; exact decide_eq_false (by omega))
  | succ k ih =>
    intro i h
    have hi : i < ns.length := by omega
    have e : ns.drop i = ns.getD i [] :: ns.drop (i + 1) := by
      rw [List.drop_eq_getElem_cons hi, List.getD, List.getElem?_eq_getElem hi]; rfl
    have c1 : (decide ((i : Int) < ((List.length (rowsN ns) : Nat) : Int))) = true := by rw [rowsN_len]; exact decide_eq_true (by omega)
    have et : ns.take (i + 1) = ns.take i ++ [ns.getD i []] := by
      rw [List.take_add_one, List.getD, List.getElem?_eq_getElem hi]; rfl
    rw [e]
    generalize hx : ns.getD i [] = x at *
    have hnm : Runs lp 81 [.p (.str (ns.getD i []))] [] (.p (.bool (nameB (ns.getD i []))), []) := vName _
    cases hn : nameB x with
    | false =>
      refine ⟨ns.take i, ?_⟩
      rw [if_neg (by simp [hn])]
      exact vNamesR_yn c1 hi hnm (by rw [hx]; exact hn)
    | true =>
      cases hc : (ns.take i).contains x with
      | true =>
        refine ⟨ns.take i, ?_⟩
        rw [if_neg (by simp only [List.all_cons, hc]; simp)]
        exact vNamesR_yyy c1 hi hnm (by rw [hx]; exact hn) (by rw [hx]; exact hc)
      | false =>
        obtain ⟨ms, ihh⟩ := ih (i + 1) (by omega)
        refine ⟨ms, ?_⟩
        have eq : ((x :: ns.drop (i + 1)).all (fun x => nameB x && !(ns.take i).contains x) && !twiceB (x :: ns.drop (i + 1))) = ((ns.drop (i + 1)).all (fun x => nameB x && !(ns.take (i + 1)).contains x) && !twiceB (ns.drop (i + 1))) := by
          rw [List.all_cons, hn, hc, twiceB, et]
          simp only [Bool.not_false, Bool.true_and]
          rw [Bool.eq_iff_iff]
          simp only [Bool.and_eq_true, List.all_eq_true, Bool.not_eq_true', Bool.or_eq_false_iff, List.contains_eq_mem, List.mem_append, List.mem_singleton, decide_eq_false_iff_not, Bool.or_eq_true, decide_eq_true_eq, not_or]
          constructor
          · rintro ⟨h1, h2, h3⟩
            refine ⟨fun y hy => ⟨(h1 y hy).1, (h1 y hy).2, ?_⟩, h3⟩
            rintro rfl
            exact h2 hy
          · rintro ⟨h1, h3⟩
            exact ⟨fun y hy => ⟨(h1 y hy).1, (h1 y hy).2.1⟩, fun hm => (h1 x hm).2.2 rfl, h3⟩
        rw [eq]
        refine vNamesR_yyn c1 hi hnm (by rw [hx]; exact hn) (by rw [hx]; exact hc) (by rw [hx]; exact hc) ?_
        rw [hx, wrap_i64 (by omega) (by omega), ← et]
        exact ihh
theorem vNames {ns : List (List UInt8)} (hl : ns.length ≤ 140737488355328) : Runs lp 70 [.p (.sl (rowsN ns))] [] (.p (.bool (okNamesB ns)), []) := by
  obtain ⟨ms, h⟩ := vNames_loop hl ns.length 0 rfl
  rw [List.drop_zero] at h
  have e : (ns.all (fun x => nameB x && !(ns.take 0).contains x)) = ns.all nameB := by simp
  rw [e] at h
  unfold okNamesB
  cases hc : (ns.all nameB && !twiceB ns) with
  | true => rw [hc, if_pos rfl] at h; exact vNames0_y (okN := true) rfl h
  | false => rw [hc, if_neg (by simp)] at h; exact vNames0_n (okN := false) rfl h
theorem okV_inv {k n : Int} {s : List UInt8} {is : List Val} {ns : List (List UInt8)} (h : okV (.mk k n s is ns)) : (-9223372036854775808 ≤ k ∧ k ≤ 9223372036854775807) ∧ (-9223372036854775808 ≤ n ∧ n ≤ 9223372036854775807) ∧ s.length ≤ 140737488351232 ∧ is.length * 80 ≤ 140737488355328 ∧ ns.length * 16 ≤ 140737488355328 ∧ (∀ x ∈ ns, x.length ≤ 140737488351232) ∧ ∀ v ∈ is, okV v := by
  rw [okV, okL_all] at h; exact h
theorem ifE {lp : LProg} {f : FuncId} {a : List LV} {s : List LObj} {x y : LV × List LObj} (h : Runs lp f a s x) (e : x = y) : Runs lp f a s y := e ▸ h
theorem rMay_tree {k n : Int} {s : List UInt8} {is : List Val} {ns : List (List UInt8)} : ((if (mayL is) = true then (if (ns.all nameB) = true then (if (k == 1) = true then (if (n == 0) = true then (if (s == []) = true then (if (((List.length (rowsV is) : Nat) : Int) == 0) = true then (((.p (.bool (((List.length (rowsN ns) : Nat) : Int) == 0))), [])) else ((.p (.bool false), []))) else ((.p (.bool false), []))) else ((.p (.bool false), []))) else (if (k == 2) = true then (if (decide (n ≥ 0)) = true then (if (decide (n ≤ 1)) = true then (if (s == []) = true then (if (((List.length (rowsV is) : Nat) : Int) == 0) = true then (((.p (.bool (((List.length (rowsN ns) : Nat) : Int) == 0))), [])) else ((.p (.bool false), []))) else ((.p (.bool false), []))) else ((.p (.bool false), []))) else ((.p (.bool false), []))) else (if (k == 3) = true then (if (s == []) = true then (if (((List.length (rowsV is) : Nat) : Int) == 0) = true then (((.p (.bool (((List.length (rowsN ns) : Nat) : Int) == 0))), [])) else ((.p (.bool false), []))) else ((.p (.bool false), []))) else (if (k == 4) = true then (if (n == 0) = true then (if (((List.length (rowsV is) : Nat) : Int) == 0) = true then (((.p (.bool (((List.length (rowsN ns) : Nat) : Int) == 0))), [])) else ((.p (.bool false), []))) else ((.p (.bool false), []))) else (if (k == 5) = true then (if (n == 0) = true then (if (((List.length (rowsV is) : Nat) : Int) == 0) = true then (((.p (.bool (((List.length (rowsN ns) : Nat) : Int) == 0))), [])) else ((.p (.bool false), []))) else ((.p (.bool false), []))) else (if (k == 6) = true then (if (n == 0) = true then (if (s == []) = true then (((.p (.bool (((List.length (rowsN ns) : Nat) : Int) == 0))), [])) else ((.p (.bool false), []))) else ((.p (.bool false), []))) else (if (k == 7) = true then (if (n == 0) = true then (if (s == []) = true then (if (((List.length (rowsN ns) : Nat) : Int) == ((List.length (rowsV is) : Nat) : Int)) = true then (((.p (.bool (!(twiceB ns)))), [])) else ((.p (.bool false), []))) else ((.p (.bool false), []))) else ((.p (.bool false), []))) else ((.p (.bool false), []))))))))) else ((.p (.bool false), []))) else ((.p (.bool false), [])))) = ((LV.p (PV.bool (mayV (.mk k n s is ns))), []) : LV × List LObj) := by
  have hk : k = 1 ∨ k = 2 ∨ k = 3 ∨ k = 4 ∨ k = 5 ∨ k = 6 ∨ k = 7 ∨ (¬ k = 1 ∧ ¬ k = 2 ∧ ¬ k = 3 ∧ ¬ k = 4 ∧ ¬ k = 5 ∧ ¬ k = 6 ∧ ¬ k = 7) := by omega
  have e0 : ∀ n : Nat, decide ((n : Int) > 0) = !decide (n = 0) := fun n => by by_cases h : n = 0 <;> simp [h]; omega
  have e1 : ∀ n : Nat, ((n : Int) == 0) = decide (n = 0) := fun n => by by_cases h : n = 0 <;> simp [h]
  have e2 : ∀ n m : Nat, ((n : Int) == (m : Int)) = decide (n = m) := fun n m => by by_cases h : n = m <;> simp [h]; omega
  simp only [rowsV_len, rowsN_len, e0, e1, e2]
  have hb2 : ns.all nameB = false → ns ≠ [] := by intro h e; subst e; simp at h
  rcases Bool.eq_false_or_eq_true (ns.all nameB) with hb | hb
  all_goals rcases Bool.eq_false_or_eq_true (mayL is) with hc | hc
  all_goals rcases Bool.eq_false_or_eq_true (twiceB ns) with hd | hd
  all_goals rcases hk with rfl | rfl | rfl | rfl | rfl | rfl | rfl | ⟨h1, h2, h3, h4, h5, h6, h7⟩
  all_goals simp [mayV, shapeB, okNamesB, -List.all_eq_true, -List.all_eq_false, *]
  all_goals (try (repeat' split))
  all_goals (try simp [*])
  all_goals (try (intros; exact hb2 hb))
  all_goals (try (intros; intro h; subst h; exact hb2 hb rfl))
  all_goals (try omega)
theorem rMay : ∀ v, okV v → Runs lp 49 [encV v] [] (.p (.bool (mayV v)), []) := by
  refine Val.ind fun k n s is ns ih hok => ?_
  obtain ⟨_, _, _, hil, hnl, hns, his⟩ := okV_inv hok
  have l0 := loop_all (lp := lp) (k := 0) (L := loopNo lf49 0) (fun i => tl 0 146 [(1, .ptr 0 0 0), (3, .p (.int .i64 (i : Int)))]) [.row [[.p (.int .i64 k), .p (.int .i64 n), .p (.str s), .p (.sl (rowsV is)), .p (.sl (rowsN ns))]]] is mayV
    (rF := (.ret, tl 0 146 [(2, .p (.bool false))], [.row [[.p (.int .i64 k), .p (.int .i64 n), .p (.str s), .p (.sl (rowsV is)), .p (.sl (rowsN ns))]]])) (rT := (.exit 0, tl 0 146 [(1, .ptr 0 0 0)], [.row [[.p (.int .i64 k), .p (.int .i64 n), .p (.str s), .p (.sl (rowsV is)), .p (.sl (rowsN ns))]]]))
    (by
      intro i x hx hp
      obtain ⟨ke, ne, se, ise, nse⟩ := x
      have hi := (List.getElem?_eq_some_iff.1 hx).1
      have hm := List.mem_of_getElem? hx
      exact rMayI_yn ke ne se ise nse (by rw [rowsV_len]; exact dlt hi) hx (ih _ hm (his _ hm)) hp)
    (by
      intro i x r hx hp hr
      obtain ⟨ke, ne, se, ise, nse⟩ := x
      have hi := (List.getElem?_eq_some_iff.1 hx).1
      have hm := List.mem_of_getElem? hx
      exact rMayI_yy ke ne se ise nse (by rw [rowsV_len]; exact dlt hi) hx (ih _ hm (his _ hm)) hp (by rw [nx (by omega)]; exact hr))
    (rMayI_n (by rw [rowsV_len]; exact dlt_n))
  have l1 := loop_all (lp := lp) (k := 0) (L := loopNo lf49 1) (fun i => tl 0 146 [(1, .ptr 0 0 0), (4, .p (.int .i64 (i : Int)))]) [.row [[.p (.int .i64 k), .p (.int .i64 n), .p (.str s), .p (.sl (rowsV is)), .p (.sl (rowsN ns))]]] ns nameB
    (rF := (.ret, tl 0 146 [(2, .p (.bool false))], [.row [[.p (.int .i64 k), .p (.int .i64 n), .p (.str s), .p (.sl (rowsV is)), .p (.sl (rowsN ns))]]])) (rT := (.exit 2, tl 0 146 [(1, .ptr 0 0 0)], [.row [[.p (.int .i64 k), .p (.int .i64 n), .p (.str s), .p (.sl (rowsV is)), .p (.sl (rowsN ns))]]]))
    (by
      intro i x hx hp
      obtain ⟨hi, rfl⟩ := List.getElem?_eq_some_iff.1 hx
      have e : ns.getD i [] = ns[i] := by rw [List.getD, List.getElem?_eq_getElem hi]; rfl
      exact rMayN_yn (by rw [rowsN_len]; exact dlt hi) hi (rName _ (by rw [e]; have := hns _ (List.getElem_mem hi); omega)) (by rw [e]; exact hp))
    (by
      intro i x r hx hp hr
      obtain ⟨hi, rfl⟩ := List.getElem?_eq_some_iff.1 hx
      have e : ns.getD i [] = ns[i] := by rw [List.getD, List.getElem?_eq_getElem hi]; rfl
      exact rMayN_yy (by rw [rowsN_len]; exact dlt hi) hi (rName _ (by rw [e]; have := hns _ (List.getElem_mem hi); omega)) (by rw [e]; exact hp) (by rw [nx (by omega)]; exact hr))
    (rMayN_n (by rw [rowsN_len]; exact dlt_n))
  rw [← mayL_all] at l0
  have h := @rMay0 k n s is ns (fun h => by rw [h] at l0; exact l0) (fun _ h => by rw [h] at l1; exact l1) (fun _ _ _ _ _ _ _ _ _ _ _ _ => rTwice (by omega)) (fun _ h => by rw [h] at l1; exact l1) (fun h => by rw [h] at l0; exact l0)
  exact ifE h rMay_tree
theorem vCon {is : List Val} (hl : is.length ≤ 140737488355328) (hr : ∀ v ∈ is, Runs lp 52 [encV v] [] (.p (.bool (mayV v)), [])) :
    Runs lp 71 [.p (.sl (rowsV is)), .fn (.func 72) [] []] [] (.p (.bool (!(mayL is))), []) := by
  have h1 : ∀ k n s es ns, Val.mk k n s es ns ∈ is → Runs lp 72 [.agg [.p (.int .i64 k), .p (.int .i64 n), .p (.str s), .p (.sl (rowsV es)), .p (.sl (rowsN ns))]] [] (.p (.bool (!(mayV (Val.mk k n s es ns)))), []) :=
    fun k n s es ns hm => vMay1 (hr _ hm)
  have l := loop_fold (lp := lp) (k := 0) (L := loopNo lf82 0)
    (fun i (_ : Nat) => tl 0 19 [(0, .p (.sl (rowsV is))), (1, .fn (.func 72) [] []), (7, .p (.int .i64 ((List.length (rowsV is) : Nat) : Int))), (8, .p (.int .i64 (i : Int)))]) (fun _ _ => []) is
    (fun i x => if mayV x = true then .inr (i + 1) else .inl (.ret, tl 0 19 [(4, .p (.int .i64 (i : Int)))], [])) (fun _ => (.exit 0, tl 0 19 [], [])) (fun i j => i = j)
    (by
      rintro i _ x hx rfl
      obtain ⟨ke, ne, se, ise, nse⟩ := x
      have hi := (List.getElem?_eq_some_iff.1 hx).1
      have hm := List.mem_of_getElem? hx
      cases hp : mayV (.mk ke ne se ise nse) with
      | true =>
        simp only [if_true]
        refine ⟨fun r h => (by cases h), fun s' h => ?_⟩
        cases h
        exact ⟨rfl, fun r hr => vIdxR_yy ke ne se ise nse (by rw [rowsV_len]; exact dlt hi) hx (h1 _ _ _ _ _ hm) hp (by rw [nx (by omega)]; exact hr)⟩
      | false =>
        simp only [Bool.false_eq_true, if_false]
        refine ⟨fun r h => ?_, fun s' h => (by cases h)⟩
        cases h
        exact vIdxR_yn ke ne se ise nse (by rw [rowsV_len]; exact dlt hi) hx (h1 _ _ _ _ _ hm) hp)
    (by
      rintro _ rfl
      exact vIdxR_n (by rw [rowsV_len]; exact dlt_n)) 0 rfl
  have e : ∀ (l : List Val) (j : Nat), ∃ m : Nat, foldE (fun (i : Nat) x => if mayV x = true then (.inr (i + 1) : (LOut × List LV × List LObj) ⊕ Nat) else .inl (.ret, tl 0 19 [(4, .p (.int .i64 (i : Int)))], [])) (fun _ => (.exit 0, tl 0 19 [], [])) j l =
      if mayL l = true then (.exit 0, tl 0 19 [], []) else (.ret, tl 0 19 [(4, .p (.int .i64 (m : Int)))], []) := by
    intro l
    induction l with
    | nil => intro j; exact ⟨0, rfl⟩
    | cons x r ih =>
      intro j
      simp only [foldE, mayL]
      by_cases hp : mayV x = true
      · obtain ⟨m, hm⟩ := ih (j + 1)
        refine ⟨m, ?_⟩
        simp only [hp, if_true, Bool.true_and]
        exact hm
      · refine ⟨j, ?_⟩
        have : mayV x = false := by simpa using hp
        simp [this]
  obtain ⟨m, hm⟩ := e is 0
  rw [hm] at l
  have hi := @vIdx0 is m (fun h => by rw [h] at l; exact l) (fun h => by rw [h] at l; exact l)
  have h := @vCon0 is m (fun h => by rw [h] at hi; exact hi) (fun h => by rw [h] at hi; exact hi)
  refine ifE h ?_
  cases mayL is
  · simp
  · rfl
theorem vMayT1 {n : Int} {s : List UInt8} {is : List Val} {ns : List (List UInt8)} : ((if (decide (((List.length (rowsV is) : Nat) : Int) > 0)) = true then ((.p (.bool false), [])) else (if (n == 0) = true then (if (s == []) = true then (if (decide (((List.length (rowsN ns) : Nat) : Int) > 0)) = true then ((.p (.bool false), [])) else (((.p (.bool (!(!(mayL is))))), []))) else ((.p (.bool false), []))) else ((.p (.bool false), []))))) = ((LV.p (PV.bool (mayV (.mk 1 n s is ns))), []) : LV × List LObj) := by
  have e0 : ∀ n : Nat, decide ((n : Int) > 0) = !decide (n = 0) := fun n => by by_cases h : n = 0 <;> simp [h]; omega
  have e1 : ∀ n : Nat, ((n : Int) == 0) = decide (n = 0) := fun n => by by_cases h : n = 0 <;> simp [h]
  have e2 : ∀ n m : Nat, ((n : Int) == (m : Int)) = decide (n = m) := fun n m => by by_cases h : n = m <;> simp [h]; omega
  simp only [rowsV_len, rowsN_len, e0, e1, e2]
  have hb2 : ns.all nameB = false → ns ≠ [] := by intro h e; subst e; simp at h
  rcases Bool.eq_false_or_eq_true (ns.all nameB) with hb | hb
  all_goals rcases Bool.eq_false_or_eq_true (mayL is) with hc | hc
  all_goals rcases Bool.eq_false_or_eq_true (twiceB ns) with hd | hd
  all_goals simp [mayV, shapeB, okNamesB, -List.all_eq_true, -List.all_eq_false, *]
  all_goals (try (repeat' split))
  all_goals (try simp [*])
  all_goals (try (intros; exact hb2 hb))
  all_goals (try (intros; intro h; subst h; exact hb2 hb rfl))
  all_goals (try omega)
theorem vMayT2 {n : Int} {s : List UInt8} {is : List Val} {ns : List (List UInt8)} : ((if (decide (((List.length (rowsV is) : Nat) : Int) > 0)) = true then ((.p (.bool false), [])) else (if (n == 0) = true then (if (s == []) = true then (if (decide (((List.length (rowsN ns) : Nat) : Int) > 0)) = true then ((.p (.bool false), [])) else (((.p (.bool (!(!(mayL is))))), []))) else ((.p (.bool false), []))) else (if (s == []) = true then (if (n == 1) = true then (if (decide (((List.length (rowsN ns) : Nat) : Int) > 0)) = true then ((.p (.bool false), [])) else (((.p (.bool (!(!(mayL is))))), []))) else ((.p (.bool false), []))) else ((.p (.bool false), [])))))) = ((LV.p (PV.bool (mayV (.mk 2 n s is ns))), []) : LV × List LObj) := by
  have e0 : ∀ n : Nat, decide ((n : Int) > 0) = !decide (n = 0) := fun n => by by_cases h : n = 0 <;> simp [h]; omega
  have e1 : ∀ n : Nat, ((n : Int) == 0) = decide (n = 0) := fun n => by by_cases h : n = 0 <;> simp [h]
  have e2 : ∀ n m : Nat, ((n : Int) == (m : Int)) = decide (n = m) := fun n m => by by_cases h : n = m <;> simp [h]; omega
  simp only [rowsV_len, rowsN_len, e0, e1, e2]
  have hb2 : ns.all nameB = false → ns ≠ [] := by intro h e; subst e; simp at h
  rcases Bool.eq_false_or_eq_true (ns.all nameB) with hb | hb
  all_goals rcases Bool.eq_false_or_eq_true (mayL is) with hc | hc
  all_goals rcases Bool.eq_false_or_eq_true (twiceB ns) with hd | hd
  all_goals simp [mayV, shapeB, okNamesB, -List.all_eq_true, -List.all_eq_false, *]
  all_goals (try (repeat' split))
  all_goals (try simp [*])
  all_goals (try (intros; exact hb2 hb))
  all_goals (try (intros; intro h; subst h; exact hb2 hb rfl))
  all_goals (try omega)
theorem vMayT3 {n : Int} {s : List UInt8} {is : List Val} {ns : List (List UInt8)} : ((if (decide (((List.length (rowsV is) : Nat) : Int) > 0)) = true then ((.p (.bool false), [])) else (if (n == 0) = true then (if (s == []) = true then (if (decide (((List.length (rowsN ns) : Nat) : Int) > 0)) = true then ((.p (.bool false), [])) else (((.p (.bool (!(!(mayL is))))), []))) else ((.p (.bool false), []))) else (if (s == []) = true then (if (decide (((List.length (rowsN ns) : Nat) : Int) > 0)) = true then ((.p (.bool false), [])) else (((.p (.bool (!(!(mayL is))))), []))) else ((.p (.bool false), [])))))) = ((LV.p (PV.bool (mayV (.mk 3 n s is ns))), []) : LV × List LObj) := by
  have e0 : ∀ n : Nat, decide ((n : Int) > 0) = !decide (n = 0) := fun n => by by_cases h : n = 0 <;> simp [h]; omega
  have e1 : ∀ n : Nat, ((n : Int) == 0) = decide (n = 0) := fun n => by by_cases h : n = 0 <;> simp [h]
  have e2 : ∀ n m : Nat, ((n : Int) == (m : Int)) = decide (n = m) := fun n m => by by_cases h : n = m <;> simp [h]; omega
  simp only [rowsV_len, rowsN_len, e0, e1, e2]
  have hb2 : ns.all nameB = false → ns ≠ [] := by intro h e; subst e; simp at h
  rcases Bool.eq_false_or_eq_true (ns.all nameB) with hb | hb
  all_goals rcases Bool.eq_false_or_eq_true (mayL is) with hc | hc
  all_goals rcases Bool.eq_false_or_eq_true (twiceB ns) with hd | hd
  all_goals simp [mayV, shapeB, okNamesB, -List.all_eq_true, -List.all_eq_false, *]
  all_goals (try (repeat' split))
  all_goals (try simp [*])
  all_goals (try (intros; exact hb2 hb))
  all_goals (try (intros; intro h; subst h; exact hb2 hb rfl))
  all_goals (try omega)
theorem vMayT4 {n : Int} {s : List UInt8} {is : List Val} {ns : List (List UInt8)} : ((if (decide (((List.length (rowsV is) : Nat) : Int) > 0)) = true then ((.p (.bool false), [])) else (if (n == 0) = true then (if (s == []) = true then (if (decide (((List.length (rowsN ns) : Nat) : Int) > 0)) = true then ((.p (.bool false), [])) else (((.p (.bool (!(!(mayL is))))), []))) else (if (decide (((List.length (rowsN ns) : Nat) : Int) > 0)) = true then ((.p (.bool false), [])) else (((.p (.bool (!(!(mayL is))))), [])))) else ((.p (.bool false), []))))) = ((LV.p (PV.bool (mayV (.mk 4 n s is ns))), []) : LV × List LObj) := by
  have e0 : ∀ n : Nat, decide ((n : Int) > 0) = !decide (n = 0) := fun n => by by_cases h : n = 0 <;> simp [h]; omega
  have e1 : ∀ n : Nat, ((n : Int) == 0) = decide (n = 0) := fun n => by by_cases h : n = 0 <;> simp [h]
  have e2 : ∀ n m : Nat, ((n : Int) == (m : Int)) = decide (n = m) := fun n m => by by_cases h : n = m <;> simp [h]; omega
  simp only [rowsV_len, rowsN_len, e0, e1, e2]
  have hb2 : ns.all nameB = false → ns ≠ [] := by intro h e; subst e; simp at h
  rcases Bool.eq_false_or_eq_true (ns.all nameB) with hb | hb
  all_goals rcases Bool.eq_false_or_eq_true (mayL is) with hc | hc
  all_goals rcases Bool.eq_false_or_eq_true (twiceB ns) with hd | hd
  all_goals simp [mayV, shapeB, okNamesB, -List.all_eq_true, -List.all_eq_false, *]
  all_goals (try (repeat' split))
  all_goals (try simp [*])
  all_goals (try (intros; exact hb2 hb))
  all_goals (try (intros; intro h; subst h; exact hb2 hb rfl))
  all_goals (try omega)
theorem vMayT5 {n : Int} {s : List UInt8} {is : List Val} {ns : List (List UInt8)} : ((if (decide (((List.length (rowsV is) : Nat) : Int) > 0)) = true then ((.p (.bool false), [])) else (if (n == 0) = true then (if (s == []) = true then (if (decide (((List.length (rowsN ns) : Nat) : Int) > 0)) = true then ((.p (.bool false), [])) else (((.p (.bool (!(!(mayL is))))), []))) else (if (decide (((List.length (rowsN ns) : Nat) : Int) > 0)) = true then ((.p (.bool false), [])) else (((.p (.bool (!(!(mayL is))))), [])))) else ((.p (.bool false), []))))) = ((LV.p (PV.bool (mayV (.mk 5 n s is ns))), []) : LV × List LObj) := by
  have e0 : ∀ n : Nat, decide ((n : Int) > 0) = !decide (n = 0) := fun n => by by_cases h : n = 0 <;> simp [h]; omega
  have e1 : ∀ n : Nat, ((n : Int) == 0) = decide (n = 0) := fun n => by by_cases h : n = 0 <;> simp [h]
  have e2 : ∀ n m : Nat, ((n : Int) == (m : Int)) = decide (n = m) := fun n m => by by_cases h : n = m <;> simp [h]; omega
  simp only [rowsV_len, rowsN_len, e0, e1, e2]
  have hb2 : ns.all nameB = false → ns ≠ [] := by intro h e; subst e; simp at h
  rcases Bool.eq_false_or_eq_true (ns.all nameB) with hb | hb
  all_goals rcases Bool.eq_false_or_eq_true (mayL is) with hc | hc
  all_goals rcases Bool.eq_false_or_eq_true (twiceB ns) with hd | hd
  all_goals simp [mayV, shapeB, okNamesB, -List.all_eq_true, -List.all_eq_false, *]
  all_goals (try (repeat' split))
  all_goals (try simp [*])
  all_goals (try (intros; exact hb2 hb))
  all_goals (try (intros; intro h; subst h; exact hb2 hb rfl))
  all_goals (try omega)
theorem vMayT6 {n : Int} {s : List UInt8} {is : List Val} {ns : List (List UInt8)} : ((if (decide (((List.length (rowsV is) : Nat) : Int) > 0)) = true then (if (n == 0) = true then (if (s == []) = true then (if (decide (((List.length (rowsN ns) : Nat) : Int) > 0)) = true then ((.p (.bool false), [])) else (((.p (.bool (!(!(mayL is))))), []))) else ((.p (.bool false), []))) else ((.p (.bool false), []))) else (if (n == 0) = true then (if (s == []) = true then (if (decide (((List.length (rowsN ns) : Nat) : Int) > 0)) = true then ((.p (.bool false), [])) else (((.p (.bool (!(!(mayL is))))), []))) else ((.p (.bool false), []))) else ((.p (.bool false), []))))) = ((LV.p (PV.bool (mayV (.mk 6 n s is ns))), []) : LV × List LObj) := by
  have e0 : ∀ n : Nat, decide ((n : Int) > 0) = !decide (n = 0) := fun n => by by_cases h : n = 0 <;> simp [h]; omega
  have e1 : ∀ n : Nat, ((n : Int) == 0) = decide (n = 0) := fun n => by by_cases h : n = 0 <;> simp [h]
  have e2 : ∀ n m : Nat, ((n : Int) == (m : Int)) = decide (n = m) := fun n m => by by_cases h : n = m <;> simp [h]; omega
  simp only [rowsV_len, rowsN_len, e0, e1, e2]
  have hb2 : ns.all nameB = false → ns ≠ [] := by intro h e; subst e; simp at h
  rcases Bool.eq_false_or_eq_true (ns.all nameB) with hb | hb
  all_goals rcases Bool.eq_false_or_eq_true (mayL is) with hc | hc
  all_goals rcases Bool.eq_false_or_eq_true (twiceB ns) with hd | hd
  all_goals simp [mayV, shapeB, okNamesB, -List.all_eq_true, -List.all_eq_false, *]
  all_goals (try (repeat' split))
  all_goals (try simp [*])
  all_goals (try (intros; exact hb2 hb))
  all_goals (try (intros; intro h; subst h; exact hb2 hb rfl))
  all_goals (try omega)
theorem vMayT7 {n : Int} {s : List UInt8} {is : List Val} {ns : List (List UInt8)} : ((if (decide (((List.length (rowsV is) : Nat) : Int) > 0)) = true then (if (n == 0) = true then (if (s == []) = true then (if (((List.length (rowsN ns) : Nat) : Int) == ((List.length (rowsV is) : Nat) : Int)) = true then (if (okNamesB ns) = true then (((.p (.bool (!(!(mayL is))))), [])) else ((.p (.bool false), []))) else ((.p (.bool false), []))) else ((.p (.bool false), []))) else ((.p (.bool false), []))) else (if (n == 0) = true then (if (s == []) = true then (if (((List.length (rowsN ns) : Nat) : Int) == ((List.length (rowsV is) : Nat) : Int)) = true then (if (okNamesB ns) = true then (((.p (.bool (!(!(mayL is))))), [])) else ((.p (.bool false), []))) else ((.p (.bool false), []))) else ((.p (.bool false), []))) else ((.p (.bool false), []))))) = ((LV.p (PV.bool (mayV (.mk 7 n s is ns))), []) : LV × List LObj) := by
  have e0 : ∀ n : Nat, decide ((n : Int) > 0) = !decide (n = 0) := fun n => by by_cases h : n = 0 <;> simp [h]; omega
  have e1 : ∀ n : Nat, ((n : Int) == 0) = decide (n = 0) := fun n => by by_cases h : n = 0 <;> simp [h]
  have e2 : ∀ n m : Nat, ((n : Int) == (m : Int)) = decide (n = m) := fun n m => by by_cases h : n = m <;> simp [h]; omega
  simp only [rowsV_len, rowsN_len, e0, e1, e2]
  have hb2 : ns.all nameB = false → ns ≠ [] := by intro h e; subst e; simp at h
  rcases Bool.eq_false_or_eq_true (ns.all nameB) with hb | hb
  all_goals rcases Bool.eq_false_or_eq_true (mayL is) with hc | hc
  all_goals rcases Bool.eq_false_or_eq_true (twiceB ns) with hd | hd
  all_goals simp [mayV, shapeB, okNamesB, -List.all_eq_true, -List.all_eq_false, *]
  all_goals (try (repeat' split))
  all_goals (try simp [*])
  all_goals (try (intros; exact hb2 hb))
  all_goals (try (intros; intro h; subst h; exact hb2 hb rfl))
  all_goals (try omega)
theorem vMay : ∀ v, okV v → Runs lp 52 [encV v] [] (.p (.bool (mayV v)), []) := by
  refine Val.ind fun k n s is ns ih hok => ?_
  obtain ⟨_, _, _, hil, hnl, hns, his⟩ := okV_inv hok
  have hc := vCon (by omega) (fun v hv => ih v hv (his v hv))
  have hk : k = 1 ∨ k = 2 ∨ k = 3 ∨ k = 4 ∨ k = 5 ∨ k = 6 ∨ k = 7 ∨ (¬ k = 1 ∧ ¬ k = 2 ∧ ¬ k = 3 ∧ ¬ k = 4 ∧ ¬ k = 5 ∧ ¬ k = 6 ∧ ¬ k = 7) := by omega
  rcases hk with rfl | rfl | rfl | rfl | rfl | rfl | rfl | ⟨h1, h2, h3, h4, h5, h6, h7⟩
  · exact ifE (vMay1_ (fun _ _ _ _ => hc)) vMayT1
  · exact ifE (vMay2_ (fun _ _ _ _ => hc) (fun _ _ _ _ _ => hc)) vMayT2
  · exact ifE (vMay3_ (fun _ _ _ _ => hc) (fun _ _ _ _ => hc)) vMayT3
  · exact ifE (vMay4_ (fun _ _ _ _ => hc) (fun _ _ _ _ => hc)) vMayT4
  · exact ifE (vMay5_ (fun _ _ _ _ => hc) (fun _ _ _ _ => hc)) vMayT5
  · exact ifE (vMay6_ (fun _ _ _ _ => hc) (fun _ _ _ _ => hc)) vMayT6
  · exact ifE (vMay7_ (fun _ _ _ _ => (vNames (by omega))) (fun _ _ _ _ _ => hc) (fun _ _ _ _ => (vNames (by omega))) (fun _ _ _ _ _ => hc)) vMayT7
  · have e : mayV (.mk k n s is ns) = false := by simp [mayV, shapeB, h1, h2, h3, h4, h5, h6, h7]
    rw [e]
    by_cases hlt : k < 1
    · exact vMayO_nnny (by simpa using h6) (by simpa using h3) (by simpa using h4) (decide_eq_true hlt)
    · exact vMayO_nnnny (by simpa using h6) (by simpa using h3) (by simpa using h4) (decide_eq_false hlt) (decide_eq_true (by omega))
end Go.Proofs.Ytmbjojnldbeicaa
