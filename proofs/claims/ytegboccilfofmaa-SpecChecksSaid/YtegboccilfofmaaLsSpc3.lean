import Derived.Test.YtegboccilfofmaaLsSpcW3
set_option linter.unusedVariables false
set_option maxRecDepth 100000
set_option linter.unusedSimpArgs false
namespace Go.Proofs.Ytegboccilfofmaa
open Go Go.LS
theorem rPlace {n : Int} {s : List UInt8} {is : List Val} {ns : List (List UInt8)} {x : List UInt8} (hl : ns.length ≤ 10000000000000) : ∃ m : Nat, (ns.contains x = true → m < ns.length) ∧ Runs lp 64 [.agg [.p (.int .i64 7), .p (.int .i64 n), .p (.str s), .p (.sl (rowsV is)), .p (.sl (rowsN ns))], .p (.str x)] [] (.p (.int .i64 (if ns.contains x then (m : Int) else -1)), []) := by
  have key : ∀ j i, i + j = ns.length → ∃ m : Nat, ((ns.drop i).contains x = true → m < ns.length) ∧ LoopN lp 0 (loopNo lf64 0) (tl 0 36 [(1, .p (.str x)), (2, .ptr 0 0 0), (6, .p (.int .i64 (i : Int)))]) [.row [[.p (.int .i64 7), .p (.int .i64 n), .p (.str s), (.p (.sl (rowsV is))), (.p (.sl (rowsN ns)))]]] (if (ns.drop i).contains x = true then (.ret, (tl 0 36 [(4, .p (.int .i64 (m : Int)))]), [.row [[.p (.int .i64 7), .p (.int .i64 n), .p (.str s), (.p (.sl (rowsV is))), (.p (.sl (rowsN ns)))]]]) else (.exit 0, (tl 0 36 []), [.row [[.p (.int .i64 7), .p (.int .i64 n), .p (.str s), (.p (.sl (rowsV is))), (.p (.sl (rowsN ns)))]]])) := by
    intro j
    induction j with
    | zero =>
      intro i h
      obtain rfl : i = ns.length := by omega
      rw [List.drop_length]
      exact ⟨0, by simp, rPcR_n (by rw [rowsN_len]; exact dlt_n)⟩
    | succ j ih =>
      intro i h
      have hi : i < ns.length := by omega
      have hx : ns[i]? = some ns[i] := List.getElem?_eq_getElem hi
      have e := getD_get hx
      rw [drop_get hx, List.contains_cons]
      cases hp : (ns[i] == x) with
      | true =>
        have hp' : (x == ns[i]) = true := by rw [beq_iff_eq] at hp ⊢; exact hp.symm
        exact ⟨i, fun _ => hi, by rw [hp', Bool.true_or, if_pos rfl]; exact rPcR_yy (by rw [rowsN_len]; exact dlt hi) hi (by rw [e]; exact hp)⟩
      | false =>
        obtain ⟨m, h1, h2⟩ := ih (i + 1) (by omega)
        have hp' : (x == ns[i]) = false := by rw [beq_eq_false_iff_ne] at hp ⊢; exact fun h => hp h.symm
        exact ⟨m, by rw [hp', Bool.false_or]; exact h1, by rw [hp', Bool.false_or]; exact rPcR_yn (by rw [rowsN_len]; exact dlt hi) hi (by rw [e]; exact hp) (by rw [nx (by omega)]; exact h2)⟩
  obtain ⟨m, h1, h2⟩ := key ns.length 0 (by omega)
  rw [List.drop_zero] at h1 h2
  refine ⟨m, h1, ?_⟩
  refine ifE (rPc0 (bb := ns.contains x) (fun h => by rw [h] at h2; exact h2) (fun h => by rw [h] at h2; exact h2)) ?_
  cases ns.contains x <;> rfl
theorem rGetId {n : Int} {s : List UInt8} {is : List Val} {ns : List (List UInt8)} (hl : ns.length ≤ 10000000000000) (hn : ns.length = is.length) : ∃ v : Val, Runs lp 36 [.agg [.p (.int .i64 7), .p (.int .i64 n), .p (.str s), .p (.sl (rowsV is)), .p (.sl (rowsN ns))], .p (.sl [[.str [95, 105, 100]]])] []
    (if ns.contains ([95, 105, 100] : List UInt8) then .tup [encV v, .p (.bool true)] else .tup [.agg [.p (.int .i64 0), .p (.int .i64 0), .p (.str []), .p (.sl []), .p (.sl [])], .p (.bool false)], []) := by
  obtain ⟨m, h1, h2⟩ := rPlace (n := n) (s := s) (is := is) (x := [95, 105, 100]) hl
  cases hb : ns.contains ([95, 105, 100] : List UInt8) with
  | false =>
    rw [hb] at h2
    exact ⟨.mk 0 0 [] [] [], ifE (rGt0 (m := 0) (bb := false) (ke := 0) (ne := 0) (se := []) (ise := []) (nse := []) (fun h => by cases h) (fun h => by cases h) (fun h => by cases h) (fun _ => h2)) (by simp)⟩
  | true =>
    rw [hb] at h2
    have hm : m < is.length := hn ▸ h1 hb
    have hg : is[m]? = some is[m] := List.getElem?_eq_getElem hm
    generalize is[m] = v at hg
    obtain ⟨ke, ne, se, ise, nse⟩ := v
    refine ⟨.mk ke ne se ise nse, ifE (rGt0 (m := m) (bb := true) (fun _ _ => h2) (fun _ _ => h2) (fun _ _ => hg) (fun h => by cases h)) ?_⟩
    rw [if_pos rfl, if_neg (fun h => by have := of_decide_eq_true h; omega)]
    rfl
theorem plain_tree {rb : Bool} {k n : Int} {s : List UInt8} {is : List Val} {ns : List (List UInt8)} {ops : List OpS} : ((if (rb) = true then (if (((List.length (rowsO ops) : Nat) : Int) == 0) = true then (if (k == 7) = true then (((.p (.bool ((checkW (Val.mk k n s is ns)) == 0))), [])) else ((.p (.bool false), []))) else ((.p (.bool false), []))) else (if (noneV (Val.mk k n s is ns)) = true then (if (decide (((List.length (rowsO ops) : Nat) : Int) < 1)) = true then ((.p (.bool false), [])) else (if (decide (((List.length (rowsO ops) : Nat) : Int) > 16)) = true then ((.p (.bool false), [])) else (if (List.all ops mayO) = true then ((.p (.bool true), [])) else ((.p (.bool false), []))))) else ((.p (.bool false), []))))) = ((LV.p (PV.bool (plainS rb (.mk k n s is ns) ops)), []) : LV × List LObj) := by
  rw [rowsO_len]
  cases rb with
  | true =>
    simp only [plainS, kindV, if_true]
    by_cases h1 : ops.length = 0
    · have e : (((ops.length : Nat) : Int) == 0) = true := by rw [h1]; rfl
      rw [if_pos e]
      by_cases h2 : k = 7 <;> simp [h1, h2]
    · have e : (((ops.length : Nat) : Int) == 0) = false := beq_eq_false_iff_ne.2 (by omega)
      rw [if_neg (by rw [e]; decide)]; simp [h1]
  | false =>
    simp only [plainS, Bool.false_eq_true, if_false]
    by_cases h1 : noneV (.mk k n s is ns) = true
    · rw [if_pos h1, h1]
      by_cases h2 : ops.length < 1
      · rw [if_pos (decide_eq_true (by omega))]; simp [h2]
      · rw [if_neg (fun h => by have := of_decide_eq_true h; omega)]
        by_cases h3 : 16 < ops.length
        · rw [if_pos (decide_eq_true (by omega))]; simp [h3]
        · rw [if_neg (fun h => by have := of_decide_eq_true h; omega)]
          have e1 : decide (ops.length < 1) = false := decide_eq_false h2
          have e2 : decide (16 < ops.length) = false := decide_eq_false h3
          rw [e1, e2]
          cases ops.all mayO <;> simp
    · rw [if_neg h1]; simp [h1]
theorem rPlain (v : Val) {ops : List OpS} {rb : Bool} (hok : okV v) (hd : True) (hl : ops.length ≤ 100000000) (ho : ∀ o ∈ ops, okO o) : Runs lp 35 [.agg ([.p (.bool rb)] ++ (rowV v).map .p ++ [.p (.sl (rowsO ops))])] [] (.p (.bool (plainS rb v ops)), []) := by
  have hc := rCheckW _ hok
  have hn := rNone _ hok
  obtain ⟨k, n, s, is, ns⟩ := v
  have h := loop_all (lp := lp) (k := 0) (L := loopNo lf35 0) (fun i => (tl 0 52 [(1, .ptr 0 0 0), (3, .p (.int .i64 (i : Int)))])) [.row [[.p (.bool rb), .p (.int .i64 k), .p (.int .i64 n), .p (.str s), (.p (.sl (rowsV is))), (.p (.sl (rowsN ns))), (.p (.sl (rowsO ops)))]]] ops mayO (rF := (.ret, (tl 0 52 [(2, .p (.bool false))]), [.row [[.p (.bool rb), .p (.int .i64 k), .p (.int .i64 n), .p (.str s), (.p (.sl (rowsV is))), (.p (.sl (rowsN ns))), (.p (.sl (rowsO ops)))]]])) (rT := (.exit 0, (tl 0 52 []), [.row [[.p (.bool rb), .p (.int .i64 k), .p (.int .i64 n), .p (.str s), (.p (.sl (rowsV is))), (.p (.sl (rowsN ns))), (.p (.sl (rowsO ops)))]]]))
    (fun i x hx hp => by obtain ⟨ok, ps, ⟨vk, vn, vs, vi, vns⟩, ts⟩ := x; exact rPnR_yn _ _ _ _ _ _ _ _ (by rw [rowsO_len]; exact dlt (ltGet hx)) hx (rOpMay _ (ho _ (List.mem_of_getElem? hx))) hp)
    (fun i x r hx hp hr => by obtain ⟨ok, ps, ⟨vk, vn, vs, vi, vns⟩, ts⟩ := x; exact rPnR_yy _ _ _ _ _ _ _ _ (by rw [rowsO_len]; exact dlt (ltGet hx)) hx (rOpMay _ (ho _ (List.mem_of_getElem? hx))) hp (by rw [nx (by have := ltGet hx; omega)]; exact hr))
    (rPnR_n (by rw [rowsO_len]; exact dlt_n))
  exact ifE (rPn0 (fun _ _ _ => hc) (fun _ => hn) (fun _ _ _ _ b => by rw [b] at h; exact h) (fun _ _ _ _ b => by rw [b] at h; exact h)) plain_tree
theorem rClashJ {l : List Pt} (hl : l.length ≤ 1000000000) (hq : ∀ q ∈ l, q.length ≤ 140737488355328) {i : Nat} (hi : i < l.length) : ∀ (k j : Nat), j + k = i → LoopN lp 0 (loopNo lf12 2) (tl 0 68 [(5, .p (.sl (rowsP l))), (7, .p (.int .i64 (i : Int))), (8, .p (.int .i64 (j : Int)))]) []
    (if ((l.take i).drop j).any (meetP (l.getD i [])) = true then (.ret, (tl 0 68 [(2, .p (.int .i64 71))]), []) else (.exit 4, (tl 0 68 [(5, .p (.sl (rowsP l))), (7, .p (.int .i64 (i : Int)))]), [])) := by
  intro k
  induction k with
  | zero =>
    intro j h
    obtain rfl : j = i := by omega
    rw [List.drop_eq_nil_of_le (by rw [List.length_take]; omega)]
    exact rCkJ_n (dlt_n)
  | succ k ih =>
    intro j h
    have hj : j < i := by omega
    have hjl : j < l.length := by omega
    have hx : (l.take i)[j]? = some l[j] := by rw [List.getElem?_take_of_lt hj, List.getElem?_eq_getElem hjl]
    have e : l.getD j [] = l[j] := getP (List.getElem?_eq_getElem hjl)
    have e2 : l.getD i [] = l[i] := getP (List.getElem?_eq_getElem hi)
    have b1 := rpBeg (ns := l.getD i []) (ms := l.getD j []) (by rw [e2]; exact hq _ (List.getElem_mem hi))
    have b2 := rpBeg (ns := l.getD j []) (ms := l.getD i []) (by rw [e]; exact hq _ (List.getElem_mem hjl))
    rw [drop_get hx, List.any_cons, ← e]
    have em : meetP (l.getD i []) (l.getD j []) = (List.isPrefixOf (l.getD i []) (l.getD j []) || List.isPrefixOf (l.getD j []) (l.getD i [])) := rfl
    cases h1 : List.isPrefixOf (l.getD i []) (l.getD j []) with
    | true => rw [em, h1]; exact rCkJ_yy (dlt hj) hi hjl b1 h1
    | false =>
      cases h2 : List.isPrefixOf (l.getD j []) (l.getD i []) with
      | true => rw [em, h1, h2]; exact rCkJ_yny (dlt hj) hi hjl b1 h1 b2 h2
      | false => rw [em, h1, h2, Bool.false_or, Bool.false_or]; exact rCkJ_ynn (dlt hj) hi hjl b1 h1 b2 h2 (by rw [nx (by omega)]; exact ih (j + 1) (by omega))
theorem rClashI {l : List Pt} (hl : l.length ≤ 1000000000) (hq : ∀ q ∈ l, q.length ≤ 140737488355328) : ∀ (j i : Nat), i + j = l.length → LoopN lp 0 (loopNo lf12 1) (tl 0 68 [(5, .p (.sl (rowsP l))), (7, .p (.int .i64 (i : Int)))]) []
    (if clashL (l.take i) (l.drop i) = true then (.ret, (tl 0 68 [(2, .p (.int .i64 71))]), []) else (.exit 2, (tl 0 68 []), [])) := by
  intro j
  induction j with
  | zero =>
    intro i h
    obtain rfl : i = l.length := by omega
    rw [List.drop_length]
    exact rCkI_n (by rw [rowsP_len]; exact dlt_n)
  | succ j ih =>
    intro i h
    have hi : i < l.length := by omega
    have hx : l[i]? = some l[i] := List.getElem?_eq_getElem hi
    have e := getP hx
    have hm := rClashJ hl hq hi i 0 (by omega)
    rw [List.drop_zero, e] at hm
    rw [drop_get hx, clashL, ← take_app hx]
    cases hp : List.any (l.take i) (meetP l[i]) with
    | true => rw [hp] at hm; rw [Bool.true_or, if_pos rfl]; exact rCkI_yy (metB := true) (by rw [rowsP_len]; exact dlt hi) rfl hm
    | false => rw [hp] at hm; rw [Bool.false_or]; exact rCkI_yn (metB := false) (by rw [rowsP_len]; exact dlt hi) rfl hm (by rw [nx (by omega)]; exact ih (i + 1) (by omega))
theorem rIdL {l : List Pt} (hl : l.length ≤ 1000000000) (hq : ∀ q ∈ l, 1 ≤ q.length) : LoopN lp 0 (loopNo lf12 0) (tl 0 68 [(5, .p (.sl (rowsP l))), (6, .p (.int .i64 0))]) []
    (if List.any l (fun q => List.getD q 0 [] == [95, 105, 100]) = true then (.ret, (tl 0 68 [(2, .p (.int .i64 70))]), []) else (.exit 0, (tl 0 68 [(5, .p (.sl (rowsP l)))]), [])) := by
  have h := loop_all (lp := lp) (k := 0) (L := loopNo lf12 0) (fun i => (tl 0 68 [(5, .p (.sl (rowsP l))), (6, .p (.int .i64 (i : Int)))])) [] l (fun q => !(List.getD q 0 [] == [95, 105, 100])) (rF := (.ret, (tl 0 68 [(2, .p (.int .i64 70))]), [])) (rT := (.exit 0, (tl 0 68 [(5, .p (.sl (rowsP l)))]), []))
    (fun i x hx hp => by have e := getP hx; have hi := ltGet hx; exact rCkA_yy (by rw [rowsP_len]; exact dlt hi) hi (by rw [e]; exact hq _ (List.mem_of_getElem? hx)) (by rw [e]; simpa using hp))
    (fun i x r hx hp hr => by have e := getP hx; have hi := ltGet hx; exact rCkA_yn (by rw [rowsP_len]; exact dlt hi) hi (by rw [e]; exact hq _ (List.mem_of_getElem? hx)) (by rw [e]; simpa using hp) (by rw [nx (by omega)]; exact hr))
    (rCkA_n (by rw [rowsP_len]; exact dlt_n))
  have en : List.any l (fun q => List.getD q 0 [] == [95, 105, 100]) = !(l.all (fun q => !(List.getD q 0 [] == [95, 105, 100]))) := by rw [← any_notall]; simp
  rw [en]
  cases hb : l.all (fun q => !(List.getD q 0 [] == [95, 105, 100])) <;> rw [hb] at h <;> exact h
theorem doc_names {n : Int} {s : List UInt8} {is : List Val} {ns : List (List UInt8)} (h : mayV (.mk 7 n s is ns) = true) : ns.length = is.length := by
  rw [mayV] at h
  simp only [Bool.and_eq_true] at h
  rcases shape_parts h.2 with h | h | h | h | h | h
  · exact absurd h.1 (by decide)
  · exact absurd h.1 (by decide)
  · exact absurd h.1 (by decide)
  · exact absurd h.1 (by decide)
  · exact absurd h.1 (by decide)
  · exact h.2.2.2
theorem plain_check {rb : Bool} {v : Val} {ops : List OpS} : checkS rb v ops = if plainS rb v ops then (if rb then (if (namesV v).contains ([95, 105, 100] : List UInt8) then 70 else 0) else if (placesO ops).any (fun q => q.getD 0 [] == [95, 105, 100]) then 70 else if clashL [] (placesO ops) then 71 else 0) else 72 := by
  cases rb with
  | true =>
    simp only [checkS, plainS, if_true]
    by_cases h1 : ops.length = 0
    · by_cases h2 : kindV v = 7
      · by_cases h3 : checkW v = 0 <;> simp [h1, h2, h3]
      · simp [h2]
    · have : 0 < ops.length := by omega
      simp [h1, this]
  | false =>
    simp only [checkS, plainS, Bool.false_eq_true, if_false]
    cases noneV v <;> cases decide (ops.length < 1) <;> cases decide (16 < ops.length) <;> cases ops.all mayO <;> simp
theorem rCheckT (v : Val) {ops : List OpS} {rb : Bool} (hok : okV v) (hd : True) (hl : ops.length ≤ 100000000) (ho : ∀ o ∈ ops, okO o) : Runs lp 12 [.agg ([.p (.bool rb)] ++ (rowV v).map .p ++ [.p (.sl (rowsO ops))])] [] (.p (.int .i64 (checkS rb v ops)), []) := by
  have hp := rPlain v hok hd hl ho (rb := rb)
  have hll := placesO_len ops
  obtain ⟨k, n, s, is, ns⟩ := v
  rw [plain_check]
  by_cases h : plainS rb (.mk k n s is ns) ops = true
  · cases rb with
    | true =>
      have h' := h
      simp only [plainS, if_true, Bool.and_eq_true, kindV] at h'
      obtain ⟨⟨h1, h2⟩, h3⟩ := h'
      obtain rfl : k = 7 := eq_of_beq h2
      have hn : ns.length = is.length := doc_names (checkW_ok (eq_of_beq h3)).1
      obtain ⟨_, _, _, hil, hnl, _, _⟩ := okV_inv hok
      obtain ⟨⟨kz, nz, sz, isz, nsz⟩, hg⟩ := rGetId (n := n) (s := s) (is := is) (ns := ns) (by omega) hn
      refine ifE (rCk0 (l := []) (kz := kz) (nz := nz) (sz := sz) (isz := isz) (nsz := nsz) hp (fun _ _ b => by rw [if_pos b] at hg; exact hg) (fun _ _ b => by rw [if_neg (by rw [b]; decide)] at hg; exact hg) (fun _ b => by cases b) (fun _ b => by cases b) (fun _ b => by cases b) (fun _ b => by cases b) (fun _ b => by cases b)) ?_
      rw [h]
      simp only [if_true, namesV]
      by_cases hc : ns.contains ([95, 105, 100] : List UInt8) = true
      · simp only [hc, if_true]
      · simp only [hc, if_false, Bool.false_eq_true]
    | false =>
      have h' := h
      simp only [plainS, Bool.false_eq_true, if_false, Bool.and_eq_true] at h'
      have hm := h'.2
      have hpq := places_len ops fun o ho => mayO_path (List.all_eq_true.1 hm o ho)
      have h1 := rIdL (l := placesO ops) (by omega) (fun q h => (hpq q h).1)
      have h2 := rClashI (l := placesO ops) (by omega) (fun q h => (hpq q h).2) (placesO ops).length 0 (by omega)
      rw [List.take_zero, List.drop_zero] at h2
      refine ifE (rCk0 (l := placesO ops) (kz := 0) (nz := 0) (sz := []) (isz := []) (nsz := []) hp (fun _ b => by cases b) (fun _ b => by cases b) (fun _ _ => rPlaces (by omega) hm) (fun _ _ b => by rw [b] at h1; exact h1) (fun _ _ b => by rw [b] at h1; exact h1)
        (fun _ _ _ b => by rw [b] at h2; exact h2) (fun _ _ _ b => by rw [b] at h2; exact h2)) ?_
      rw [h]
      simp only [if_true, Bool.false_eq_true, if_false]
      split
      · rfl
      · split <;> rfl
  · refine ifE (rCk0 (l := []) (kz := 0) (nz := 0) (sz := []) (isz := []) (nsz := []) hp (fun b => absurd b h) (fun b => absurd b h) (fun b => absurd b h) (fun b => absurd b h) (fun b => absurd b h) (fun b => absurd b h) (fun b => absurd b h)) ?_
    rw [if_neg h, if_neg h]
end Go.Proofs.Ytegboccilfofmaa
