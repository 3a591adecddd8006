import Derived.Test.YtegboccilfofmaaLsSpcW2
import Derived.Test.YtegboccilfofmaaLsG6
set_option linter.unusedVariables false
set_option maxRecDepth 100000
set_option linter.unusedSimpArgs false
namespace Go.Proofs.Ytegboccilfofmaa
open Go Go.LS
theorem getP {l : List Pt} {i : Nat} {x : Pt} (h : l[i]? = some x) : l.getD i [] = x := by rw [List.getD, h]; rfl
theorem ltGet {α : Type} {l : List α} {i : Nat} {x : α} (h : l[i]? = some x) : i < l.length := (List.getElem?_eq_some_iff.1 h).1
theorem sWr (o : OpS) (h : okO o) : Runs lp 28 [.agg ((rowO o).map .p)] [] (.p (.bool (!(mayO o))), []) := by
  have hm := sMay o h
  obtain ⟨ok, ps, ⟨vk, vn, vs, vi, vns⟩, ts⟩ := o
  exact sWr0 hm
theorem oCon {ops : List OpS} (hl : ops.length ≤ 140737488355328) (hok : ∀ o ∈ ops, okO o) : Runs lp 27 [.p (.sl (rowsO ops)), .fn (.func 28) [] []] [] (.p (.bool (!(List.all ops mayO))), []) := by
  obtain ⟨m, l⟩ := loop_find (lp := lp) (k := 0) (L := loopNo lf60 0) (fun i => (tl 0 19 [(0, .p (.sl (rowsO ops))), (1, .fn (.func 28) [] []), (7, .p (.int .i64 ((List.length (rowsO ops) : Nat) : Int))), (8, .p (.int .i64 (i : Int)))])) [] ops mayO (fun m => (.ret, (tl 0 19 [(4, .p (.int .i64 (m : Int)))]), [])) (rT := (.exit 0, (tl 0 19 []), []))
    (fun i x hx hp => by obtain ⟨ok, ps, ⟨vk, vn, vs, vi, vns⟩, ts⟩ := x; exact oIdxR_yn _ _ _ _ _ _ _ _ (by rw [rowsO_len]; exact dlt (ltGet hx)) hx (sWr _ (hok _ (List.mem_of_getElem? hx))) hp)
    (fun i x r hx hp hr => by obtain ⟨ok, ps, ⟨vk, vn, vs, vi, vns⟩, ts⟩ := x; exact oIdxR_yy _ _ _ _ _ _ _ _ (by rw [rowsO_len]; exact dlt (ltGet hx)) hx (sWr _ (hok _ (List.mem_of_getElem? hx))) hp (by rw [nx (by have := ltGet hx; omega)]; exact hr))
    (oIdxR_n (by rw [rowsO_len]; exact dlt_n))
  have hi := @oIdx0 ops m (fun h => by rw [h] at l; exact l) (fun h => by rw [h] at l; exact l)
  refine ifE (@oCon0 ops m (fun h => by rw [h] at hi; exact hi) (fun h => by rw [h] at hi; exact hi)) ?_
  cases ops.all mayO <;> simp
def stGP (l : List Pt) : List LObj := if l = [] then [] else [.spare 1 (List.length (rowsP l))]
def tGP (b : Nat) (l : List Pt) : LV := if l = [] then .tight [] else .sl (rowsP l) b (List.length (rowsP l))
theorem tGP_app (b : Nat) (l : List Pt) (x : Pt) (r : List Pt) : tGP b (l ++ x :: r) = .sl (rowsP (l ++ x :: r)) b (List.length (rowsP (l ++ x :: r))) := if_neg (by simp)
theorem stGP_app (l : List Pt) (x : Pt) (r : List Pt) : stGP (l ++ x :: r) = [.spare 1 (List.length (rowsP (l ++ x :: r)))] := if_neg (by simp)
theorem tGP_ne {b : Nat} {l : List Pt} (h : l ≠ []) : tGP b l = .sl (rowsP l) b (List.length (rowsP l)) := if_neg h
theorem stGP_ne {l : List Pt} (h : l ≠ []) : stGP l = [.spare 1 (List.length (rowsP l))] := if_neg h
theorem placesO_app (a : List OpS) (o : OpS) : placesO (a ++ [o]) = placesO a ++ (if o.k == 6 then [o.p, o.t] else [o.p]) := by
  induction a with
  | nil => simp [placesO]
  | cons x r ih => simp only [List.cons_append, placesO]; rw [ih]; split <;> simp
theorem placesO_len (a : List OpS) : (placesO a).length ≤ 2 * a.length := by
  induction a with
  | nil => simp [placesO]
  | cons x r ih => simp only [placesO]; split <;> simp <;> omega
theorem placesO_fold : ∀ (a b : List OpS), a.foldl (fun l o => l ++ (if o.k == 6 then [o.p, o.t] else [o.p])) (placesO b) = placesO (b ++ a) := by
  intro a
  induction a with
  | nil => intro b; simp
  | cons x r ih => intro b; rw [List.foldl_cons, ← placesO_app, ih]; simp
theorem take_app {α : Type} {l : List α} {i : Nat} {x : α} (h : l[i]? = some x) : l.take (i + 1) = l.take i ++ [x] := by
  rw [List.take_add_one, h]; rfl
theorem pathB_len {p : Pt} (h : pathB' p = true) : 1 ≤ p.length ∧ p.length ≤ 8 := by
  simp only [pathB', Bool.and_eq_true, decide_eq_true_eq] at h; exact ⟨h.1.1, h.1.2⟩
theorem mayO_path {o : OpS} (h : mayO o = true) : (1 ≤ o.p.length ∧ o.p.length ≤ 8) ∧ ((o.k == 6) = true → 1 ≤ o.t.length ∧ o.t.length ≤ 8) := by
  simp only [mayO, Bool.and_eq_true] at h
  refine ⟨pathB_len h.1, fun h6 => ?_⟩
  have h2 := h.2
  have e : o.k = 6 := eq_of_beq h6
  rw [e] at h2
  simp only [show ((6 : Int) == 2) = false from rfl, show ((6 : Int) == 6) = true from rfl, if_true, Bool.false_eq_true, if_false, Bool.and_eq_true] at h2
  exact pathB_len h2.2
theorem places_len (ops : List OpS) (h : ∀ o ∈ ops, (1 ≤ o.p.length ∧ o.p.length ≤ 8) ∧ ((o.k == 6) = true → 1 ≤ o.t.length ∧ o.t.length ≤ 8)) : ∀ q ∈ placesO ops, 1 ≤ q.length ∧ q.length ≤ 140737488355328 := by
  induction ops with
  | nil => intro q hq; simp [placesO] at hq
  | cons o r ih =>
    have h1 := h o (by simp)
    have h2 := ih (fun o ho => h o (by simp [ho]))
    intro q hq
    simp only [placesO] at hq
    by_cases h6 : (o.k == 6) = true
    · rw [if_pos h6] at hq
      simp only [List.mem_cons] at hq
      rcases hq with rfl | rfl | hq
      · omega
      · have := h1.2 h6; omega
      · exact h2 q hq
    · rw [if_neg h6] at hq
      simp only [List.mem_cons] at hq
      rcases hq with rfl | hq
      · omega
      · exact h2 q hq
theorem sPlaces {rb : Bool} {k n : Int} {s : List UInt8} {is : List Val} {ns : List (List UInt8)} {ops : List OpS} (hl : ops.length ≤ 100000000000) (hok : ∀ o ∈ ops, okO o) :
    Runs lp 9 [.agg [.p (.bool rb), .p (.int .i64 k), .p (.int .i64 n), .p (.str s), .p (.sl (rowsV is)), .p (.sl (rowsN ns)), .p (.sl (rowsO ops))]] [] (.p (.sl (rowsP (if ops.all mayO then placesO ops else []))), []) := by
  cases hm : ops.all mayO with
  | false => exact ifE (sPl0 (l := []) (by rw [hm]; exact hm ▸ oCon (by omega) hok) (fun h => by rw [hm] at h; cases h) (fun h => by rw [hm] at h; cases h)) (by rw [hm]; rfl)
  | true =>
    have hall := fun o ho => List.all_eq_true.1 hm o ho
    have l := loop_each (lp := lp) (k := 0) (L := loopNo lf9 0) (fun i (l : List Pt) => (tl 0 33 [(3, tGP 0 l), (10, .p (.sl (rowsO ops))), (11, .p (.int .i64 ((List.length (rowsO ops) : Nat) : Int))), (12, .p (.int .i64 (i : Int)))])) (fun _ l => stGP l) ops (fun l o => l ++ (if o.k == 6 then [o.p, o.t] else [o.p]))
      (fun l => (.exit 0, (tl 0 33 [(3, tGP 0 l)]), stGP l)) (fun i l => l = placesO (ops.take i))
      (by
        intro i l o r hx hl
        have hi := ltGet hx
        have hmay := mayO_path (hall o (List.mem_of_getElem? hx))
        have hlen : l.length ≤ 2 * i := by have := placesO_len (ops.take i); rw [hl]; rw [List.length_take] at this; omega
        refine ⟨?_, fun hr => ?_⟩
        · rw [take_app hx, placesO_app, hl]
        · obtain ⟨ok, ps, ⟨vk, vn, vs, vi, vns⟩, ts⟩ := o
          have c1 := cloneN (ns := ps) (by have := hmay.1.2; simp only at this; omega)
          by_cases h6 : (ok == 6) = true
          · have c2 := cloneN (ns := ts) (by have := (hmay.2 h6).2; simp only at this; omega)
            rw [if_pos h6] at hr
            by_cases hl0 : l = []
            · subst hl0
              exact sPlR0_yy _ _ _ _ _ _ _ _ (by rw [rowsO_len]; exact dlt hi) hx c1 h6 c2 (by simp) (by rw [nx (by omega)]; exact hr)
            · rw [tGP_app, stGP_app] at hr; rw [tGP_ne hl0, stGP_ne hl0]
              exact sPlR1_yy _ _ _ _ _ _ _ _ (by rw [rowsO_len]; exact dlt hi) hx c1 (by omega) h6 c2 (by simp; omega) (by rw [nx (by omega), List.append_assoc]; exact hr)
          · have h6 : (ok == 6) = false := by simpa using h6
            rw [if_neg (by rw [h6]; decide)] at hr
            by_cases hl0 : l = []
            · subst hl0
              exact sPlR0_yn _ _ _ _ _ _ _ _ (by rw [rowsO_len]; exact dlt hi) hx c1 h6 (by rw [nx (by omega)]; exact hr)
            · rw [tGP_app, stGP_app] at hr; rw [tGP_ne hl0, stGP_ne hl0]
              exact sPlR1_yn _ _ _ _ _ _ _ _ (by rw [rowsO_len]; exact dlt hi) hx c1 (by omega) h6 (by rw [nx (by omega)]; exact hr))
      (by
        intro l hl
        by_cases hl : l = []
        · subst hl; exact sPlR0_n (by rw [rowsO_len]; exact dlt_n)
        · simp only [tGP, stGP, if_neg hl]; exact sPlR1_n (by rw [rowsO_len]; exact dlt_n)) [] (by simp [placesO])
    have e := placesO_fold ops []
    simp only [placesO, List.nil_append] at e
    rw [e] at l
    have oc := oCon (ops := ops) (by omega) hok
    refine ifE (sPl0 (l := placesO ops) oc (fun _ h => ?_) (fun _ h => ?_)) ?_
    · have h := of_decide_eq_true h
      rw [h] at l; exact l
    · have h := of_decide_eq_false h
      simp only [tGP, stGP, if_neg h] at l; exact l
    · rw [hm]
      by_cases h : placesO ops = []
      · simp [h, rowsP]
      · simp [h]
theorem idCon {l : List Pt} (hl : l.length ≤ 1000000000000) (hq : ∀ q ∈ l, 1 ≤ q.length) : Runs lp 31 [.p (.sl (rowsP l)), .fn (.func 32) [] []] [] (.p (.bool (List.any l (fun q => List.getD q 0 [] == [95, 105, 100]))), []) := by
  obtain ⟨m, h⟩ := loop_find (lp := lp) (k := 0) (L := loopNo lf62 0) (fun i => (tl 0 19 [(0, .p (.sl (rowsP l))), (1, .fn (.func 32) [] []), (7, .p (.int .i64 ((List.length (rowsP l) : Nat) : Int))), (8, .p (.int .i64 (i : Int)))])) [] l (fun q => !(List.getD q 0 [] == [95, 105, 100])) (fun m => (.ret, (tl 0 19 [(4, .p (.int .i64 (m : Int)))]), [])) (rT := (.exit 0, (tl 0 19 []), []))
    (fun i x hx hp => by have e := getP hx; have hi := ltGet hx; exact iIdxR_yy (by rw [rowsP_len]; exact dlt hi) hi (by rw [e]; exact sId0 (hq _ (List.mem_of_getElem? hx))) (by rw [e]; simpa using hp))
    (fun i x r hx hp hr => by have e := getP hx; have hi := ltGet hx; exact iIdxR_yn (by rw [rowsP_len]; exact dlt hi) hi (by rw [e]; exact sId0 (hq _ (List.mem_of_getElem? hx))) (by rw [e]; simpa using hp) (by rw [nx (by omega)]; exact hr))
    (iIdxR_n (by rw [rowsP_len]; exact dlt_n))
  have en : List.any l (fun q => List.getD q 0 [] == [95, 105, 100]) = !(l.all (fun q => !(List.getD q 0 [] == [95, 105, 100]))) := by rw [← any_notall]; simp
  rw [en]
  have hi := @iIdx0 l m (l.all (fun q => !(List.getD q 0 [] == [95, 105, 100]))) (fun b => by rw [b] at h; exact h) (fun b => by rw [b] at h; exact h)
  refine ifE (@iCon0 l m (l.all (fun q => !(List.getD q 0 [] == [95, 105, 100]))) (fun b => by rw [b] at hi; exact hi) (fun b => by rw [b] at hi; exact hi)) ?_
  cases (l.all (fun q => !(List.getD q 0 [] == [95, 105, 100]))) <;> simp
theorem mCon {l : List Pt} {p : Pt} (hl : l.length ≤ 1000000000000) (hq : ∀ q ∈ l, q.length ≤ 140737488355328) (hp0 : p.length ≤ 140737488355328) : Runs lp 31 [.p (.sl (rowsP l)), .fn (.func 33) [] [.ptr 0 0 0]] [.row [[.p (.sl (rowsN p))]]] (.p (.bool (List.any l (meetP p))), [.row [[.p (.sl (rowsN p))]]]) := by
  obtain ⟨m, h⟩ := loop_find (lp := lp) (k := 1) (L := loopNo lf62 0) (fun i => (tl 0 19 [(0, .p (.sl (rowsP l))), (1, .fn (.func 33) [] [.ptr 0 0 0]), (7, .p (.int .i64 ((List.length (rowsP l) : Nat) : Int))), (8, .p (.int .i64 (i : Int)))])) [.row [[.p (.sl (rowsN p))]]] l (fun q => !(meetP p q)) (fun m => (.ret, (tl 0 19 [(4, .p (.int .i64 (m : Int)))]), [.row [[.p (.sl (rowsN p))]]])) (rT := (.exit 0, (tl 0 19 []), [.row [[.p (.sl (rowsN p))]]]))
    (fun i x hx hp => by have e := getP hx; have hi := ltGet hx; exact mIdxR_yy (by rw [rowsP_len]; exact dlt hi) hi (by rw [e]; exact sC10 (pMeet hp0 (hq _ (List.mem_of_getElem? hx)))) (by rw [e]; simpa using hp))
    (fun i x r hx hp hr => by have e := getP hx; have hi := ltGet hx; exact mIdxR_yn (by rw [rowsP_len]; exact dlt hi) hi (by rw [e]; exact sC10 (pMeet hp0 (hq _ (List.mem_of_getElem? hx)))) (by rw [e]; simpa using hp) (by rw [nx (by omega)]; exact hr))
    (mIdxR_n (by rw [rowsP_len]; exact dlt_n))
  have en : List.any l (meetP p) = !(l.all (fun q => !(meetP p q))) := by rw [← any_notall]; simp
  rw [en]
  have hi := @mIdx0 l m (l.all (fun q => !(meetP p q))) p (fun b => by rw [b] at h; exact h) (fun b => by rw [b] at h; exact h)
  refine ifE (@mCon0 l m (l.all (fun q => !(meetP p q))) p (fun b => by rw [b] at hi; exact hi) (fun b => by rw [b] at hi; exact hi)) ?_
  cases (l.all (fun q => !(meetP p q))) <;> simp
theorem nCon {ns : List (List UInt8)} {s : List UInt8} (hl : ns.length ≤ 10000000000000) : Runs lp 61 [.p (.sl (rowsN ns)), .p (.str s)] [] (.p (.bool (List.contains ns s)), []) := by
  obtain ⟨m, h⟩ := loop_find (lp := lp) (k := 0) (L := loopNo lf86 0) (fun i => (tl 0 19 [(0, .p (.sl (rowsN ns))), (1, .p (.str s)), (7, .p (.int .i64 ((List.length (rowsN ns) : Nat) : Int))), (8, .p (.int .i64 (i : Int)))])) [] ns (fun q => !(s == q)) (fun m => (.ret, (tl 0 19 [(4, .p (.int .i64 (m : Int)))]), [])) (rT := (.exit 0, (tl 0 19 []), []))
    (fun i x hx hp => by have e := getD_get hx; have hi := ltGet hx; exact nIdxR_yy (by rw [rowsN_len]; exact dlt hi) hi (by rw [e]; simpa using hp))
    (fun i x r hx hp hr => by have e := getD_get hx; have hi := ltGet hx; exact nIdxR_yn (by rw [rowsN_len]; exact dlt hi) hi (by rw [e]; simpa using hp) (by rw [nx (by omega)]; exact hr))
    (nIdxR_n (by rw [rowsN_len]; exact dlt_n))
  have en : List.contains ns s = !(ns.all (fun q => !(s == q))) := by rw [List.contains_eq_any_beq, ← any_notall]; simp only [Bool.not_not]
  rw [en]
  have hi := @nIdx0 ns s m (ns.all (fun q => !(s == q))) (fun b => by rw [b] at h; exact h) (fun b => by rw [b] at h; exact h)
  refine ifE (@nCon0 ns s m (ns.all (fun q => !(s == q))) (fun b => by rw [b] at hi; exact hi) (fun b => by rw [b] at hi; exact hi)) ?_
  cases (ns.all (fun q => !(s == q))) <;> simp
theorem sReplace {v : Val} {ops : List OpS} {rb : Bool} (hok : okV v) (hd : True) : Runs lp 30 [.agg ([.p (.bool rb)] ++ (rowV v).map .p ++ [.p (.sl (rowsO ops))])] [] (.p (.int .i64 (checkS true v ops)), []) := by
  have hc := vCheckW _ hok
  obtain ⟨k, n, s, is, ns⟩ := v
  obtain ⟨_, hn, hs, hil, hnl, hns, his⟩ := okV_inv hok
  refine ifE (sRep0 (fun _ _ => hc) (fun _ _ h => by have h := checkW_ok (eq_of_beq h); exact nCon (by omega))) ?_
  simp only [rowsO_len, checkS, kindV, namesV, if_true]
  by_cases h1 : 0 < ops.length
  · rw [if_pos (decide_eq_true (by omega))]; simp [h1]
  · rw [if_neg (fun h => by have := of_decide_eq_true h; omega)]
    by_cases h2 : k = 7
    · subst h2
      by_cases h3 : checkW (.mk 7 n s is ns) = 0
      · simp [h1, h3]; split <;> rfl
      · simp [h1, h3]
    · simp [h1, h2]
theorem clash_loop {l : List Pt} (hl : l.length ≤ 1000000000) (hq : ∀ q ∈ l, q.length ≤ 140737488355328) : ∀ (j i : Nat), i + j = l.length → ∃ m : Nat, LoopN lp 0 (loopNo lf11 0) (tl 0 48 [(3, .p (.sl (rowsP l))), (35, .p (.sl (rowsP l))), (36, .p (.int .i64 ((List.length (rowsP l) : Nat) : Int))), (37, .p (.int .i64 (i : Int)))]) []
    (if clashL (l.take i) (l.drop i) = true then (.ret, (tl 0 48 [(2, .p (.int .i64 71))]), [.row [[.p (.sl (rowsN (List.getD (α := Pt) l m [])))]]]) else (.exit 0, (tl 0 48 []), [])) := by
  intro j
  induction j with
  | zero =>
    intro i h
    obtain rfl : i = l.length := by omega
    rw [List.drop_length]
    exact ⟨0, sCkR_n (by rw [rowsP_len]; exact dlt_n)⟩
  | succ j ih =>
    intro i h
    have hi : i < l.length := by omega
    have hx : l[i]? = some l[i] := List.getElem?_eq_getElem hi
    have e := getP hx
    have hm := mCon (l := l.take i) (p := l.getD i []) (by rw [List.length_take]; omega) (fun q h => hq q (List.mem_of_mem_take h)) (by rw [e]; exact hq _ (List.getElem_mem hi))
    rw [drop_get hx, clashL, ← take_app hx]
    cases hp : List.any (l.take i) (meetP (l.getD i [])) with
    | true =>
      rw [e] at hp
      refine ⟨i, ?_⟩
      rw [hp, Bool.true_or, if_pos rfl]
      exact sCkR_yy (by rw [rowsP_len]; exact dlt hi) hi (by omega) hm (by rw [e]; exact hp)
    | false =>
      obtain ⟨m, hr⟩ := ih (i + 1) (by omega)
      have hp' := hp
      rw [e] at hp'
      refine ⟨m, ?_⟩
      rw [hp', Bool.false_or]
      exact sCkR_yn (by rw [rowsP_len]; exact dlt hi) hi (by omega) hm hp (by rw [nx (by omega)]; exact hr)
theorem sCheckT (v : Val) {ops : List OpS} {rb : Bool} (hok : okV v) (hd : True) (hl : ops.length ≤ 100000000) (ho : ∀ o ∈ ops, okO o) : Runs lp 11 [.agg ([.p (.bool rb)] ++ (rowV v).map .p ++ [.p (.sl (rowsO ops))])] [] (.p (.int .i64 (checkS rb v ops)), []) := by
  have hrp := sReplace (ops := ops) (rb := rb) hok hd
  have hno := sNone v hok
  have hoc := oCon (ops := ops) (by omega) ho
  have hpl := fun k n s is ns => @sPlaces rb k n s is ns ops (by omega) ho
  have hpq : ops.all mayO = true → ∀ q ∈ placesO ops, 1 ≤ q.length ∧ q.length ≤ 140737488355328 := fun hm => places_len ops fun o ho => mayO_path (List.all_eq_true.1 hm o ho)
  have hll := placesO_len ops
  obtain ⟨k, n, s, is, ns⟩ := v
  by_cases hm : ops.all mayO = true
  · obtain ⟨m, hcl⟩ := clash_loop (l := placesO ops) (by omega) (fun q h => (hpq hm q h).2) (placesO ops).length 0 (by omega)
    rw [List.take_zero, List.drop_zero] at hcl
    refine ifE (sCk0 (l := placesO ops) (i := m) (fun _ => hrp) (fun _ => hno) (fun _ _ _ _ => hoc) (fun _ _ _ _ _ => by have := hpl k n s is ns; rw [if_pos hm] at this; exact this) (fun _ _ _ _ _ => idCon (by omega) (fun q h => (hpq hm q h).1))
      (fun _ _ _ _ _ _ h => by rw [h] at hcl; exact hcl) (fun _ _ _ _ _ _ h => by rw [h] at hcl; exact hcl)) ?_
    rw [hm, rowsO_len]
    cases rb with
    | true => rfl
    | false =>
      simp only [checkS, hm, Bool.false_eq_true, if_false, if_true, Bool.not_true, Bool.or_false]
      by_cases h1 : noneV (.mk k n s is ns) = true
      · rw [if_pos h1, h1]
        by_cases h2 : ops.length < 1
        · rw [if_pos (decide_eq_true (by omega))]; simp [h2]
        · rw [if_neg (fun h => by have := of_decide_eq_true h; omega)]
          by_cases h3 : 16 < ops.length
          · rw [if_pos (decide_eq_true (by omega))]; simp [h3]
          · rw [if_neg (fun h => by have := of_decide_eq_true h; omega)]
            have e1 : decide (ops.length < 1) = false := decide_eq_false h2
            have e2 : decide (16 < ops.length) = false := decide_eq_false h3
            simp only [e1, e2, Bool.not_true, Bool.or_false, Bool.false_eq_true, if_false]
            split
            · rfl
            · split <;> rfl
      · rw [if_neg h1]; simp [h1]
  · refine ifE (sCk0 (l := []) (i := 0) (fun _ => hrp) (fun _ => hno) (fun _ _ _ _ => hoc) (fun _ _ _ _ h => absurd h hm) (fun _ _ _ _ h => absurd h hm) (fun _ _ _ _ h => absurd h hm) (fun _ _ _ _ h => absurd h hm)) ?_
    have hm : ops.all mayO = false := by simpa using hm
    rw [hm]
    cases rb with
    | true => rfl
    | false => simp [checkS, hm]
end Go.Proofs.Ytegboccilfofmaa
