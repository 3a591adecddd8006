import Derived.Test.YtmbjojnldbeicaaLsValW
set_option linter.unusedVariables false
set_option linter.unusedSimpArgs false
set_option maxRecDepth 100000
set_option linter.unusedSimpArgs false
namespace Go.Proofs.Ytmbjojnldbeicaa
open Go Go.LS
theorem Si : ∀ (ns : List (List UInt8)), (List.range ns.length).all (fun i => !((ns.take i).contains (ns.getD i []))) = !Cl ns := by
 have two : ∀ l : List (List UInt8), Cl l = false ↔ l.Nodup := by
  intro l
  induction l with
  | nil => simp [Cl]
  | cons x r ih => simp only [Cl, Bool.or_eq_false_iff, List.nodup_cons, ih, List.contains_eq_mem, decide_eq_false_iff_not]
 intro ns
 rw [Bool.eq_iff_iff, Bool.not_eq_true', two]
 simp only [List.all_eq_true, List.mem_range, Bool.not_eq_true', List.contains_eq_mem, decide_eq_false_iff_not]
 rw [List.Nodup, List.pairwise_iff_getElem]
 constructor
 ·intro h i j hi hj hij he
  refine h j hj ?_
  rw [List.mem_take_iff_getElem]
  refine ⟨i, by omega, ?_⟩
  rw [List.getD, List.getElem?_eq_getElem hj]
  simpa using he
 ·intro h i hi hm
  rw [List.mem_take_iff_getElem] at hm
  obtain ⟨j, hj, he⟩ := hm
  refine h j i (by omega) hi (by omega) ?_
  rw [List.getD, List.getElem?_eq_getElem hi] at he
  simpa using he
theorem dlt {i n : Nat} (h : i < n) : decide ((i : Int) < ((n : Nat) : Int)) = true := decide_eq_true (by omega)
theorem dlt_n {n : Nat} : decide (((n : Nat) : Int) < ((n : Nat) : Int)) = false := decide_eq_false (by omega)
theorem rTwice {ns : List (List UInt8)} (hl : ns.length ≤ 140737488355328) : Runs lp 69 [.p (.sl (Ak ns))] [] (.p (.bool (Cl ns)), []) := by
 have inner : ∀ i, i < ns.length → LoopN lp 0 (Ae H3 1) (tl 0 25 [(0, .p (.sl (Ak ns))), (3, .p (.int .i64 (i : Int))), (4, .p (.int .i64 0))]) []
   (if (ns.take i).all (fun x => !(ns.getD i [] == x)) = true then (.exit 2, tl 0 25 [(0, .p (.sl (Ak ns))), (3, .p (.int .i64 (i : Int)))], []) else (.ret, tl 0 25 [(2, .p (.bool true))], [])) := by
  intro i hi
  refine Gq (fun j => tl 0 25 [(0, .p (.sl (Ak ns))), (3, .p (.int .i64 (i : Int))), (4, .p (.int .i64 (j : Int)))]) [] (ns.take i) (fun x => !(ns.getD i [] == x)) ?_ ?_ ?_
  ·intro j x hx hp
   obtain ⟨hj, rfl⟩ := List.getElem?_eq_some_iff.1 hx
   simp only [List.length_take, List.getElem_take] at hj hp
   refine rTwJ_yy (dlt (by omega)) hi (by omega) ?_
   simp only [Bool.not_eq_false'] at hp
   rw [List.getD_eq_getElem?_getD (l := ns) (i := j), List.getElem?_eq_getElem (by omega)]
   exact hp
  ·intro j x r hx hp hr
   obtain ⟨hj, rfl⟩ := List.getElem?_eq_some_iff.1 hx
   simp only [List.length_take, List.getElem_take] at hj hp
   refine rTwJ_yn (dlt (by omega)) hi (by omega) ?_ ?_
   ·simp only [Bool.not_eq_true'] at hp
    rw [List.getD_eq_getElem?_getD (l := ns) (i := j), List.getElem?_eq_getElem (by omega)]
    exact hp
   ·rw [nx (by omega)]; exact hr
  ·have e : (ns.take i).length = i := by simp; omega
   rw [e]
   exact rTwJ_n dlt_n
 have outer := Gq (lp := lp) (k := 0) (L := Ae H3 0) (fun i => tl 0 25 [(0, .p (.sl (Ak ns))), (3, .p (.int .i64 (i : Int)))]) [] (List.range ns.length) (fun i => !((ns.take i).contains (ns.getD i [])))
  (rF := (.ret, tl 0 25 [(2, .p (.bool true))], [])) (rT := (.exit 0, tl 0 25 [], []))
  (by
    intro i x hx hp
    obtain ⟨hi, rfl⟩ := List.getElem?_eq_some_iff.1 hx
    simp only [List.length_range, List.getElem_range] at hi hp ⊢
    refine rTwI_yy (metB := true) (by rw [Bl]; exact dlt hi) rfl ?_
    have := inner i hi
    rwa [if_neg] at this
    simp only [Bool.not_eq_false', List.contains_eq_mem, decide_eq_true_eq] at hp
    simp only [List.all_eq_true, Bool.not_eq_true']
    intro h
    have := h _ hp
    simp at this)
  (by
    intro i x r hx hp hr
    obtain ⟨hi, rfl⟩ := List.getElem?_eq_some_iff.1 hx
    simp only [List.length_range, List.getElem_range] at hi hp ⊢
    refine rTwI_yn (metB := false) (by rw [Bl]; exact dlt hi) rfl ?_ ?_
    ·have := inner i hi
     rwa [if_pos] at this
     simp only [Bool.not_eq_true', List.contains_eq_mem, decide_eq_false_iff_not] at hp
     simp only [List.all_eq_true, Bool.not_eq_true', beq_eq_false_iff_ne]
     intro x hx he
     exact hp (he ▸ hx)
    ·rw [nx (by omega)]; exact hr)
  (by
    simp only [List.length_range]
    exact rTwI_n (by rw [Bl]; exact dlt_n))
 rw [Si] at outer
 have h := @rTw ns (fun h => by rw [h] at outer; exact outer) (fun h => by rw [h] at outer; exact outer)
 cases e : Cl ns with
 | true => rw [e] at h; exact h
 | false => rw [e] at h; exact h
theorem Sj {ns : List (List UInt8)} (hl : ns.length ≤ 140737488355328) : ∀ (k i : Nat), k + i = ns.length → ∃ ms,
  LoopN lp 0 (Ae Nz 0) (tl 0 24 [(3, .mp 0), (7, .p (.sl (Ak ns))), (8, .p (.int .i64 ((List.length (Ak ns) : Nat) : Int))), (9, .p (.int .i64 (i : Int)))]) [.map (Cm (ns.take i))]
   (if (ns.drop i).all (fun x => B3 x && !(ns.take i).contains x) && !Cl (ns.drop i) then (.exit 0, tl 0 24 [], [.map (Cm ms)]) else (.ret, tl 0 24 [(2, .p (.bool false))], [.map (Cm ms)])) := by
 intro k
 induction k with
 | zero =>
  intro i h
  refine ⟨ns.take i, ?_⟩
  rw [List.drop_eq_nil_of_le (by omega)]
  exact Yb (by rw [Bl]; exact decide_eq_false (by omega))
 | succ k ih =>
  intro i h
  have hi : i < ns.length := by omega
  have e : ns.drop i = ns.getD i [] :: ns.drop (i + 1) := by
   rw [List.drop_eq_getElem_cons hi, List.getD, List.getElem?_eq_getElem hi]; rfl
  have c1 : (decide ((i : Int) < ((List.length (Ak ns) : Nat) : Int))) = true := by rw [Bl]; exact decide_eq_true (by omega)
  have et : ns.take (i + 1) = ns.take i ++ [ns.getD i []] := by
   rw [List.take_add_one, List.getD, List.getElem?_eq_getElem hi]; rfl
  rw [e]
  generalize hx : ns.getD i [] = x at *
  have hnm : Runs lp 81 [.p (.str (ns.getD i []))] [] (.p (.bool (B3 (ns.getD i []))), []) := vName _
  cases hn : B3 x with
  | false =>
   refine ⟨ns.take i, ?_⟩
   rw [if_neg (by simp [hn])]
   exact Ur c1 hi hnm (by rw [hx]; exact hn)
  | true =>
   cases hc : (ns.take i).contains x with
   | true =>
    refine ⟨ns.take i, ?_⟩
    rw [if_neg (by simp only [List.all_cons, hc]; simp)]
    exact Sf c1 hi hnm (by rw [hx]; exact hn) (by rw [hx]; exact hc)
   | false =>
    obtain ⟨ms, ihh⟩ := ih (i + 1) (by omega)
    refine ⟨ms, ?_⟩
    have eq : ((x :: ns.drop (i + 1)).all (fun x => B3 x && !(ns.take i).contains x) && !Cl (x :: ns.drop (i + 1))) = ((ns.drop (i + 1)).all (fun x => B3 x && !(ns.take (i + 1)).contains x) && !Cl (ns.drop (i + 1))) := by
     rw [List.all_cons, hn, hc, Cl, et]
     simp only [Bool.not_false, Bool.true_and]
     rw [Bool.eq_iff_iff]
     simp only [Bool.and_eq_true, List.all_eq_true, Bool.not_eq_true', Bool.or_eq_false_iff, List.contains_eq_mem, List.mem_append, List.mem_singleton, decide_eq_false_iff_not, Bool.or_eq_true, decide_eq_true_eq, not_or]
     constructor
     ·rintro ⟨h1, h2, h3⟩
      refine ⟨fun y hy => ⟨(h1 y hy).1, (h1 y hy).2, ?_⟩, h3⟩
      rintro rfl
      exact h2 hy
     ·rintro ⟨h1, h3⟩
      exact ⟨fun y hy => ⟨(h1 y hy).1, (h1 y hy).2.1⟩, fun hm => (h1 x hm).2.2 rfl, h3⟩
    rw [eq]
    refine Sg c1 hi hnm (by rw [hx]; exact hn) (by rw [hx]; exact hc) (by rw [hx]; exact hc) ?_
    rw [hx, A9 (by omega) (by omega), ← et]
    exact ihh
theorem vNames {ns : List (List UInt8)} (hl : ns.length ≤ 140737488355328) : Runs lp 70 [.p (.sl (Ak ns))] [] (.p (.bool (Ci ns)), []) := by
 obtain ⟨ms, h⟩ := Sj hl ns.length 0 rfl
 rw [List.drop_zero] at h
 have e : (ns.all (fun x => B3 x && !(ns.take 0).contains x)) = ns.all B3 := by simp
 rw [e] at h
 unfold Ci
 cases hc : (ns.all B3 && !Cl ns) with
 | true => rw [hc, if_pos rfl] at h; exact Yc (okN := true) rfl h
 | false => rw [hc, if_neg (by simp)] at h; exact Yd (okN := false) rfl h
theorem Dv {k n : Int} {s : List UInt8} {is : List Val} {ns : List (List UInt8)} (h : okV (.mk k n s is ns)) : (-9223372036854775808 ≤ k ∧ k ≤ 9223372036854775807) ∧ (-9223372036854775808 ≤ n ∧ n ≤ 9223372036854775807) ∧ s.length ≤ 140737488351232 ∧ is.length * 80 ≤ 140737488355328 ∧ ns.length * 16 ≤ 140737488355328 ∧ (∀ x ∈ ns, x.length ≤ 140737488351232) ∧ ∀ v ∈ is, okV v := by
 rw [okV, M5] at h; exact h
theorem ifE {lp : Bs} {f : FuncId} {a : List LV} {s : List LObj} {x y : LV × List LObj} (h : Runs lp f a s x) (e : x = y) : Runs lp f a s y := e ▸ h
theorem Ye {k n : Int} {s : List UInt8} {is : List Val} {ns : List (List UInt8)} : ((if (B7 is) = true then (if (ns.all B3) = true then (if (k == 1) = true then (if (n == 0) = true then (if (s == []) = true then (if (((List.length (Ad is) : Nat) : Int) == 0) = true then (((.p (.bool (((List.length (Ak ns) : Nat) : Int) == 0))), [])) else ((.p (.bool false), []))) else ((.p (.bool false), []))) else ((.p (.bool false), []))) else (if (k == 2) = true then (if (decide (n ≥ 0)) = true then (if (decide (n ≤ 1)) = true then (if (s == []) = true then (if (((List.length (Ad is) : Nat) : Int) == 0) = true then (((.p (.bool (((List.length (Ak ns) : Nat) : Int) == 0))), [])) else ((.p (.bool false), []))) else ((.p (.bool false), []))) else ((.p (.bool false), []))) else ((.p (.bool false), []))) else (if (k == 3) = true then (if (s == []) = true then (if (((List.length (Ad is) : Nat) : Int) == 0) = true then (((.p (.bool (((List.length (Ak ns) : Nat) : Int) == 0))), [])) else ((.p (.bool false), []))) else ((.p (.bool false), []))) else (if (k == 4) = true then (if (n == 0) = true then (if (((List.length (Ad is) : Nat) : Int) == 0) = true then (((.p (.bool (((List.length (Ak ns) : Nat) : Int) == 0))), [])) else ((.p (.bool false), []))) else ((.p (.bool false), []))) else (if (k == 5) = true then (if (n == 0) = true then (if (((List.length (Ad is) : Nat) : Int) == 0) = true then (((.p (.bool (((List.length (Ak ns) : Nat) : Int) == 0))), [])) else ((.p (.bool false), []))) else ((.p (.bool false), []))) else (if (k == 6) = true then (if (n == 0) = true then (if (s == []) = true then (((.p (.bool (((List.length (Ak ns) : Nat) : Int) == 0))), [])) else ((.p (.bool false), []))) else ((.p (.bool false), []))) else (if (k == 7) = true then (if (n == 0) = true then (if (s == []) = true then (if (((List.length (Ak ns) : Nat) : Int) == ((List.length (Ad is) : Nat) : Int)) = true then (((.p (.bool (!(Cl ns)))), [])) else ((.p (.bool false), []))) else ((.p (.bool false), []))) else ((.p (.bool false), []))) else ((.p (.bool false), []))))))))) else ((.p (.bool false), []))) else ((.p (.bool false), [])))) = ((LV.p (PV.bool (Ce (.mk k n s is ns))), []) : LV × List LObj) := by
 have hk : k = 1 ∨ k = 2 ∨ k = 3 ∨ k = 4 ∨ k = 5 ∨ k = 6 ∨ k = 7 ∨ (¬ k = 1 ∧ ¬ k = 2 ∧ ¬ k = 3 ∧ ¬ k = 4 ∧ ¬ k = 5 ∧ ¬ k = 6 ∧ ¬ k = 7) := by omega
 have e0 : ∀ n : Nat, decide ((n : Int) > 0) = !decide (n = 0) := fun n => by by_cases h : n = 0 <;> simp [h]; omega
 have e1 : ∀ n : Nat, ((n : Int) == 0) = decide (n = 0) := fun n => by by_cases h : n = 0 <;> simp [h]
 have e2 : ∀ n m : Nat, ((n : Int) == (m : Int)) = decide (n = m) := fun n m => by by_cases h : n = m <;> simp [h]; omega
 simp only [A6, Bl, e0, e1, e2]
 have hb2 : ns.all B3 = false → ns ≠ [] := by intro h e; subst e; simp at h
 rcases Bool.eq_false_or_eq_true (ns.all B3) with hb | hb
 all_goals rcases Bool.eq_false_or_eq_true (B7 is) with hc | hc
 all_goals rcases Bool.eq_false_or_eq_true (Cl ns) with hd | hd
 all_goals rcases hk with rfl | rfl | rfl | rfl | rfl | rfl | rfl | ⟨h1, h2, h3, h4, h5, h6, h7⟩
 all_goals simp [Ce, Ec, Ci, -List.all_eq_true, -List.all_eq_false, *]
 all_goals (try (repeat' split))
 all_goals (try simp [*])
 all_goals (try (intros; exact hb2 hb))
 all_goals (try (intros; intro h; subst h; exact hb2 hb rfl))
 all_goals (try omega)
theorem rMay : ∀ v, okV v → Runs lp 49 [Es v] [] (.p (.bool (Ce v)), []) := by
 refine Val.ind fun k n s is ns ih hok => ?_
 obtain ⟨_, _, _, hil, hnl, hns, his⟩ := Dv hok
 have l0 := Gq (lp := lp) (k := 0) (L := Ae H2 0) (fun i => tl 0 146 [(1, .ptr 0 0 0), (3, .p (.int .i64 (i : Int)))]) [.row [[.p (.int .i64 k), .p (.int .i64 n), .p (.str s), .p (.sl (Ad is)), .p (.sl (Ak ns))]]] is Ce
  (rF := (.ret, tl 0 146 [(2, .p (.bool false))], [.row [[.p (.int .i64 k), .p (.int .i64 n), .p (.str s), .p (.sl (Ad is)), .p (.sl (Ak ns))]]])) (rT := (.exit 0, tl 0 146 [(1, .ptr 0 0 0)], [.row [[.p (.int .i64 k), .p (.int .i64 n), .p (.str s), .p (.sl (Ad is)), .p (.sl (Ak ns))]]]))
  (by
    intro i x hx hp
    obtain ⟨ke, ne, se, ise, nse⟩ := x
    have hi := (List.getElem?_eq_some_iff.1 hx).1
    have hm := List.mem_of_getElem? hx
    exact rMayI_yn ke ne se ise nse (by rw [A6]; exact dlt hi) hx (ih _ hm (his _ hm)) hp)
  (by
    intro i x r hx hp hr
    obtain ⟨ke, ne, se, ise, nse⟩ := x
    have hi := (List.getElem?_eq_some_iff.1 hx).1
    have hm := List.mem_of_getElem? hx
    exact rMayI_yy ke ne se ise nse (by rw [A6]; exact dlt hi) hx (ih _ hm (his _ hm)) hp (by rw [nx (by omega)]; exact hr))
  (rMayI_n (by rw [A6]; exact dlt_n))
 have l1 := Gq (lp := lp) (k := 0) (L := Ae H2 1) (fun i => tl 0 146 [(1, .ptr 0 0 0), (4, .p (.int .i64 (i : Int)))]) [.row [[.p (.int .i64 k), .p (.int .i64 n), .p (.str s), .p (.sl (Ad is)), .p (.sl (Ak ns))]]] ns B3
  (rF := (.ret, tl 0 146 [(2, .p (.bool false))], [.row [[.p (.int .i64 k), .p (.int .i64 n), .p (.str s), .p (.sl (Ad is)), .p (.sl (Ak ns))]]])) (rT := (.exit 2, tl 0 146 [(1, .ptr 0 0 0)], [.row [[.p (.int .i64 k), .p (.int .i64 n), .p (.str s), .p (.sl (Ad is)), .p (.sl (Ak ns))]]]))
  (by
    intro i x hx hp
    obtain ⟨hi, rfl⟩ := List.getElem?_eq_some_iff.1 hx
    have e : ns.getD i [] = ns[i] := by rw [List.getD, List.getElem?_eq_getElem hi]; rfl
    exact rMayN_yn (by rw [Bl]; exact dlt hi) hi (rName _ (by rw [e]; have := hns _ (List.getElem_mem hi); omega)) (by rw [e]; exact hp))
  (by
    intro i x r hx hp hr
    obtain ⟨hi, rfl⟩ := List.getElem?_eq_some_iff.1 hx
    have e : ns.getD i [] = ns[i] := by rw [List.getD, List.getElem?_eq_getElem hi]; rfl
    exact rMayN_yy (by rw [Bl]; exact dlt hi) hi (rName _ (by rw [e]; have := hns _ (List.getElem_mem hi); omega)) (by rw [e]; exact hp) (by rw [nx (by omega)]; exact hr))
  (rMayN_n (by rw [Bl]; exact dlt_n))
 rw [← N7] at l0
 have h := @rMay0 k n s is ns (fun h => by rw [h] at l0; exact l0) (fun _ h => by rw [h] at l1; exact l1) (fun _ _ _ _ _ _ _ _ _ _ _ _ => rTwice (by omega)) (fun _ h => by rw [h] at l1; exact l1) (fun h => by rw [h] at l0; exact l0)
 exact ifE h Ye
theorem vCon {is : List Val} (hl : is.length ≤ 140737488355328) (hr : ∀ v ∈ is, Runs lp 52 [Es v] [] (.p (.bool (Ce v)), [])) :
  Runs lp 71 [.p (.sl (Ad is)), .fn (.func 72) [] []] [] (.p (.bool (!(B7 is))), []) := by
 have h1 : ∀ k n s es ns, Val.mk k n s es ns ∈ is → Runs lp 72 [.agg [.p (.int .i64 k), .p (.int .i64 n), .p (.str s), .p (.sl (Ad es)), .p (.sl (Ak ns))]] [] (.p (.bool (!(Ce (Val.mk k n s es ns)))), []) :=
  fun k n s es ns hm => vMay1 (hr _ hm)
 have l := Ip (lp := lp) (k := 0) (L := Ae Ox 0)
  (fun i (_ : Nat) => tl 0 19 [(0, .p (.sl (Ad is))), (1, .fn (.func 72) [] []), (7, .p (.int .i64 ((List.length (Ad is) : Nat) : Int))), (8, .p (.int .i64 (i : Int)))]) (fun _ _ => []) is
  (fun i x => if Ce x = true then .inr (i + 1) else .inl (.ret, tl 0 19 [(4, .p (.int .i64 (i : Int)))], [])) (fun _ => (.exit 0, tl 0 19 [], [])) (fun i j => i = j)
  (by
    rintro i _ x hx rfl
    obtain ⟨ke, ne, se, ise, nse⟩ := x
    have hi := (List.getElem?_eq_some_iff.1 hx).1
    have hm := List.mem_of_getElem? hx
    cases hp : Ce (.mk ke ne se ise nse) with
    | true =>
     simp only [if_true]
     refine ⟨fun r h => (by cases h), fun s' h => ?_⟩
     cases h
     exact ⟨rfl, fun r hr => vIdxR_yy ke ne se ise nse (by rw [A6]; exact dlt hi) hx (h1 _ _ _ _ _ hm) hp (by rw [nx (by omega)]; exact hr)⟩
    | false =>
     simp only [Bool.false_eq_true, if_false]
     refine ⟨fun r h => ?_, fun s' h => (by cases h)⟩
     cases h
     exact vIdxR_yn ke ne se ise nse (by rw [A6]; exact dlt hi) hx (h1 _ _ _ _ _ hm) hp)
  (by
    rintro _ rfl
    exact vIdxR_n (by rw [A6]; exact dlt_n)) 0 rfl
 have e : ∀ (l : List Val) (j : Nat), ∃ m : Nat, Gp (fun (i : Nat) x => if Ce x = true then (.inr (i + 1) : (Dj × List LV × List LObj) ⊕ Nat) else .inl (.ret, tl 0 19 [(4, .p (.int .i64 (i : Int)))], [])) (fun _ => (.exit 0, tl 0 19 [], [])) j l =
   if B7 l = true then (.exit 0, tl 0 19 [], []) else (.ret, tl 0 19 [(4, .p (.int .i64 (m : Int)))], []) := by
  intro l
  induction l with
  | nil => intro j; exact ⟨0, rfl⟩
  | cons x r ih =>
   intro j
   simp only [Gp, B7]
   by_cases hp : Ce x = true
   ·obtain ⟨m, hm⟩ := ih (j + 1)
    refine ⟨m, ?_⟩
    simp only [hp, if_true, Bool.true_and]
    exact hm
   ·refine ⟨j, ?_⟩
    have : Ce x = false := by simpa using hp
    simp [this]
 obtain ⟨m, hm⟩ := e is 0
 rw [hm] at l
 have hi := @vIdx0 is m (fun h => by rw [h] at l; exact l) (fun h => by rw [h] at l; exact l)
 have h := @vCon0 is m (fun h => by rw [h] at hi; exact hi) (fun h => by rw [h] at hi; exact hi)
 refine ifE h ?_
 cases B7 is
 ·simp
 ·rfl
theorem vMayT1 {n : Int} {s : List UInt8} {is : List Val} {ns : List (List UInt8)} : ((if (decide (((List.length (Ad is) : Nat) : Int) > 0)) = true then ((.p (.bool false), [])) else (if (n == 0) = true then (if (s == []) = true then (if (decide (((List.length (Ak ns) : Nat) : Int) > 0)) = true then ((.p (.bool false), [])) else (((.p (.bool (!(!(B7 is))))), []))) else ((.p (.bool false), []))) else ((.p (.bool false), []))))) = ((LV.p (PV.bool (Ce (.mk 1 n s is ns))), []) : LV × List LObj) := by
 have e0 : ∀ n : Nat, decide ((n : Int) > 0) = !decide (n = 0) := fun n => by by_cases h : n = 0 <;> simp [h]; omega
 have e1 : ∀ n : Nat, ((n : Int) == 0) = decide (n = 0) := fun n => by by_cases h : n = 0 <;> simp [h]
 have e2 : ∀ n m : Nat, ((n : Int) == (m : Int)) = decide (n = m) := fun n m => by by_cases h : n = m <;> simp [h]; omega
 simp only [A6, Bl, e0, e1, e2]
 have hb2 : ns.all B3 = false → ns ≠ [] := by intro h e; subst e; simp at h
 rcases Bool.eq_false_or_eq_true (ns.all B3) with hb | hb
 all_goals rcases Bool.eq_false_or_eq_true (B7 is) with hc | hc
 all_goals rcases Bool.eq_false_or_eq_true (Cl ns) with hd | hd
 all_goals simp [Ce, Ec, Ci, -List.all_eq_true, -List.all_eq_false, *]
 all_goals (try (repeat' split))
 all_goals (try simp [*])
 all_goals (try (intros; exact hb2 hb))
 all_goals (try (intros; intro h; subst h; exact hb2 hb rfl))
 all_goals (try omega)
theorem vMayT2 {n : Int} {s : List UInt8} {is : List Val} {ns : List (List UInt8)} : ((if (decide (((List.length (Ad is) : Nat) : Int) > 0)) = true then ((.p (.bool false), [])) else (if (n == 0) = true then (if (s == []) = true then (if (decide (((List.length (Ak ns) : Nat) : Int) > 0)) = true then ((.p (.bool false), [])) else (((.p (.bool (!(!(B7 is))))), []))) else ((.p (.bool false), []))) else (if (s == []) = true then (if (n == 1) = true then (if (decide (((List.length (Ak ns) : Nat) : Int) > 0)) = true then ((.p (.bool false), [])) else (((.p (.bool (!(!(B7 is))))), []))) else ((.p (.bool false), []))) else ((.p (.bool false), [])))))) = ((LV.p (PV.bool (Ce (.mk 2 n s is ns))), []) : LV × List LObj) := by
 have e0 : ∀ n : Nat, decide ((n : Int) > 0) = !decide (n = 0) := fun n => by by_cases h : n = 0 <;> simp [h]; omega
 have e1 : ∀ n : Nat, ((n : Int) == 0) = decide (n = 0) := fun n => by by_cases h : n = 0 <;> simp [h]
 have e2 : ∀ n m : Nat, ((n : Int) == (m : Int)) = decide (n = m) := fun n m => by by_cases h : n = m <;> simp [h]; omega
 simp only [A6, Bl, e0, e1, e2]
 have hb2 : ns.all B3 = false → ns ≠ [] := by intro h e; subst e; simp at h
 rcases Bool.eq_false_or_eq_true (ns.all B3) with hb | hb
 all_goals rcases Bool.eq_false_or_eq_true (B7 is) with hc | hc
 all_goals rcases Bool.eq_false_or_eq_true (Cl ns) with hd | hd
 all_goals simp [Ce, Ec, Ci, -List.all_eq_true, -List.all_eq_false, *]
 all_goals (try (repeat' split))
 all_goals (try simp [*])
 all_goals (try (intros; exact hb2 hb))
 all_goals (try (intros; intro h; subst h; exact hb2 hb rfl))
 all_goals (try omega)
theorem vMayT3 {n : Int} {s : List UInt8} {is : List Val} {ns : List (List UInt8)} : ((if (decide (((List.length (Ad is) : Nat) : Int) > 0)) = true then ((.p (.bool false), [])) else (if (n == 0) = true then (if (s == []) = true then (if (decide (((List.length (Ak ns) : Nat) : Int) > 0)) = true then ((.p (.bool false), [])) else (((.p (.bool (!(!(B7 is))))), []))) else ((.p (.bool false), []))) else (if (s == []) = true then (if (decide (((List.length (Ak ns) : Nat) : Int) > 0)) = true then ((.p (.bool false), [])) else (((.p (.bool (!(!(B7 is))))), []))) else ((.p (.bool false), [])))))) = ((LV.p (PV.bool (Ce (.mk 3 n s is ns))), []) : LV × List LObj) := by
 have e0 : ∀ n : Nat, decide ((n : Int) > 0) = !decide (n = 0) := fun n => by by_cases h : n = 0 <;> simp [h]; omega
 have e1 : ∀ n : Nat, ((n : Int) == 0) = decide (n = 0) := fun n => by by_cases h : n = 0 <;> simp [h]
 have e2 : ∀ n m : Nat, ((n : Int) == (m : Int)) = decide (n = m) := fun n m => by by_cases h : n = m <;> simp [h]; omega
 simp only [A6, Bl, e0, e1, e2]
 have hb2 : ns.all B3 = false → ns ≠ [] := by intro h e; subst e; simp at h
 rcases Bool.eq_false_or_eq_true (ns.all B3) with hb | hb
 all_goals rcases Bool.eq_false_or_eq_true (B7 is) with hc | hc
 all_goals rcases Bool.eq_false_or_eq_true (Cl ns) with hd | hd
 all_goals simp [Ce, Ec, Ci, -List.all_eq_true, -List.all_eq_false, *]
 all_goals (try (repeat' split))
 all_goals (try simp [*])
 all_goals (try (intros; exact hb2 hb))
 all_goals (try (intros; intro h; subst h; exact hb2 hb rfl))
 all_goals (try omega)
theorem vMayT4 {n : Int} {s : List UInt8} {is : List Val} {ns : List (List UInt8)} : ((if (decide (((List.length (Ad is) : Nat) : Int) > 0)) = true then ((.p (.bool false), [])) else (if (n == 0) = true then (if (s == []) = true then (if (decide (((List.length (Ak ns) : Nat) : Int) > 0)) = true then ((.p (.bool false), [])) else (((.p (.bool (!(!(B7 is))))), []))) else (if (decide (((List.length (Ak ns) : Nat) : Int) > 0)) = true then ((.p (.bool false), [])) else (((.p (.bool (!(!(B7 is))))), [])))) else ((.p (.bool false), []))))) = ((LV.p (PV.bool (Ce (.mk 4 n s is ns))), []) : LV × List LObj) := by
 have e0 : ∀ n : Nat, decide ((n : Int) > 0) = !decide (n = 0) := fun n => by by_cases h : n = 0 <;> simp [h]; omega
 have e1 : ∀ n : Nat, ((n : Int) == 0) = decide (n = 0) := fun n => by by_cases h : n = 0 <;> simp [h]
 have e2 : ∀ n m : Nat, ((n : Int) == (m : Int)) = decide (n = m) := fun n m => by by_cases h : n = m <;> simp [h]; omega
 simp only [A6, Bl, e0, e1, e2]
 have hb2 : ns.all B3 = false → ns ≠ [] := by intro h e; subst e; simp at h
 rcases Bool.eq_false_or_eq_true (ns.all B3) with hb | hb
 all_goals rcases Bool.eq_false_or_eq_true (B7 is) with hc | hc
 all_goals rcases Bool.eq_false_or_eq_true (Cl ns) with hd | hd
 all_goals simp [Ce, Ec, Ci, -List.all_eq_true, -List.all_eq_false, *]
 all_goals (try (repeat' split))
 all_goals (try simp [*])
 all_goals (try (intros; exact hb2 hb))
 all_goals (try (intros; intro h; subst h; exact hb2 hb rfl))
 all_goals (try omega)
theorem vMayT5 {n : Int} {s : List UInt8} {is : List Val} {ns : List (List UInt8)} : ((if (decide (((List.length (Ad is) : Nat) : Int) > 0)) = true then ((.p (.bool false), [])) else (if (n == 0) = true then (if (s == []) = true then (if (decide (((List.length (Ak ns) : Nat) : Int) > 0)) = true then ((.p (.bool false), [])) else (((.p (.bool (!(!(B7 is))))), []))) else (if (decide (((List.length (Ak ns) : Nat) : Int) > 0)) = true then ((.p (.bool false), [])) else (((.p (.bool (!(!(B7 is))))), [])))) else ((.p (.bool false), []))))) = ((LV.p (PV.bool (Ce (.mk 5 n s is ns))), []) : LV × List LObj) := by
 have e0 : ∀ n : Nat, decide ((n : Int) > 0) = !decide (n = 0) := fun n => by by_cases h : n = 0 <;> simp [h]; omega
 have e1 : ∀ n : Nat, ((n : Int) == 0) = decide (n = 0) := fun n => by by_cases h : n = 0 <;> simp [h]
 have e2 : ∀ n m : Nat, ((n : Int) == (m : Int)) = decide (n = m) := fun n m => by by_cases h : n = m <;> simp [h]; omega
 simp only [A6, Bl, e0, e1, e2]
 have hb2 : ns.all B3 = false → ns ≠ [] := by intro h e; subst e; simp at h
 rcases Bool.eq_false_or_eq_true (ns.all B3) with hb | hb
 all_goals rcases Bool.eq_false_or_eq_true (B7 is) with hc | hc
 all_goals rcases Bool.eq_false_or_eq_true (Cl ns) with hd | hd
 all_goals simp [Ce, Ec, Ci, -List.all_eq_true, -List.all_eq_false, *]
 all_goals (try (repeat' split))
 all_goals (try simp [*])
 all_goals (try (intros; exact hb2 hb))
 all_goals (try (intros; intro h; subst h; exact hb2 hb rfl))
 all_goals (try omega)
theorem vMayT6 {n : Int} {s : List UInt8} {is : List Val} {ns : List (List UInt8)} : ((if (decide (((List.length (Ad is) : Nat) : Int) > 0)) = true then (if (n == 0) = true then (if (s == []) = true then (if (decide (((List.length (Ak ns) : Nat) : Int) > 0)) = true then ((.p (.bool false), [])) else (((.p (.bool (!(!(B7 is))))), []))) else ((.p (.bool false), []))) else ((.p (.bool false), []))) else (if (n == 0) = true then (if (s == []) = true then (if (decide (((List.length (Ak ns) : Nat) : Int) > 0)) = true then ((.p (.bool false), [])) else (((.p (.bool (!(!(B7 is))))), []))) else ((.p (.bool false), []))) else ((.p (.bool false), []))))) = ((LV.p (PV.bool (Ce (.mk 6 n s is ns))), []) : LV × List LObj) := by
 have e0 : ∀ n : Nat, decide ((n : Int) > 0) = !decide (n = 0) := fun n => by by_cases h : n = 0 <;> simp [h]; omega
 have e1 : ∀ n : Nat, ((n : Int) == 0) = decide (n = 0) := fun n => by by_cases h : n = 0 <;> simp [h]
 have e2 : ∀ n m : Nat, ((n : Int) == (m : Int)) = decide (n = m) := fun n m => by by_cases h : n = m <;> simp [h]; omega
 simp only [A6, Bl, e0, e1, e2]
 have hb2 : ns.all B3 = false → ns ≠ [] := by intro h e; subst e; simp at h
 rcases Bool.eq_false_or_eq_true (ns.all B3) with hb | hb
 all_goals rcases Bool.eq_false_or_eq_true (B7 is) with hc | hc
 all_goals rcases Bool.eq_false_or_eq_true (Cl ns) with hd | hd
 all_goals simp [Ce, Ec, Ci, -List.all_eq_true, -List.all_eq_false, *]
 all_goals (try (repeat' split))
 all_goals (try simp [*])
 all_goals (try (intros; exact hb2 hb))
 all_goals (try (intros; intro h; subst h; exact hb2 hb rfl))
 all_goals (try omega)
theorem vMayT7 {n : Int} {s : List UInt8} {is : List Val} {ns : List (List UInt8)} : ((if (decide (((List.length (Ad is) : Nat) : Int) > 0)) = true then (if (n == 0) = true then (if (s == []) = true then (if (((List.length (Ak ns) : Nat) : Int) == ((List.length (Ad is) : Nat) : Int)) = true then (if (Ci ns) = true then (((.p (.bool (!(!(B7 is))))), [])) else ((.p (.bool false), []))) else ((.p (.bool false), []))) else ((.p (.bool false), []))) else ((.p (.bool false), []))) else (if (n == 0) = true then (if (s == []) = true then (if (((List.length (Ak ns) : Nat) : Int) == ((List.length (Ad is) : Nat) : Int)) = true then (if (Ci ns) = true then (((.p (.bool (!(!(B7 is))))), [])) else ((.p (.bool false), []))) else ((.p (.bool false), []))) else ((.p (.bool false), []))) else ((.p (.bool false), []))))) = ((LV.p (PV.bool (Ce (.mk 7 n s is ns))), []) : LV × List LObj) := by
 have e0 : ∀ n : Nat, decide ((n : Int) > 0) = !decide (n = 0) := fun n => by by_cases h : n = 0 <;> simp [h]; omega
 have e1 : ∀ n : Nat, ((n : Int) == 0) = decide (n = 0) := fun n => by by_cases h : n = 0 <;> simp [h]
 have e2 : ∀ n m : Nat, ((n : Int) == (m : Int)) = decide (n = m) := fun n m => by by_cases h : n = m <;> simp [h]; omega
 simp only [A6, Bl, e0, e1, e2]
 have hb2 : ns.all B3 = false → ns ≠ [] := by intro h e; subst e; simp at h
 rcases Bool.eq_false_or_eq_true (ns.all B3) with hb | hb
 all_goals rcases Bool.eq_false_or_eq_true (B7 is) with hc | hc
 all_goals rcases Bool.eq_false_or_eq_true (Cl ns) with hd | hd
 all_goals simp [Ce, Ec, Ci, -List.all_eq_true, -List.all_eq_false, *]
 all_goals (try (repeat' split))
 all_goals (try simp [*])
 all_goals (try (intros; exact hb2 hb))
 all_goals (try (intros; intro h; subst h; exact hb2 hb rfl))
 all_goals (try omega)
theorem vMay : ∀ v, okV v → Runs lp 52 [Es v] [] (.p (.bool (Ce v)), []) := by
 refine Val.ind fun k n s is ns ih hok => ?_
 obtain ⟨_, _, _, hil, hnl, hns, his⟩ := Dv hok
 have hc := vCon (by omega) (fun v hv => ih v hv (his v hv))
 have hk : k = 1 ∨ k = 2 ∨ k = 3 ∨ k = 4 ∨ k = 5 ∨ k = 6 ∨ k = 7 ∨ (¬ k = 1 ∧ ¬ k = 2 ∧ ¬ k = 3 ∧ ¬ k = 4 ∧ ¬ k = 5 ∧ ¬ k = 6 ∧ ¬ k = 7) := by omega
 rcases hk with rfl | rfl | rfl | rfl | rfl | rfl | rfl | ⟨h1, h2, h3, h4, h5, h6, h7⟩
 ·exact ifE (vMay1_ (fun _ _ _ _ => hc)) vMayT1
 ·exact ifE (vMay2_ (fun _ _ _ _ => hc) (fun _ _ _ _ _ => hc)) vMayT2
 ·exact ifE (vMay3_ (fun _ _ _ _ => hc) (fun _ _ _ _ => hc)) vMayT3
 ·exact ifE (vMay4_ (fun _ _ _ _ => hc) (fun _ _ _ _ => hc)) vMayT4
 ·exact ifE (vMay5_ (fun _ _ _ _ => hc) (fun _ _ _ _ => hc)) vMayT5
 ·exact ifE (vMay6_ (fun _ _ _ _ => hc) (fun _ _ _ _ => hc)) vMayT6
 ·exact ifE (vMay7_ (fun _ _ _ _ => (vNames (by omega))) (fun _ _ _ _ _ => hc) (fun _ _ _ _ => (vNames (by omega))) (fun _ _ _ _ _ => hc)) vMayT7
 ·have e : Ce (.mk k n s is ns) = false := by simp [Ce, Ec, h1, h2, h3, h4, h5, h6, h7]
  rw [e]
  by_cases hlt : k < 1
  ·exact Us (by simpa using h6) (by simpa using h3) (by simpa using h4) (decide_eq_true hlt)
  ·exact Sh (by simpa using h6) (by simpa using h3) (by simpa using h4) (decide_eq_false hlt) (decide_eq_true (by omega))
end Go.Proofs.Ytmbjojnldbeicaa
