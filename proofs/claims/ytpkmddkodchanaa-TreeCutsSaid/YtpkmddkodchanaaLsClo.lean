import Derived.Test.YtpkmddkodchanaaLsCloW
set_option linter.unusedVariables false
set_option linter.unusedSimpArgs false
set_option maxRecDepth 100000
namespace Go.Proofs.Ytpkmddkodchanaa
open Go Go.LS
theorem cloneT : Runs lp 46 [.p (.sl (rowsN []))] [] (.tight [], []) := ⟨20, by kernel_rfl⟩
theorem cloneR {ns : List (List UInt8)} (h : ns.length * 16 ≤ 140737488355328) (hne : ns ≠ []) : Runs lp 46 [.p (.sl (rowsN ns))] [] (.rs 0 0 (List.length ns), [.row (rowS (rowsN ns))]) := by
  cases ns with
  | nil => exact absurd rfl hne
  | cons x r =>
    have q : OpW [] (.appendR 1 16 (.const (.tight [])) (.const (.p (.sl (rowsN (x :: r)))))) (.rs 0 0 (List.length (rowsN (x :: r)))) [.row (rowS (rowsN (x :: r)))] :=
      opIs_appRT (size := 1) (bytes := 16) (X := rowsN (x :: r)) (st := []) (rowsN_sized _) (by simp [rowsN]) (by rw [rowsN_len]; exact h) (by rw [rowsN_len]; simp [maxLen] at h ⊢; omega) (by decide)
    rw [rowsN_len] at q
    exact runE_sound (N := 100) (os := [(6, oO q)]) (ps := [_]) (vs := [.rs 0 0 (List.length (x :: r))]) (st1 := [.row (rowS (rowsN (x :: r)))]) (vs1 := [.rs 0 0 (List.length (x :: r))]) (s1 := [.row (rowS (rowsN (x :: r)))]) (vs2 := [.rs 0 0 (List.length (x :: r))]) (st2 := [.row (rowS (rowsN (x :: r)))]) (by kernel_rfl) ⟨q, trivial⟩ rfl
      (gc_sh (sh := [.spare 1 0]) (ids := [0]) (by simp only [List.map_cons, List.map_nil, rowS_refs] <;> rfl) (by kernel_rfl) (by show [LObj.ren (fun q => List.idxOf q ([0] : List Nat)) (.row (rowS (rowsN (x :: r))))] = _; (try simp only [rowS_ren]); try rfl))
theorem vClone : ∀ v, okV v → Runs lp 29 [encV v] [] (encV v, []) := by
  refine Val.ind fun k n s is ns ih hok => ?_
  obtain ⟨_, hn, hs, hil, hnl, hns, his⟩ := okV_inv hok
  have cT : decide (ns = []) = true → Runs lp 46 [.p (.sl (rowsN ns))] [] (.tight [], []) := fun h => by have h := of_decide_eq_true h; subst h; exact cloneT
  have cR : decide (ns = []) = false → Runs lp 46 [.p (.sl (rowsN ns))] [] (.rs 0 0 (List.length ns), [.row (rowS (rowsN ns))]) := fun h => cloneR hnl (of_decide_eq_false h)
  cases is with
  | nil =>
    have h := @vClo0 k n s [] ns (fun hT => cT hT) (fun hT hI => vCtF_n (is := []) (i := 0) (by rfl)) (fun hT hI => by simp at hI) (fun hT => cR hT) (fun hT hI => vCrF_n (is := []) (i := 0) (by rfl)) (fun hT hI => by simp at hI)
    refine ifE h ?_
    by_cases hne : ns = []
    · subst hne; rfl
    · rw [decide_eq_false hne]; rfl
  | cons v0 r0 =>
    generalize hxs : v0 :: r0 = is at *
    have lT := loop_each (lp := lp) (k := 0) (L := loopNo lf29 0) (fun i (es : List Val) => tl 0 28 [(1, .ptr 0 0 0), (2, if i = 0 then .ptr 1 0 0 else .ptr 2 0 0), (13, .p (.sl (rowsV is))), (14, .p (.int .i64 ((List.length (rowsV is) : Nat) : Int))), (15, .p (.int .i64 (i : Int)))])
      (fun i es => if i = 0 then [.row [[.p (.int .i64 k), .p (.int .i64 n), .p (.str s), .tight [], .tight []]], .row [[.p (.int .i64 0), .p (.int .i64 0), .p (.str []), .tight [], .tight []]]]
        else [.row [[.p (.int .i64 k), .p (.int .i64 n), .p (.str s), .sl (rowsV es) 1 (List.length (rowsV es)), .tight []]], .spare 5 (List.length (rowsV es)), .row [[.p (.int .i64 0), .p (.int .i64 0), .p (.str []), .tight [], .tight []]]]) is
      (fun es x => es ++ [x]) (fun es => (.exit 0, tl 0 28 [(1, .ptr 0 0 0), (2, .ptr 2 0 0)], [.row [[.p (.int .i64 k), .p (.int .i64 n), .p (.str s), .sl (rowsV es) 1 (List.length (rowsV es)), .tight []]], .spare 5 (List.length (rowsV es)), .row [[.p (.int .i64 0), .p (.int .i64 0), .p (.str []), .tight [], .tight []]]])) (fun i es => es = is.take i)
      (by
        rintro i es x r hx rfl
        obtain ⟨ke, ne, se, ise, nse⟩ := x
        have hi := (List.getElem?_eq_some_iff.1 hx).1
        have hm := List.mem_of_getElem? hx
        refine ⟨by rw [List.take_add_one, hx]; rfl, fun hr => ?_⟩
        rw [if_neg (by omega), if_neg (by omega)] at hr
        by_cases h0 : i = 0
        · subst h0
          rw [if_pos rfl, if_pos rfl]
          exact vCtF_y ke ne se ise nse (by rw [rowsV_len]; exact dlt hi) hx (ih _ hm (his _ hm)) (by rw [nx (by omega)]; exact hr)
        · rw [if_neg h0, if_neg h0]
          exact vCtR_y ke ne se ise nse (by rw [rowsV_len]; exact dlt hi) hx (ih _ hm (his _ hm)) (by rw [List.length_take]; omega) (by rw [nx (by omega)]; exact hr))
      (by
        rintro es rfl
        have hne0 : ¬ is.length = 0 := by rw [← hxs]; simp
        rw [if_neg hne0, if_neg hne0]
        exact vCtR_n (by rw [rowsV_len]; exact dlt_n)) [] rfl
    have lR := loop_each (lp := lp) (k := 0) (L := loopNo lf29 0) (fun i (es : List Val) => tl 0 28 [(1, .ptr 0 0 0), (2, if i = 0 then .ptr 2 0 0 else .ptr 3 0 0), (13, .p (.sl (rowsV is))), (14, .p (.int .i64 ((List.length (rowsV is) : Nat) : Int))), (15, .p (.int .i64 (i : Int)))])
      (fun i es => if i = 0 then [.row [[.p (.int .i64 k), .p (.int .i64 n), .p (.str s), .tight [], .rs 1 0 (List.length ns)]], .row (rowS (rowsN ns)), .row [[.p (.int .i64 0), .p (.int .i64 0), .p (.str []), .tight [], .tight []]]]
        else [.row [[.p (.int .i64 k), .p (.int .i64 n), .p (.str s), .sl (rowsV es) 1 (List.length (rowsV es)), .rs 2 0 (List.length ns)]], .spare 5 (List.length (rowsV es)), .row (rowS (rowsN ns)), .row [[.p (.int .i64 0), .p (.int .i64 0), .p (.str []), .tight [], .tight []]]]) is
      (fun es x => es ++ [x]) (fun es => (.exit 0, tl 0 28 [(1, .ptr 0 0 0), (2, .ptr 3 0 0)], [.row [[.p (.int .i64 k), .p (.int .i64 n), .p (.str s), .sl (rowsV es) 1 (List.length (rowsV es)), .rs 2 0 (List.length ns)]], .spare 5 (List.length (rowsV es)), .row (rowS (rowsN ns)), .row [[.p (.int .i64 0), .p (.int .i64 0), .p (.str []), .tight [], .tight []]]])) (fun i es => es = is.take i)
      (by
        rintro i es x r hx rfl
        obtain ⟨ke, ne, se, ise, nse⟩ := x
        have hi := (List.getElem?_eq_some_iff.1 hx).1
        have hm := List.mem_of_getElem? hx
        refine ⟨by rw [List.take_add_one, hx]; rfl, fun hr => ?_⟩
        rw [if_neg (by omega), if_neg (by omega)] at hr
        by_cases h0 : i = 0
        · subst h0
          rw [if_pos rfl, if_pos rfl]
          exact vCrF_y ke ne se ise nse (by rw [rowsV_len]; exact dlt hi) hx (ih _ hm (his _ hm)) (by rw [nx (by omega)]; exact hr)
        · rw [if_neg h0, if_neg h0]
          exact vCrR_y ke ne se ise nse (by rw [rowsV_len]; exact dlt hi) hx (ih _ hm (his _ hm)) (by rw [List.length_take]; omega) (by rw [nx (by omega)]; exact hr))
      (by
        rintro es rfl
        have hne0 : ¬ is.length = 0 := by rw [← hxs]; simp
        rw [if_neg hne0, if_neg hne0]
        exact vCrR_n (by rw [rowsV_len]; exact dlt_n)) [] rfl
    have hf : ∀ (l a : List Val), l.foldl (fun es x => es ++ [x]) a = a ++ l := by
      intro l
      induction l with
      | nil => intro a; simp
      | cons x r ihr => intro a; simp only [List.foldl_cons, ihr]; simp
    rw [hf, List.nil_append, if_pos rfl, if_pos rfl] at lT
    rw [hf, List.nil_append, if_pos rfl, if_pos rfl] at lR
    have hne : decide (is = []) = false := by rw [← hxs]; simp
    have no : ∀ {x : Prop}, decide (is = []) = true → x := fun h => by rw [hne] at h; cases h
    have h := @vClo0 k n s is ns (fun hT => cT hT) (fun hT hI => no hI) (fun hT hI => lT) (fun hT => cR hT) (fun hT hI => no hI) (fun hT hI => lR)
    refine ifE h ?_
    rw [hne]
    by_cases hnn : ns = []
    · subst hnn; rfl
    · rw [decide_eq_false hnn]; rfl
end Go.Proofs.Ytpkmddkodchanaa
