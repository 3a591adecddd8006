import Derived.Test.YtmbjojnldbeicaaLsVal3W
set_option linter.unusedVariables false
set_option linter.unusedSimpArgs false
set_option maxRecDepth 100000
set_option linter.unusedSimpArgs false
namespace Go.Proofs.Ytmbjojnldbeicaa
open Go Go.LS
theorem depthV_pos : ∀ v, 1 ≤ depthV v := by
  refine Val.ind fun k n s is ns ih => ?_
  rw [depthV]
  cases is with
  | nil => simp [depthL]
  | cons v r => have := ih v (List.mem_cons_self ..); rw [depthL]; omega
theorem depthL_nonneg (l : List Val) : 0 ≤ depthL l := by
  cases l with
  | nil => simp [depthL]
  | cons v r => have := depthV_pos v; rw [depthL]; omega
theorem depthL_mem : ∀ {l : List Val} {v : Val}, v ∈ l → depthV v ≤ depthL l
  | x :: r, v, h => by
    rw [depthL]
    rcases List.mem_cons.1 h with rfl | h
    · omega
    · have := depthL_mem h; omega
theorem depth_fold (l : List Val) : ∀ m, 0 ≤ m → l.foldl (fun m x => if depthV x > m then depthV x else m) m = max m (depthL l) := by
  induction l with
  | nil => intro m h; simp [depthL]; omega
  | cons v r ih =>
    intro m h
    have := depthV_pos v
    simp only [List.foldl_cons, depthL]
    rw [ih _ (by split <;> omega)]
    split <;> omega
theorem vDepth : ∀ v, okV v → depthV v ≤ 1000000 → Runs lp 53 [encV v] [] (.p (.int .i64 (depthV v)), []) := by
  refine Val.ind fun k n s is ns ih hok hd => ?_
  obtain ⟨_, _, _, hil, hnl, hns, his⟩ := okV_inv hok
  have hdl : depthL is + 1 ≤ 1000000 := by rw [depthV] at hd; exact hd
  have l := loop_each (lp := lp) (k := 0) (L := loopNo lf53 0) (fun i (m : Int) => tl 0 20 [(3, .p (.int .i64 m)), (7, .p (.sl (rowsV is))), (8, .p (.int .i64 ((List.length (rowsV is) : Nat) : Int))), (9, .p (.int .i64 (i : Int)))]) (fun _ _ => []) is
    (fun m x => if depthV x > m then depthV x else m) (fun m => (.exit 0, tl 0 20 [(3, .p (.int .i64 m))], [])) (fun _ _ => True)
    (by
      intro i m x r hx _
      obtain ⟨ke, ne, se, ise, nse⟩ := x
      have hi := (List.getElem?_eq_some_iff.1 hx).1
      have hm := List.mem_of_getElem? hx
      have hdx := depthL_mem hm
      exact ⟨trivial, fun hr => vDepR_y ke ne se ise nse (by rw [rowsV_len]; exact dlt hi) hx (ih _ hm (his _ hm) (by omega)) (by rw [nx (by omega)]; exact hr)⟩)
    (fun m _ => vDepR_n (by rw [rowsV_len]; exact dlt_n)) 0 trivial
  rw [depth_fold _ _ (Int.le_refl _)] at l
  have hm : max 0 (depthL is) = depthL is := by have := depthL_nonneg is; omega
  rw [hm] at l
  have h := @vDep0 k n s is ns l
  refine ifE h ?_
  have := depthL_nonneg is
  rw [wrap_i64 (by omega) (by omega), depthV]
theorem rDepth : ∀ v, okV v → depthV v ≤ 1000000 → Runs lp 50 [encV v] [] (.p (.int .i64 (depthV v)), []) := by
  refine Val.ind fun k n s is ns ih hok hd => ?_
  obtain ⟨_, _, _, hil, hnl, hns, his⟩ := okV_inv hok
  have hdl : depthL is + 1 ≤ 1000000 := by rw [depthV] at hd; exact hd
  have l := loop_each (lp := lp) (k := 0) (L := loopNo lf50 0) (fun i (m : Int) => tl 0 25 [(1, .ptr 0 0 0), (3, .p (.int .i64 m)), (4, .p (.int .i64 (i : Int)))]) (fun _ _ => [.row [[.p (.int .i64 k), .p (.int .i64 n), .p (.str s), .p (.sl (rowsV is)), .p (.sl (rowsN ns))]]]) is
    (fun m x => if depthV x > m then depthV x else m) (fun m => (.exit 0, tl 0 25 [(3, .p (.int .i64 m))], [.row [[.p (.int .i64 k), .p (.int .i64 n), .p (.str s), .p (.sl (rowsV is)), .p (.sl (rowsN ns))]]])) (fun _ _ => True)
    (by
      intro i m x r hx _
      obtain ⟨ke, ne, se, ise, nse⟩ := x
      have hi := (List.getElem?_eq_some_iff.1 hx).1
      have hm := List.mem_of_getElem? hx
      have hdx := depthL_mem hm
      refine ⟨trivial, fun hr => ?_⟩
      by_cases hgt : depthV (.mk ke ne se ise nse) > m
      · rw [if_pos hgt] at hr
        exact rDepR_yy ke ne se ise nse (by rw [rowsV_len]; exact dlt hi) hx (ih _ hm (his _ hm) (by omega)) (decide_eq_true hgt) (by rw [nx (by omega)]; exact hr)
      · rw [if_neg hgt] at hr
        exact rDepR_yn ke ne se ise nse (by rw [rowsV_len]; exact dlt hi) hx (ih _ hm (his _ hm) (by omega)) (decide_eq_false hgt) (by rw [nx (by omega)]; exact hr))
    (fun m _ => rDepR_n (by rw [rowsV_len]; exact dlt_n)) 0 trivial
  rw [depth_fold _ _ (Int.le_refl _)] at l
  have hm : max 0 (depthL is) = depthL is := by have := depthL_nonneg is; omega
  rw [hm] at l
  have h := @rDep0 k n s is ns l
  refine ifE h ?_
  have := depthL_nonneg is
  rw [wrap_i64 (by omega) (by omega), depthV]
theorem vCountV {j : Nat} (h : j ≤ 4611686018427387904) : Runs lp 75 [.p (.int .i64 (j : Int))] [] (.p (.int .i64 (clenN j)), []) :=
  ifE (vCount0 (count_runs h)) (by rw [bs_len, clenN])
theorem vTextV {s : List UInt8} (h : s.length ≤ 140737488355328) : Runs lp 74 [.p (.str s)] [] (.p (.int .i64 (IntKind.wrap .i64 (tlenN s))), []) :=
  ifE (vText0 (vCountV (by omega))) (by rw [tlenN, clenN])
theorem size_fold (l : List Val) : ∀ m, l.foldl (fun m x => IntKind.wrap .i64 (m + sizeW x)) (IntKind.wrap .i64 m) = IntKind.wrap .i64 (m + sizeL l) := by
  induction l with
  | nil => intro m; simp [sizeL]
  | cons v r ih =>
    intro m
    simp only [List.foldl_cons, sizeL]
    rw [show IntKind.wrap .i64 (IntKind.wrap .i64 m + sizeW v) = IntKind.wrap .i64 (m + sizeV v) by rw [sizeW, wrap_add', wrap_add], ih, Int.add_assoc]
theorem text_fold (l : List (List UInt8)) : ∀ m, l.foldl (fun m x => IntKind.wrap .i64 (m + IntKind.wrap .i64 (tlenN x))) (IntKind.wrap .i64 m) = IntKind.wrap .i64 (m + (l.map tlenN).sum) := by
  induction l with
  | nil => intro m; simp
  | cons v r ih =>
    intro m
    simp only [List.foldl_cons, List.map_cons, List.sum_cons]
    rw [wrap_add', wrap_add, ih, Int.add_assoc]
theorem mayV_inv {k n : Int} {s : List UInt8} {is : List Val} {ns : List (List UInt8)} (h : mayV (.mk k n s is ns) = true) : (∀ v ∈ is, mayV v = true) ∧ shapeB k n s is.length ns = true := by
  simp only [mayV, Bool.and_eq_true, mayL_all, List.all_eq_true] at h
  exact ⟨h.1.1, h.2⟩
theorem kinds {k n : Int} {s : List UInt8} {l : Nat} {ns : List (List UInt8)} (h : shapeB k n s l ns = true) :
    (k = 1 ∧ l = 0 ∧ ns = []) ∨ (k = 2 ∧ l = 0 ∧ ns = []) ∨ (k = 3 ∧ l = 0 ∧ ns = []) ∨ (k = 4 ∧ l = 0 ∧ ns = []) ∨ (k = 5 ∧ l = 0 ∧ ns = []) ∨ (k = 6 ∧ ns = []) ∨ (k = 7 ∧ ns.length = l) := by
  unfold shapeB at h
  by_cases h1 : k = 1
  · subst h1; simp at h; simp [h]
  by_cases h2 : k = 2
  · subst h2; simp at h; simp [h]
  by_cases h3 : k = 3
  · subst h3; simp at h; simp [h]
  by_cases h4 : k = 4
  · subst h4; simp at h; simp [h]
  by_cases h5 : k = 5
  · subst h5; simp at h; simp [h]
  by_cases h6 : k = 6
  · subst h6; simp at h; simp [h]
  by_cases h7 : k = 7
  · subst h7; simp at h; simp [h]
  simp [h1, h2, h3, h4, h5, h6, h7] at h
theorem vSize : ∀ v, okV v → mayV v = true → Runs lp 54 [encV v] [] (.p (.int .i64 (sizeW v)), []) := by
  refine Val.ind fun k n s is ns ih hok hmay => ?_
  obtain ⟨_, hn, hs, hil, hnl, hns, his⟩ := okV_inv hok
  obtain ⟨hm1, hsh⟩ := mayV_inv hmay
  have l0 := loop_each (lp := lp) (k := 0) (L := loopNo lf54 0) (fun i (m : Int) => tl 0 58 [(1, .ptr 0 0 0), (3, .p (.int .i64 m)), (34, .p (.sl (rowsV is))), (35, .p (.int .i64 ((List.length (rowsV is) : Nat) : Int))), (36, .p (.int .i64 (i : Int)))]) (fun _ _ => [.row [[.p (.int .i64 k), .p (.int .i64 n), .p (.str s), .p (.sl (rowsV is)), .p (.sl (rowsN ns))]]]) is
    (fun m x => IntKind.wrap .i64 (m + sizeW x)) (fun m => (.exit 1, tl 0 58 [(1, .ptr 0 0 0), (3, .p (.int .i64 m))], [.row [[.p (.int .i64 k), .p (.int .i64 n), .p (.str s), .p (.sl (rowsV is)), .p (.sl (rowsN ns))]]])) (fun _ _ => True)
    (by
      intro i m x r hx _
      obtain ⟨ke, ne, se, ise, nse⟩ := x
      have hi := (List.getElem?_eq_some_iff.1 hx).1
      have hm := List.mem_of_getElem? hx
      exact ⟨trivial, fun hr => vSizI_y ke ne se ise nse (by rw [rowsV_len]; exact dlt hi) hx (ih _ hm (his _ hm) (hm1 _ hm)) (by rw [nx (by omega)]; exact hr)⟩)
    (fun m _ => vSizI_n (by rw [rowsV_len]; exact dlt_n)) (IntKind.wrap .i64 (1 + clenN is.length)) trivial
  have l1 := fun m0 => loop_each (lp := lp) (k := 0) (L := loopNo lf54 1) (fun i (m : Int) => tl 0 58 [(3, .p (.int .i64 m)), (46, .p (.sl (rowsN ns))), (47, .p (.int .i64 ((List.length (rowsN ns) : Nat) : Int))), (48, .p (.int .i64 (i : Int)))]) (fun _ _ => []) ns
    (fun m x => IntKind.wrap .i64 (m + IntKind.wrap .i64 (tlenN x))) (fun m => (.exit 3, tl 0 58 [(3, .p (.int .i64 m))], [])) (fun _ _ => True)
    (by
      intro i m x r hx _
      obtain ⟨hi, rfl⟩ := List.getElem?_eq_some_iff.1 hx
      have e : ns.getD i [] = ns[i] := by rw [List.getD, List.getElem?_eq_getElem hi]; rfl
      refine ⟨trivial, fun hr => ?_⟩
      have := vSizN_y (ns := ns) (i := i) (m := m) (r := r) (by rw [rowsN_len]; exact dlt hi) hi (vTextV (by rw [e]; have := hns _ (List.getElem_mem hi); omega)) (by rw [nx (by omega), e]; exact hr)
      exact this)
    (fun m _ => vSizN_n (by rw [rowsN_len]; exact dlt_n)) m0 trivial
  rw [size_fold] at l0
  have hz : zz n = zzN n := rfl
  have h := @vSiz0 k n s is ns (IntKind.wrap .i64 (1 + clenN is.length + sizeL is)) (IntKind.wrap .i64 (1 + clenN is.length + sizeL is + (ns.map tlenN).sum))
    (fun _ _ _ => int_runs hn.1 hn.2) (fun _ _ _ _ => vTextV (by omega)) (fun _ _ _ _ _ => vTextV (by omega)) (fun _ _ _ _ _ => by rw [rowsV_len]; exact vCountV (by omega))
    (fun _ _ _ _ _ => by rw [rowsV_len] at l0 ⊢; exact l0) (fun _ _ _ _ _ => by have := l1 (IntKind.wrap .i64 (1 + clenN is.length + sizeL is)); rw [text_fold] at this; exact this)
  refine ifE h ?_
  rcases kinds hsh with ⟨rfl, h1, h2⟩ | ⟨rfl, h1, h2⟩ | ⟨rfl, h1, h2⟩ | ⟨rfl, h1, h2⟩ | ⟨rfl, h1, h2⟩ | ⟨rfl, h2⟩ | ⟨rfl, h2⟩
  · simp [sizeW, sizeV, wrap_i64]
  · simp [sizeW, sizeV, wrap_i64]
  · simp [sizeW, sizeV, bs_len, hz]
  · simp [sizeW, sizeV, wrap_add']
  · simp [sizeW, sizeV, wrap_add']
  · subst h2; simp [sizeW, sizeV]
  · simp [sizeW, sizeV]
theorem rsize_fold (is : List Val) (ns : List (List UInt8)) : ∀ (l : List (Val × List UInt8)) m, l.foldl (fun m x => IntKind.wrap .i64 (IntKind.wrap .i64 (m + sizeW x.1) + tlenN x.2)) (IntKind.wrap .i64 m) = IntKind.wrap .i64 (m + sizeL (l.map (·.1)) + ((l.map (·.2)).map tlenN).sum) := by
  intro l
  induction l with
  | nil => intro m; simp [sizeL]
  | cons v r ih =>
    intro m
    simp only [List.foldl_cons, List.map_cons, List.sum_cons, sizeL]
    rw [show IntKind.wrap .i64 (IntKind.wrap .i64 (IntKind.wrap .i64 m + sizeW v.1) + tlenN v.2) = IntKind.wrap .i64 (m + sizeV v.1 + tlenN v.2) by rw [sizeW, wrap_add', wrap_add, Int.add_assoc, wrap_add, ← Int.add_assoc], ih]
    congr 1
    omega
theorem rSize : ∀ v, okV v → mayV v = true → Runs lp 51 [encV v] [] (.p (.int .i64 (sizeW v)), []) := by
  refine Val.ind fun k n s is ns ih hok hmay => ?_
  obtain ⟨_, hn, hs, hil, hnl, hns, his⟩ := okV_inv hok
  obtain ⟨hm1, hsh⟩ := mayV_inv hmay
  have hz : zz n = zzN n := rfl
  have la := fun (hk : (k == 7) = false) m0 => loop_each (lp := lp) (k := 0) (L := loopNo lf51 0) (fun i (m : Int) => tl 0 62 [(1, .ptr 0 0 0), (3, .p (.int .i64 m)), (4, .p (.int .i64 (i : Int)))]) (fun _ _ => [.row [[.p (.int .i64 k), .p (.int .i64 n), .p (.str s), .p (.sl (rowsV is)), .p (.sl (rowsN ns))]]]) is
    (fun m x => IntKind.wrap .i64 (m + sizeW x)) (fun m => (.exit 1, tl 0 62 [(3, .p (.int .i64 m))], [.row [[.p (.int .i64 k), .p (.int .i64 n), .p (.str s), .p (.sl (rowsV is)), .p (.sl (rowsN ns))]]])) (fun _ _ => True)
    (by
      intro i m x r hx _
      obtain ⟨ke, ne, se, ise, nse⟩ := x
      have hi := (List.getElem?_eq_some_iff.1 hx).1
      have hm := List.mem_of_getElem? hx
      exact ⟨trivial, fun hr => rSizR_yn ke ne se ise nse (by rw [rowsV_len]; exact dlt hi) hx (ih _ hm (his _ hm) (hm1 _ hm)) hk (by rw [nx (by omega)]; exact hr)⟩)
    (fun m _ => rSizR_n (by rw [rowsV_len]; exact dlt_n)) m0 trivial
  have lb := fun (hk : (k == 7) = true) (hnn : ns.length = is.length) m0 => loop_each (lp := lp) (k := 0) (L := loopNo lf51 0) (fun i (m : Int) => tl 0 62 [(1, .ptr 0 0 0), (3, .p (.int .i64 m)), (4, .p (.int .i64 (i : Int)))]) (fun _ _ => [.row [[.p (.int .i64 k), .p (.int .i64 n), .p (.str s), .p (.sl (rowsV is)), .p (.sl (rowsN ns))]]]) (is.zip ns)
    (fun m x => IntKind.wrap .i64 (IntKind.wrap .i64 (m + sizeW x.1) + tlenN x.2)) (fun m => (.exit 1, tl 0 62 [(3, .p (.int .i64 m))], [.row [[.p (.int .i64 k), .p (.int .i64 n), .p (.str s), .p (.sl (rowsV is)), .p (.sl (rowsN ns))]]])) (fun _ _ => True)
    (by
      rintro i m ⟨x, y⟩ r hx _
      obtain ⟨ke, ne, se, ise, nse⟩ := x
      rw [List.getElem?_zip_eq_some] at hx
      obtain ⟨hx, hy⟩ := hx
      have hi := (List.getElem?_eq_some_iff.1 hx).1
      have hm := List.mem_of_getElem? hx
      obtain ⟨hj, rfl⟩ := List.getElem?_eq_some_iff.1 hy
      have e : ns.getD i [] = ns[i] := by rw [List.getD, List.getElem?_eq_getElem hj]; rfl
      refine ⟨trivial, fun hr => ?_⟩
      have := rSizR_yy (k := k) (n := n) (s := s) (is := is) (ns := ns) (i := i) (m := m) (r := r) ke ne se ise nse (by rw [rowsV_len]; exact dlt hi) hx (ih _ hm (his _ hm) (hm1 _ hm)) hk hj (rtext_runs (by rw [e]; simpa [reachBytes] using hns _ (List.getElem_mem hj)))
        (by
          rw [nx (by omega), bs_len, e]
          simp only [tlenN] at hr
          rw [List.length_append]
          simpa using hr)
      exact this)
    (fun m _ => by
      have e : (is.zip ns).length = is.length := by simp; omega
      rw [e]
      exact rSizR_n (by rw [rowsV_len]; exact dlt_n)) m0 trivial
  have hv : ∀ j : Nat, IntKind.wrap .i64 (1 + ((vcode j).length : Int)) = IntKind.wrap .i64 (1 + clenN j) := fun j => rfl
  have h := @rSiz0 k n s is ns (sizeW (.mk k n s is ns)) (fun _ _ => rint_runs hn.1 hn.2) (fun _ _ _ => rtext_runs (by simpa [reachBytes] using hs)) (fun _ _ _ _ => rtext_runs (by simpa [reachBytes] using hs)) (fun _ _ _ _ _ => (by rw [rowsV_len]; exact rcount_runs (by omega))) (fun _ _ _ _ _ => (by have h6 : k = 6 := eq_of_beq (by assumption); subst h6; have hns0 : ns = [] := (by rcases kinds hsh with h | h | h | h | h | h | h <;> simp_all); have := la rfl (IntKind.wrap .i64 (1 + clenN is.length)); rw [size_fold] at this; rw [rowsV_len, bs_len]; simpa [sizeW, sizeV, clenN] using this)) (fun _ _ _ _ _ _ => (by rw [rowsV_len]; exact rcount_runs (by omega))) (fun _ _ _ _ _ _ => (by have h7 : k = 7 := eq_of_beq (by assumption); subst h7; have hnn : ns.length = is.length := (by rcases kinds hsh with h | h | h | h | h | h | h <;> simp_all); have := lb rfl hnn (IntKind.wrap .i64 (1 + clenN is.length)); rw [rsize_fold is ns, List.map_fst_zip (by omega), List.map_snd_zip (by omega)] at this; rw [rowsV_len, bs_len]; simpa [sizeW, sizeV, clenN] using this)) (fun _ _ _ _ _ _ => (by have h0 : is = [] ∧ k = 1 := (by rcases kinds hsh with h | h | h | h | h | h | h <;> simp_all); obtain ⟨h0, h1⟩ := h0; subst h0; subst h1; have := la rfl 1; simpa [sizeW, sizeV, wrap_i64] using this))
  refine ifE h ?_
  rcases kinds hsh with ⟨rfl, h1, h2⟩ | ⟨rfl, h1, h2⟩ | ⟨rfl, h1, h2⟩ | ⟨rfl, h1, h2⟩ | ⟨rfl, h1, h2⟩ | ⟨rfl, h2⟩ | ⟨rfl, h2⟩
  · simp
  · simp [sizeW, sizeV, wrap_i64]
  · simp [sizeW, sizeV, bs_len, hz]
  · simp [sizeW, sizeV, bs_len, tlenN]
  · simp [sizeW, sizeV, bs_len, tlenN]
  · simp
  · simp
theorem nodes_fold (d : Int) {ρ : Type} (rd : Int → ρ) : ∀ (l : List Val) m, foldE (fun m x => if m < 65536 then (.inr (IntKind.wrap .i64 (m + nodesV d x)) : ρ ⊕ Int) else .inl (rd m)) rd m l = rd (nodesL d m l) := by
  intro l
  induction l with
  | nil => intro m; simp [foldE, nodesL]
  | cons v r ih =>
    intro m
    simp only [foldE, nodesL]
    by_cases h : m < 65536
    · simp only [h, if_true]; exact ih _
    · simp only [h, if_false]
theorem rNodes : ∀ v, okV v → ∀ d, Runs lp 31 [encV v, .p (.int .i64 d)] [] (.p (.int .i64 (nodesV d v)), []) := by
  refine Val.ind fun k n s is ns ih hok d => ?_
  obtain ⟨_, hn, hs, hil, hnl, hns, his⟩ := okV_inv hok
  have l := loop_fold (lp := lp) (k := 0) (L := loopNo lf31 0) (fun i (m : Int) => tl 0 35 [(1, .p (.int .i64 d)), (2, .ptr 0 0 0), (5, .p (.int .i64 m)), (6, .p (.int .i64 (i : Int)))]) (fun _ _ => [.row [[.p (.int .i64 k), .p (.int .i64 n), .p (.str s), .p (.sl (rowsV is)), .p (.sl (rowsN ns))]]]) is
    (fun m x => if m < 65536 then .inr (IntKind.wrap .i64 (m + nodesV (IntKind.wrap .i64 (d + 1)) x)) else .inl (.exit 0, tl 0 35 [(5, .p (.int .i64 m))], [.row [[.p (.int .i64 k), .p (.int .i64 n), .p (.str s), .p (.sl (rowsV is)), .p (.sl (rowsN ns))]]]))
    (fun m => (.exit 0, tl 0 35 [(5, .p (.int .i64 m))], [.row [[.p (.int .i64 k), .p (.int .i64 n), .p (.str s), .p (.sl (rowsV is)), .p (.sl (rowsN ns))]]])) (fun _ _ => True)
    (by
      intro i m x hx _
      obtain ⟨ke, ne, se, ise, nse⟩ := x
      have hi := (List.getElem?_eq_some_iff.1 hx).1
      have hm := List.mem_of_getElem? hx
      by_cases h : m < 65536
      · simp only [h, if_true]
        refine ⟨fun r h => (by cases h), fun s' hs' => ?_⟩
        cases hs'
        exact ⟨trivial, fun r hr => rNodR_yy ke ne se ise nse (by rw [rowsV_len]; exact dlt hi) (decide_eq_true h) hx (ih _ hm (his _ hm) _) (by rw [nx (by omega)]; exact hr)⟩
      · simp only [h, if_false]
        refine ⟨fun r hr => ?_, fun s' h => (by cases h)⟩
        cases hr
        exact rNodR_yn (by rw [rowsV_len]; exact dlt hi) (decide_eq_false h))
    (fun m _ => rNodR_n (by rw [rowsV_len]; exact dlt_n)) (IntKind.wrap .i64 (1 + (ns.length : Int))) trivial
  rw [nodes_fold (IntKind.wrap .i64 (d + 1)) (fun m => ((.exit 0, tl 0 35 [(5, .p (.int .i64 m))], [.row [[.p (.int .i64 k), .p (.int .i64 n), .p (.str s), .p (.sl (rowsV is)), .p (.sl (rowsN ns))]]]) : LOut × List LV × List LObj))] at l
  have h := @rNod0 k n s is ns d (nodesL (IntKind.wrap .i64 (d + 1)) (IntKind.wrap .i64 (1 + (ns.length : Int))) is) (fun _ => by rw [rowsN_len]; exact l)
  refine ifE h ?_
  rw [nodesV]
  by_cases hd : d > 40
  · simp [hd]
  · simp [hd]
theorem rLarge (v : Val) (hok : okV v) : Runs lp 11 [encV v] [] (.p (.bool (largeV v)), []) := by
  obtain ⟨k, n, s, is, ns⟩ := v
  exact rLarge0 (rNodes _ hok 0)
theorem nodesL_big (d : Int) : ∀ (l : List Val) m, 65536 ≤ m → nodesL d m l = m := by
  intro l m h
  cases l with
  | nil => rfl
  | cons v r => rw [nodesL, if_neg (by omega)]
theorem nodes_bounds : ∀ v, okV v → ∀ d : Int, 0 ≤ d → d ≤ 1000 → 1 ≤ nodesV d v ∧ nodesV d v ≤ 10000000000000 + 65536 * (1001 - d) ∧ (nodesV d v < 65536 → depthV v + d ≤ 41) := by
  refine Val.ind fun k n s is ns ih hok d h0 h1 => ?_
  obtain ⟨_, hn, hs, hil, hnl, hns, his⟩ := okV_inv hok
  rw [nodesV, depthV]
  by_cases hd : d > 40
  · rw [if_pos hd]; omega
  · rw [if_neg hd, wrap_i64 (by omega) (by omega), wrap_i64 (by omega) (by omega)]
    have key : ∀ l, (∀ v ∈ l, v ∈ is) → ∀ m, 1 ≤ m → m ≤ 10000000000000 + 65536 * (1001 - d) → 1 ≤ nodesL (d + 1) m l ∧ m ≤ nodesL (d + 1) m l ∧ nodesL (d + 1) m l ≤ 10000000000000 + 65536 * (1001 - d) ∧ (nodesL (d + 1) m l < 65536 → depthL l + (d + 1) ≤ 41) := by
      intro l
      induction l with
      | nil => intro _ m hm hm2; simp only [nodesL, depthL]; exact ⟨hm, by omega, by omega, fun _ => by omega⟩
      | cons v r ihr =>
        intro hl m hm hm2
        have hv := hl v (List.mem_cons_self ..)
        obtain ⟨b1, b2, b3⟩ := ih v hv (his v hv) (d + 1) (by omega) (by omega)
        rw [nodesL]
        by_cases hmm : m < 65536
        · rw [if_pos hmm, wrap_i64 (by omega) (by omega)]
          by_cases hbig : 65536 ≤ m + nodesV (d + 1) v
          · rw [nodesL_big _ _ _ hbig]
            exact ⟨by omega, by omega, by omega, fun h => by omega⟩
          · obtain ⟨c1, c2, c3, c4⟩ := ihr (fun w hw => hl w (List.mem_cons_of_mem _ hw)) (m + nodesV (d + 1) v) (by omega) (by omega)
            refine ⟨c1, by omega, by omega, fun h => ?_⟩
            have := b3 (by omega)
            have := c4 h
            rw [depthL]
            omega
        · rw [if_neg hmm]
          exact ⟨hm, by omega, by omega, fun h => by omega⟩
    obtain ⟨c1, c2, c3, c4⟩ := key is (fun v h => h) (1 + (ns.length : Int)) (by omega) (by omega)
    exact ⟨c1, c3, fun h => by have := c4 h; omega⟩
theorem small_depth {v : Val} (hok : okV v) (h : largeV v = false) : depthV v ≤ 41 := by
  simp only [largeV, decide_eq_false_iff_not] at h
  have := (nodes_bounds v hok 0 (by omega) (by omega)).2.2 (by omega)
  omega
theorem cloneN {ns : List (List UInt8)} (h : ns.length * 16 ≤ 140737488355328) : Runs lp 55 [.p (.sl (rowsN ns))] [] (.p (.sl (rowsN ns)), []) := by
  cases ns with
  | nil => exact ⟨20, by kernel_rfl⟩
  | cons x r =>
    have q : OpW [] (.append false 1 16 (.const (.tight [])) (.const (.p (.sl (rowsN (x :: r)))))) (.sl ([] ++ rowsN (x :: r)) 0 ([] ++ rowsN (x :: r)).length) [.spare 1 ([] ++ rowsN (x :: r)).length] :=
      opIs_appTE (size := 1) (bytes := 16) (E := []) (X := rowsN (x :: r)) rfl rfl (rowsN_sized _) (by simp [rowsN]) (by rw [rowsN_len]; simpa using h) (by rw [rowsN_len]; simp at h ⊢; omega) (by decide)
    exact runO_sound (N := 100) (os := [(6, oO q)]) (ps := [_]) (by kernel_rfl) ⟨q, trivial⟩
theorem vClone : ∀ v, okV v → Runs lp 34 [encV v] [] (encV v, []) := by
  refine Val.ind fun k n s is ns ih hok => ?_
  obtain ⟨_, hn, hs, hil, hnl, hns, his⟩ := okV_inv hok
  cases is with
  | nil => exact @vClo0 k n s [] ns (cloneN hnl) (fun _ => vCloF_n (is := []) (i := 0) (by rfl)) (fun h => by simp at h)
  | cons v0 r =>
    generalize hxs : v0 :: r = is at *
    have l := loop_each (lp := lp) (k := 0) (L := loopNo lf34 0) (fun i (es : List Val) => tl 0 28 [(1, .ptr 0 0 0), (2, if i = 0 then .ptr 1 0 0 else .ptr 2 0 0), (13, .p (.sl (rowsV is))), (14, .p (.int .i64 ((List.length (rowsV is) : Nat) : Int))), (15, .p (.int .i64 (i : Int)))])
      (fun i es => if i = 0 then [.row [[.p (.int .i64 k), .p (.int .i64 n), .p (.str s), .tight [], .p (.sl (rowsN ns))]], .row [[.p (.int .i64 0), .p (.int .i64 0), .p (.str []), .tight [], .tight []]]]
        else [.row [[.p (.int .i64 k), .p (.int .i64 n), .p (.str s), .sl (rowsV es) 1 (List.length (rowsV es)), .p (.sl (rowsN ns))]], .spare 5 (List.length (rowsV es)), .row [[.p (.int .i64 0), .p (.int .i64 0), .p (.str []), .tight [], .tight []]]]) is
      (fun es x => es ++ [x]) (fun es => (.exit 0, tl 0 28 [(1, .ptr 0 0 0), (2, .ptr 2 0 0)], [.row [[.p (.int .i64 k), .p (.int .i64 n), .p (.str s), .sl (rowsV es) 1 (List.length (rowsV es)), .p (.sl (rowsN ns))]], .spare 5 (List.length (rowsV es)), .row [[.p (.int .i64 0), .p (.int .i64 0), .p (.str []), .tight [], .tight []]]])) (fun i es => es = is.take i)
      (by
        rintro i es x r hx rfl
        obtain ⟨ke, ne, se, ise, nse⟩ := x
        have hi := (List.getElem?_eq_some_iff.1 hx).1
        have hm := List.mem_of_getElem? hx
        refine ⟨by rw [List.take_add_one, hx]; rfl, fun hr => ?_⟩
        rw [if_neg (by omega), if_neg (by omega)] at hr
        by_cases h0 : i = 0
        · subst h0
          rw [if_pos rfl, if_pos rfl]
          exact vCloF_y ke ne se ise nse (by rw [rowsV_len]; exact dlt hi) hx (ih _ hm (his _ hm)) (by rw [nx (by omega)]; exact hr)
        · rw [if_neg h0, if_neg h0]
          exact vCloR_y ke ne se ise nse (by rw [rowsV_len]; exact dlt hi) hx (ih _ hm (his _ hm)) (by rw [List.length_take]; omega) (by rw [nx (by omega)]; exact hr))
      (by
        rintro es rfl
        have hne0 : ¬ is.length = 0 := by rw [← hxs]; simp
        rw [if_neg hne0, if_neg hne0]
        exact vCloR_n (by rw [rowsV_len]; exact dlt_n)) [] rfl
    have hf : ∀ (l a : List Val), l.foldl (fun es x => es ++ [x]) a = a ++ l := by
      intro l
      induction l with
      | nil => intro a; simp
      | cons x r ihr => intro a; simp only [List.foldl_cons, ihr]; simp
    rw [hf, List.nil_append, if_pos rfl, if_pos rfl] at l
    have hne : decide (is = []) = false := by rw [← hxs]; simp
    have h := @vClo0 k n s is ns (cloneN hnl) (fun h => by rw [hne] at h; cases h) (fun _ => l)
    refine ifE h ?_
    rw [hne]; rfl
end Go.Proofs.Ytmbjojnldbeicaa
