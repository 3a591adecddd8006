import Derived.Test.YtegboccilfofmaaLsVal3W
set_option linter.unusedVariables false
set_option maxRecDepth 100000
set_option linter.unusedSimpArgs false
namespace Go.Proofs.Ytegboccilfofmaa
open Go Go.LS
theorem vCountV {j : Nat} (h : j ≤ 4611686018427387904) : Runs lp 85 [.p (.int .i64 (j : Int))] [] (.p (.int .i64 (clenN j)), []) :=
  ifE (vCount0 (count_runs h)) (by rw [bs_len, clenN])
theorem vTextV {s : List UInt8} (h : s.length ≤ 140737488355328) : Runs lp 84 [.p (.str s)] [] (.p (.int .i64 (IntKind.wrap .i64 (tlenN s))), []) :=
  ifE (vText0 (vCountV (by omega))) (by rw [tlenN, clenN])
theorem size_fold (l : List Val) : ∀ m, l.foldl (fun m x => IntKind.wrap .i64 (m + sizeW x)) (IntKind.wrap .i64 m) = IntKind.wrap .i64 (m + sizeL l) := by
  induction l with
  | nil => intro m; simp [sizeL]
  | cons v r ih =>
    intro m
    simp only [List.foldl_cons, sizeL]
    rw [show IntKind.wrap .i64 (IntKind.wrap .i64 m + sizeW v) = IntKind.wrap .i64 (m + sizeV v) by rw [sizeW, wrap_add', wrap_add], ih, Int.add_assoc]
theorem text_fold (l : List (List UInt8)) : ∀ m, l.foldl (fun m x => IntKind.wrap .i64 (m + IntKind.wrap .i64 (tlenN x))) (IntKind.wrap .i64 m) = IntKind.wrap .i64 (m + (l.map tlenN).sum) := by
  induction l with
  | nil => intro m; simp
  | cons v r ih =>
    intro m
    simp only [List.foldl_cons, List.map_cons, List.sum_cons]
    rw [wrap_add', wrap_add, ih, Int.add_assoc]
theorem mayV_inv {k n : Int} {s : List UInt8} {is : List Val} {ns : List (List UInt8)} (h : mayV (.mk k n s is ns) = true) : (∀ v ∈ is, mayV v = true) ∧ shapeB k n s is.length ns = true := by
  simp only [mayV, Bool.and_eq_true, mayL_all, List.all_eq_true] at h
  exact ⟨h.1.1, h.2⟩
theorem kinds {k n : Int} {s : List UInt8} {l : Nat} {ns : List (List UInt8)} (h : shapeB k n s l ns = true) :
    (k = 1 ∧ l = 0 ∧ ns = []) ∨ (k = 2 ∧ l = 0 ∧ ns = []) ∨ (k = 3 ∧ l = 0 ∧ ns = []) ∨ (k = 4 ∧ l = 0 ∧ ns = []) ∨ (k = 5 ∧ l = 0 ∧ ns = []) ∨ (k = 6 ∧ ns = []) ∨ (k = 7 ∧ ns.length = l) := by
  unfold shapeB at h
  by_cases h1 : k = 1
  · subst h1; simp at h; simp [h]
  by_cases h2 : k = 2
  · subst h2; simp at h; simp [h]
  by_cases h3 : k = 3
  · subst h3; simp at h; simp [h]
  by_cases h4 : k = 4
  · subst h4; simp at h; simp [h]
  by_cases h5 : k = 5
  · subst h5; simp at h; simp [h]
  by_cases h6 : k = 6
  · subst h6; simp at h; simp [h]
  by_cases h7 : k = 7
  · subst h7; simp at h; simp [h]
  simp [h1, h2, h3, h4, h5, h6, h7] at h
theorem vSize : ∀ v, okV v → mayV v = true → Runs lp 59 [encV v] [] (.p (.int .i64 (sizeW v)), []) := by
  refine Val.ind fun k n s is ns ih hok hmay => ?_
  obtain ⟨_, hn, hs, hil, hnl, hns, his⟩ := okV_inv hok
  obtain ⟨hm1, hsh⟩ := mayV_inv hmay
  have l0 := loop_each (lp := lp) (k := 0) (L := loopNo lf59 0) (fun i (m : Int) => tl 0 58 [(1, .ptr 0 0 0), (3, .p (.int .i64 m)), (34, .p (.sl (rowsV is))), (35, .p (.int .i64 ((List.length (rowsV is) : Nat) : Int))), (36, .p (.int .i64 (i : Int)))]) (fun _ _ => [.row [[.p (.int .i64 k), .p (.int .i64 n), .p (.str s), .p (.sl (rowsV is)), .p (.sl (rowsN ns))]]]) is
    (fun m x => IntKind.wrap .i64 (m + sizeW x)) (fun m => (.exit 1, tl 0 58 [(1, .ptr 0 0 0), (3, .p (.int .i64 m))], [.row [[.p (.int .i64 k), .p (.int .i64 n), .p (.str s), .p (.sl (rowsV is)), .p (.sl (rowsN ns))]]])) (fun _ _ => True)
    (by
      intro i m x r hx _
      obtain ⟨ke, ne, se, ise, nse⟩ := x
      have hi := (List.getElem?_eq_some_iff.1 hx).1
      have hm := List.mem_of_getElem? hx
      exact ⟨trivial, fun hr => vSizI_y ke ne se ise nse (by rw [rowsV_len]; exact dlt hi) hx (ih _ hm (his _ hm) (hm1 _ hm)) (by rw [nx (by omega)]; exact hr)⟩)
    (fun m _ => vSizI_n (by rw [rowsV_len]; exact dlt_n)) (IntKind.wrap .i64 (1 + clenN is.length)) trivial
  have l1 := fun m0 => loop_each (lp := lp) (k := 0) (L := loopNo lf59 1) (fun i (m : Int) => tl 0 58 [(3, .p (.int .i64 m)), (46, .p (.sl (rowsN ns))), (47, .p (.int .i64 ((List.length (rowsN ns) : Nat) : Int))), (48, .p (.int .i64 (i : Int)))]) (fun _ _ => []) ns
    (fun m x => IntKind.wrap .i64 (m + IntKind.wrap .i64 (tlenN x))) (fun m => (.exit 3, tl 0 58 [(3, .p (.int .i64 m))], [])) (fun _ _ => True)
    (by
      intro i m x r hx _
      obtain ⟨hi, rfl⟩ := List.getElem?_eq_some_iff.1 hx
      have e : ns.getD i [] = ns[i] := by rw [List.getD, List.getElem?_eq_getElem hi]; rfl
      refine ⟨trivial, fun hr => ?_⟩
      have := vSizN_y (ns := ns) (i := i) (m := m) (r := r) (by rw [rowsN_len]; exact dlt hi) hi (vTextV (by rw [e]; have := hns _ (List.getElem_mem hi); omega)) (by rw [nx (by omega), e]; exact hr)
      exact this)
    (fun m _ => vSizN_n (by rw [rowsN_len]; exact dlt_n)) m0 trivial
  rw [size_fold] at l0
  have hz : zz n = zzN n := rfl
  have h := @vSiz0 k n s is ns (IntKind.wrap .i64 (1 + clenN is.length + sizeL is)) (IntKind.wrap .i64 (1 + clenN is.length + sizeL is + (ns.map tlenN).sum))
    (fun _ _ _ => int_runs hn.1 hn.2) (fun _ _ _ _ => vTextV (by omega)) (fun _ _ _ _ _ => vTextV (by omega)) (fun _ _ _ _ _ => by rw [rowsV_len]; exact vCountV (by omega))
    (fun _ _ _ _ _ => by rw [rowsV_len] at l0 ⊢; exact l0) (fun _ _ _ _ _ => by have := l1 (IntKind.wrap .i64 (1 + clenN is.length + sizeL is)); rw [text_fold] at this; exact this)
  refine ifE h ?_
  rcases kinds hsh with ⟨rfl, h1, h2⟩ | ⟨rfl, h1, h2⟩ | ⟨rfl, h1, h2⟩ | ⟨rfl, h1, h2⟩ | ⟨rfl, h1, h2⟩ | ⟨rfl, h2⟩ | ⟨rfl, h2⟩
  · simp [sizeW, sizeV, wrap_i64]
  · simp [sizeW, sizeV, wrap_i64]
  · simp [sizeW, sizeV, bs_len, hz]
  · simp [sizeW, sizeV, wrap_add']
  · simp [sizeW, sizeV, wrap_add']
  · subst h2; simp [sizeW, sizeV]
  · simp [sizeW, sizeV]
theorem rsize_fold (is : List Val) (ns : List (List UInt8)) : ∀ (l : List (Val × List UInt8)) m, l.foldl (fun m x => IntKind.wrap .i64 (IntKind.wrap .i64 (m + sizeW x.1) + tlenN x.2)) (IntKind.wrap .i64 m) = IntKind.wrap .i64 (m + sizeL (l.map (·.1)) + ((l.map (·.2)).map tlenN).sum) := by
  intro l
  induction l with
  | nil => intro m; simp [sizeL]
  | cons v r ih =>
    intro m
    simp only [List.foldl_cons, List.map_cons, List.sum_cons, sizeL]
    rw [show IntKind.wrap .i64 (IntKind.wrap .i64 (IntKind.wrap .i64 m + sizeW v.1) + tlenN v.2) = IntKind.wrap .i64 (m + sizeV v.1 + tlenN v.2) by rw [sizeW, wrap_add', wrap_add, Int.add_assoc, wrap_add, ← Int.add_assoc], ih]
    congr 1
    omega
theorem rSize : ∀ v, okV v → mayV v = true → Runs lp 53 [encV v] [] (.p (.int .i64 (sizeW v)), []) := by
  refine Val.ind fun k n s is ns ih hok hmay => ?_
  obtain ⟨_, hn, hs, hil, hnl, hns, his⟩ := okV_inv hok
  obtain ⟨hm1, hsh⟩ := mayV_inv hmay
  have hz : zz n = zzN n := rfl
  have la := fun (hk : (k == 7) = false) m0 => loop_each (lp := lp) (k := 0) (L := loopNo lf53 0) (fun i (m : Int) => tl 0 62 [(1, .ptr 0 0 0), (3, .p (.int .i64 m)), (4, .p (.int .i64 (i : Int)))]) (fun _ _ => [.row [[.p (.int .i64 k), .p (.int .i64 n), .p (.str s), .p (.sl (rowsV is)), .p (.sl (rowsN ns))]]]) is
    (fun m x => IntKind.wrap .i64 (m + sizeW x)) (fun m => (.exit 1, tl 0 62 [(3, .p (.int .i64 m))], [.row [[.p (.int .i64 k), .p (.int .i64 n), .p (.str s), .p (.sl (rowsV is)), .p (.sl (rowsN ns))]]])) (fun _ _ => True)
    (by
      intro i m x r hx _
      obtain ⟨ke, ne, se, ise, nse⟩ := x
      have hi := (List.getElem?_eq_some_iff.1 hx).1
      have hm := List.mem_of_getElem? hx
      exact ⟨trivial, fun hr => rSizR_yn ke ne se ise nse (by rw [rowsV_len]; exact dlt hi) hx (ih _ hm (his _ hm) (hm1 _ hm)) hk (by rw [nx (by omega)]; exact hr)⟩)
    (fun m _ => rSizR_n (by rw [rowsV_len]; exact dlt_n)) m0 trivial
  have lb := fun (hk : (k == 7) = true) (hnn : ns.length = is.length) m0 => loop_each (lp := lp) (k := 0) (L := loopNo lf53 0) (fun i (m : Int) => tl 0 62 [(1, .ptr 0 0 0), (3, .p (.int .i64 m)), (4, .p (.int .i64 (i : Int)))]) (fun _ _ => [.row [[.p (.int .i64 k), .p (.int .i64 n), .p (.str s), .p (.sl (rowsV is)), .p (.sl (rowsN ns))]]]) (is.zip ns)
    (fun m x => IntKind.wrap .i64 (IntKind.wrap .i64 (m + sizeW x.1) + tlenN x.2)) (fun m => (.exit 1, tl 0 62 [(3, .p (.int .i64 m))], [.row [[.p (.int .i64 k), .p (.int .i64 n), .p (.str s), .p (.sl (rowsV is)), .p (.sl (rowsN ns))]]])) (fun _ _ => True)
    (by
      rintro i m ⟨x, y⟩ r hx _
      obtain ⟨ke, ne, se, ise, nse⟩ := x
      rw [List.getElem?_zip_eq_some] at hx
      obtain ⟨hx, hy⟩ := hx
      have hi := (List.getElem?_eq_some_iff.1 hx).1
      have hm := List.mem_of_getElem? hx
      obtain ⟨hj, rfl⟩ := List.getElem?_eq_some_iff.1 hy
      have e : ns.getD i [] = ns[i] := by rw [List.getD, List.getElem?_eq_getElem hj]; rfl
      refine ⟨trivial, fun hr => ?_⟩
      have := rSizR_yy (k := k) (n := n) (s := s) (is := is) (ns := ns) (i := i) (m := m) (r := r) ke ne se ise nse (by rw [rowsV_len]; exact dlt hi) hx (ih _ hm (his _ hm) (hm1 _ hm)) hk hj (rtext_runs (by rw [e]; simpa [reachBytes] using hns _ (List.getElem_mem hj)))
        (by
          rw [nx (by omega), bs_len, e]
          simp only [tlenN] at hr
          rw [List.length_append]
          simpa using hr)
      exact this)
    (fun m _ => by
      have e : (is.zip ns).length = is.length := by simp; omega
      rw [e]
      exact rSizR_n (by rw [rowsV_len]; exact dlt_n)) m0 trivial
  have hv : ∀ j : Nat, IntKind.wrap .i64 (1 + ((vcode j).length : Int)) = IntKind.wrap .i64 (1 + clenN j) := fun j => rfl
  have h := @rSiz0 k n s is ns (sizeW (.mk k n s is ns)) (fun _ _ => rint_runs hn.1 hn.2) (fun _ _ _ => rtext_runs (by simpa [reachBytes] using hs)) (fun _ _ _ _ => rtext_runs (by simpa [reachBytes] using hs)) (fun _ _ _ _ _ => (by rw [rowsV_len]; exact rcount_runs (by omega))) (fun _ _ _ _ _ => (by have h6 : k = 6 := eq_of_beq (by assumption); subst h6; have hns0 : ns = [] := (by rcases kinds hsh with h | h | h | h | h | h | h <;> simp_all); have := la rfl (IntKind.wrap .i64 (1 + clenN is.length)); rw [size_fold] at this; rw [rowsV_len, bs_len]; simpa [sizeW, sizeV, clenN] using this)) (fun _ _ _ _ _ _ => (by rw [rowsV_len]; exact rcount_runs (by omega))) (fun _ _ _ _ _ _ => (by have h7 : k = 7 := eq_of_beq (by assumption); subst h7; have hnn : ns.length = is.length := (by rcases kinds hsh with h | h | h | h | h | h | h <;> simp_all); have := lb rfl hnn (IntKind.wrap .i64 (1 + clenN is.length)); rw [rsize_fold is ns, List.map_fst_zip (by omega), List.map_snd_zip (by omega)] at this; rw [rowsV_len, bs_len]; simpa [sizeW, sizeV, clenN] using this)) (fun _ _ _ _ _ _ => (by have h0 : is = [] ∧ k = 1 := (by rcases kinds hsh with h | h | h | h | h | h | h <;> simp_all); obtain ⟨h0, h1⟩ := h0; subst h0; subst h1; have := la rfl 1; simpa [sizeW, sizeV, wrap_i64] using this))
  refine ifE h ?_
  rcases kinds hsh with ⟨rfl, h1, h2⟩ | ⟨rfl, h1, h2⟩ | ⟨rfl, h1, h2⟩ | ⟨rfl, h1, h2⟩ | ⟨rfl, h1, h2⟩ | ⟨rfl, h2⟩ | ⟨rfl, h2⟩
  · simp
  · simp [sizeW, sizeV, wrap_i64]
  · simp [sizeW, sizeV, bs_len, hz]
  · simp [sizeW, sizeV, bs_len, tlenN]
  · simp [sizeW, sizeV, bs_len, tlenN]
  · simp
  · simp
theorem sameL_zip : ∀ (l m : List Val), l.length = m.length → (l.zip m).all (fun p => sameV p.1 p.2) = sameL l m
  | [], [], _ => rfl
  | v :: r, w :: q, h => by simp only [List.zip_cons_cons, List.all_cons, sameL, sameL_zip r q (by simpa using h)]
theorem sameN_zip : ∀ (l m : List (List UInt8)), l.length = m.length → (l.zip m).all (fun p => p.1 == p.2) = (l == m)
  | [], [], _ => rfl
  | v :: r, w :: q, h => by
    simp only [List.zip_cons_cons, List.all_cons, sameN_zip r q (by simpa using h)]
    rfl
theorem sameL_len : ∀ (l m : List Val), sameL l m = true → l.length = m.length
  | [], [], _ => rfl
  | v :: r, w :: q, h => by simp only [sameL, Bool.and_eq_true] at h; simp [sameL_len r q h.2]
  | [], _ :: _, h => by simp [sameL] at h
  | _ :: _, [], h => by simp [sameL] at h
theorem rSame : ∀ v, okV v → ∀ w, okV w → Runs lp 44 [encV v, encV w] [] (.p (.bool (sameV v w)), []) := by
  refine Val.ind fun k n s is ns ih hok w hokw => ?_
  obtain ⟨kp, np, sp, isp, nsp⟩ := w
  obtain ⟨_, hn, hs, hil, hnl, hns, his⟩ := okV_inv hok
  obtain ⟨_, hnp, hsp, hilp, hnlp, hnsp, hisp⟩ := okV_inv hokw
  have l0 := fun (hl : is.length = isp.length) => loop_all (lp := lp) (k := 0) (L := loopNo lf44 0) (fun i => tl 0 81 [(2, .ptr 0 0 0), (3, .ptr 1 0 0), (5, .p (.int .i64 (i : Int)))]) [.row [[.p (.int .i64 k), .p (.int .i64 n), .p (.str s), .p (.sl (rowsV is)), .p (.sl (rowsN ns))]], .row [[.p (.int .i64 kp), .p (.int .i64 np), .p (.str sp), .p (.sl (rowsV isp)), .p (.sl (rowsN nsp))]]] (is.zip isp) (fun p => sameV p.1 p.2)
    (rF := (.ret, tl 0 81 [(4, .p (.bool false))], [.row [[.p (.int .i64 k), .p (.int .i64 n), .p (.str s), .p (.sl (rowsV is)), .p (.sl (rowsN ns))]], .row [[.p (.int .i64 kp), .p (.int .i64 np), .p (.str sp), .p (.sl (rowsV isp)), .p (.sl (rowsN nsp))]]]))
    (rT := (.exit 0, tl 0 81 [(2, .ptr 0 0 0), (3, .ptr 1 0 0)], [.row [[.p (.int .i64 k), .p (.int .i64 n), .p (.str s), .p (.sl (rowsV is)), .p (.sl (rowsN ns))]], .row [[.p (.int .i64 kp), .p (.int .i64 np), .p (.str sp), .p (.sl (rowsV isp)), .p (.sl (rowsN nsp))]]]))
    (by
      rintro i ⟨x, y⟩ hx hp
      rw [List.getElem?_zip_eq_some] at hx
      obtain ⟨hx, hy⟩ := hx
      obtain ⟨ke, ne, se, ise, nse⟩ := x
      obtain ⟨kf, nf, sf, isf, nsf⟩ := y
      have hi := (List.getElem?_eq_some_iff.1 hx).1
      have hm := List.mem_of_getElem? hx
      have hm2 := List.mem_of_getElem? hy
      exact rSamI_yn ke ne se ise nse kf nf sf isf nsf (by rw [rowsV_len]; exact dlt hi) hx hy (ih _ hm (his _ hm) _ (hisp _ hm2)) hp)
    (by
      rintro i ⟨x, y⟩ r hx hp hr
      rw [List.getElem?_zip_eq_some] at hx
      obtain ⟨hx, hy⟩ := hx
      obtain ⟨ke, ne, se, ise, nse⟩ := x
      obtain ⟨kf, nf, sf, isf, nsf⟩ := y
      have hi := (List.getElem?_eq_some_iff.1 hx).1
      have hm := List.mem_of_getElem? hx
      have hm2 := List.mem_of_getElem? hy
      exact rSamI_yy ke ne se ise nse kf nf sf isf nsf (by rw [rowsV_len]; exact dlt hi) hx hy (ih _ hm (his _ hm) _ (hisp _ hm2)) hp (by rw [nx (by omega)]; exact hr))
    (by
      have e : (is.zip isp).length = is.length := by simp; omega
      rw [e]
      exact rSamI_n (by rw [rowsV_len]; exact dlt_n))
  have l1 := fun (hl : ns.length = nsp.length) => loop_all (lp := lp) (k := 0) (L := loopNo lf44 1) (fun i => tl 0 81 [(2, .ptr 0 0 0), (3, .ptr 1 0 0), (6, .p (.int .i64 (i : Int)))]) [.row [[.p (.int .i64 k), .p (.int .i64 n), .p (.str s), .p (.sl (rowsV is)), .p (.sl (rowsN ns))]], .row [[.p (.int .i64 kp), .p (.int .i64 np), .p (.str sp), .p (.sl (rowsV isp)), .p (.sl (rowsN nsp))]]] (ns.zip nsp) (fun p => p.1 == p.2)
    (rF := (.ret, tl 0 81 [(4, .p (.bool false))], [.row [[.p (.int .i64 k), .p (.int .i64 n), .p (.str s), .p (.sl (rowsV is)), .p (.sl (rowsN ns))]], .row [[.p (.int .i64 kp), .p (.int .i64 np), .p (.str sp), .p (.sl (rowsV isp)), .p (.sl (rowsN nsp))]]]))
    (rT := (.exit 2, tl 0 81 [], [.row [[.p (.int .i64 k), .p (.int .i64 n), .p (.str s), .p (.sl (rowsV is)), .p (.sl (rowsN ns))]], .row [[.p (.int .i64 kp), .p (.int .i64 np), .p (.str sp), .p (.sl (rowsV isp)), .p (.sl (rowsN nsp))]]]))
    (by
      rintro i ⟨x, y⟩ hx hp
      rw [List.getElem?_zip_eq_some] at hx
      obtain ⟨hx, hy⟩ := hx
      obtain ⟨hi, rfl⟩ := List.getElem?_eq_some_iff.1 hx
      obtain ⟨hj, rfl⟩ := List.getElem?_eq_some_iff.1 hy
      have e : ns.getD i [] = ns[i] := by rw [List.getD, List.getElem?_eq_getElem hi]; rfl
      have e2 : nsp.getD i [] = nsp[i] := by rw [List.getD, List.getElem?_eq_getElem hj]; rfl
      exact rSamN_yn (by rw [rowsN_len]; exact dlt hi) hi hj (by rw [e, e2]; exact hp))
    (by
      rintro i ⟨x, y⟩ r hx hp hr
      rw [List.getElem?_zip_eq_some] at hx
      obtain ⟨hx, hy⟩ := hx
      obtain ⟨hi, rfl⟩ := List.getElem?_eq_some_iff.1 hx
      obtain ⟨hj, rfl⟩ := List.getElem?_eq_some_iff.1 hy
      have e : ns.getD i [] = ns[i] := by rw [List.getD, List.getElem?_eq_getElem hi]; rfl
      have e2 : nsp.getD i [] = nsp[i] := by rw [List.getD, List.getElem?_eq_getElem hj]; rfl
      exact rSamN_yy (by rw [rowsN_len]; exact dlt hi) hi hj (by rw [e, e2]; exact hp) (by rw [nx (by omega)]; exact hr))
    (by
      have e : (ns.zip nsp).length = ns.length := by simp; omega
      rw [e]
      exact rSamN_n (by rw [rowsN_len]; exact dlt_n))
  have z0 : ((List.length (rowsV is) : Nat) : Int) = ((List.length (rowsV isp) : Nat) : Int) → is.length = isp.length := by rw [rowsV_len, rowsV_len]; omega
  have z1 : ((List.length (rowsN ns) : Nat) : Int) = ((List.length (rowsN nsp) : Nat) : Int) → ns.length = nsp.length := by rw [rowsN_len, rowsN_len]; omega
  have h := @rSam0 k n s is ns kp np sp isp nsp (fun _ _ _ hq _ hc => by have := l0 (z0 (eq_of_beq hq)); rw [sameL_zip _ _ (z0 (eq_of_beq hq)), hc] at this; exact this) (fun _ _ _ _ hq _ hc => by have := l1 (z1 (eq_of_beq hq)); rw [sameN_zip _ _ (z1 (eq_of_beq hq)), hc] at this; exact this) (fun _ _ _ _ hq _ hc => by have := l1 (z1 (eq_of_beq hq)); rw [sameN_zip _ _ (z1 (eq_of_beq hq)), hc] at this; exact this) (fun _ _ _ hq _ hc => by have := l0 (z0 (eq_of_beq hq)); rw [sameL_zip _ _ (z0 (eq_of_beq hq)), hc] at this; exact this)
  refine ifE h ?_
  simp only [sameV]
  by_cases c1 : k = kp
  · by_cases c2 : n = np
    · by_cases c3 : s = sp
      · by_cases c4 : is.length = isp.length
        · by_cases c5 : ns.length = nsp.length
          · cases hc : sameL is isp <;> cases hd : (ns == nsp) <;> simp [c1, c2, c3, c4, c5, hc, hd, rowsV_len, rowsN_len]
          · have : (ns == nsp) = false := by rw [beq_eq_false_iff_ne]; intro h; exact c5 (by rw [h])
            have c5' : ¬ ((ns.length : Int) = nsp.length) := by omega
            simp [c1, c2, c3, c4, c5', rowsV_len, rowsN_len, this]
        · have : sameL is isp = false := by
            cases hc : sameL is isp with
            | false => rfl
            | true => exact absurd (sameL_len _ _ hc) c4
          have c4' : ¬ ((is.length : Int) = isp.length) := by omega
          simp [c1, c2, c3, c4', rowsV_len, rowsN_len, this]
      · simp [c1, c2, c3]
    · simp [c1, c2]
  · simp [c1]
theorem cloneN {ns : List (List UInt8)} (h : ns.length * 16 ≤ 140737488355328) : Runs lp 29 [.p (.sl (rowsN ns))] [] (.p (.sl (rowsN ns)), []) := by
  cases ns with
  | nil => exact ⟨20, by kernel_rfl⟩
  | cons x r =>
    have q : OpW [] (.append false 1 16 (.const (.tight [])) (.const (.p (.sl (rowsN (x :: r)))))) (.sl ([] ++ rowsN (x :: r)) 0 ([] ++ rowsN (x :: r)).length) [.spare 1 ([] ++ rowsN (x :: r)).length] :=
      opIs_appTE (size := 1) (bytes := 16) (E := []) (X := rowsN (x :: r)) rfl rfl (rowsN_sized _) (by simp [rowsN]) (by rw [rowsN_len]; simpa using h) (by rw [rowsN_len]; simp at h ⊢; omega) (by decide)
    exact runO_sound (N := 100) (os := [(6, oO q)]) (ps := [_]) (by kernel_rfl) ⟨q, trivial⟩
end Go.Proofs.Ytegboccilfofmaa
