import Derived.Test.YtegboccilfofmaaLsValDW
set_option linter.unusedVariables false
set_option maxRecDepth 100000
namespace Go.Proofs.Ytegboccilfofmaa
open Go Go.LS
theorem vDepthW : ∀ v, okV v → Runs lp 58 [encV v] [] (.p (.int .i64 (depthW v)), []) := by
  refine Val.ind fun k n s is ns ih hok => ?_
  obtain ⟨_, _, _, hil, hnl, hns, his⟩ := okV_inv hok
  have l := loop_each (lp := lp) (k := 0) (L := loopNo lf58 0) (fun i (m : Int) => tl 0 20 [(3, .p (.int .i64 m)), (7, .p (.sl (rowsV is))), (8, .p (.int .i64 ((List.length (rowsV is) : Nat) : Int))), (9, .p (.int .i64 (i : Int)))]) (fun _ _ => []) is
    (fun m x => if depthW x > m then depthW x else m) (fun m => (.exit 0, tl 0 20 [(3, .p (.int .i64 m))], [])) (fun _ _ => True)
    (by
      intro i m x r hx _
      obtain ⟨ke, ne, se, ise, nse⟩ := x
      have hi := (List.getElem?_eq_some_iff.1 hx).1
      have hm := List.mem_of_getElem? hx
      exact ⟨trivial, fun hr => vDwpR_y ke ne se ise nse (by rw [rowsV_len]; exact dlt hi) hx (ih _ hm (his _ hm)) (by rw [nx (by omega)]; exact hr)⟩)
    (fun m _ => vDwpR_n (by rw [rowsV_len]; exact dlt_n)) 0 trivial
  rw [depthW_fold _ _ (Int.le_refl _)] at l
  have hm : max 0 (depthLW is) = depthLW is := by have := depthLW_nonneg is; omega
  rw [hm] at l
  refine ifE (@vDwp0 k n s is ns l) ?_
  rw [depthW]
theorem rDepthW : ∀ v, okV v → Runs lp 52 [encV v] [] (.p (.int .i64 (depthW v)), []) := by
  refine Val.ind fun k n s is ns ih hok => ?_
  obtain ⟨_, _, _, hil, hnl, hns, his⟩ := okV_inv hok
  have l := loop_each (lp := lp) (k := 0) (L := loopNo lf52 0) (fun i (m : Int) => tl 0 25 [(1, .ptr 0 0 0), (3, .p (.int .i64 m)), (4, .p (.int .i64 (i : Int)))]) (fun _ _ => [.row [[.p (.int .i64 k), .p (.int .i64 n), .p (.str s), .p (.sl (rowsV is)), .p (.sl (rowsN ns))]]]) is
    (fun m x => if depthW x > m then depthW x else m) (fun m => (.exit 0, tl 0 25 [(3, .p (.int .i64 m))], [.row [[.p (.int .i64 k), .p (.int .i64 n), .p (.str s), .p (.sl (rowsV is)), .p (.sl (rowsN ns))]]])) (fun _ _ => True)
    (by
      intro i m x r hx _
      obtain ⟨ke, ne, se, ise, nse⟩ := x
      have hi := (List.getElem?_eq_some_iff.1 hx).1
      have hm := List.mem_of_getElem? hx
      refine ⟨trivial, fun hr => ?_⟩
      by_cases hgt : depthW (.mk ke ne se ise nse) > m
      · rw [if_pos hgt] at hr
        exact rDwpR_yy ke ne se ise nse (by rw [rowsV_len]; exact dlt hi) hx (ih _ hm (his _ hm)) (decide_eq_true hgt) (by rw [nx (by omega)]; exact hr)
      · rw [if_neg hgt] at hr
        exact rDwpR_yn ke ne se ise nse (by rw [rowsV_len]; exact dlt hi) hx (ih _ hm (his _ hm)) (decide_eq_false hgt) (by rw [nx (by omega)]; exact hr))
    (fun m _ => rDwpR_n (by rw [rowsV_len]; exact dlt_n)) 0 trivial
  rw [depthW_fold _ _ (Int.le_refl _)] at l
  have hm : max 0 (depthLW is) = depthLW is := by have := depthLW_nonneg is; omega
  rw [hm] at l
  refine ifE (@rDwp0 k n s is ns l) ?_
  rw [depthW]
theorem vCheckW (v : Val) (hok : okV v) : Runs lp 26 [encV v] [] (.p (.int .i64 (checkW v)), []) := by
  have h1 := vMay _ hok
  have h2 := vDepthW _ hok
  obtain ⟨k, n, s, is, ns⟩ := v
  exact ifE (vCkw0 h1 (fun _ => h2) (fun h _ => vSize _ hok h)) (checkW_tree _)
theorem rCheckW (v : Val) (hok : okV v) : Runs lp 23 [encV v] [] (.p (.int .i64 (checkW v)), []) := by
  have h1 := rMay _ hok
  have h2 := rDepthW _ hok
  obtain ⟨k, n, s, is, ns⟩ := v
  exact ifE (rCkw0 h1 (fun _ => h2) (fun h _ => rSize _ hok h)) (checkW_tree _)
end Go.Proofs.Ytegboccilfofmaa
