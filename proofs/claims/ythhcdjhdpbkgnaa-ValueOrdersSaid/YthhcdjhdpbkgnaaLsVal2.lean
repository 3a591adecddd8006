/- Depth, size, number of parts, sameness, copies of values. -/
import Derived.Test.YthhcdjhdpbkgnaaLsVal3W
set_option linter.unusedVariables false
set_option maxRecDepth 100000
set_option linter.unusedSimpArgs false
namespace Go.Proofs.Ythhcdjhdpbkgnaa
open Go Go.LS

theorem mayV_inv {k n : Int} {s : List UInt8} {is : List Val} {ns : List (List UInt8)} (h : mayV (.mk k n s is ns) = true) : (∀ v ∈ is, mayV v = true) ∧ shapeB k n s is.length ns = true := by
  simp only [mayV, Bool.and_eq_true, mayL_all, List.all_eq_true] at h
  exact ⟨h.1.1, h.2⟩
theorem kinds {k n : Int} {s : List UInt8} {l : Nat} {ns : List (List UInt8)} (h : shapeB k n s l ns = true) :
    (k = 1 ∧ l = 0 ∧ ns = []) ∨ (k = 2 ∧ l = 0 ∧ ns = []) ∨ (k = 3 ∧ l = 0 ∧ ns = []) ∨ (k = 4 ∧ l = 0 ∧ ns = []) ∨ (k = 5 ∧ l = 0 ∧ ns = []) ∨ (k = 6 ∧ ns = []) ∨ (k = 7 ∧ ns.length = l) := by
  unfold shapeB at h
  by_cases h1 : k = 1
  · subst h1; simp at h; simp [h]
  by_cases h2 : k = 2
  · subst h2; simp at h; simp [h]
  by_cases h3 : k = 3
  · subst h3; simp at h; simp [h]
  by_cases h4 : k = 4
  · subst h4; simp at h; simp [h]
  by_cases h5 : k = 5
  · subst h5; simp at h; simp [h]
  by_cases h6 : k = 6
  · subst h6; simp at h; simp [h]
  by_cases h7 : k = 7
  · subst h7; simp at h; simp [h]
  simp [h1, h2, h3, h4, h5, h6, h7] at h
/-! How many parts. -/
theorem nodes_fold (d : Int) {ρ : Type} (rd : Int → ρ) : ∀ (l : List Val) m, foldE (fun m x => if m < 65536 then (.inr (IntKind.wrap .i64 (m + nodesV d x)) : ρ ⊕ Int) else .inl (rd m)) rd m l = rd (nodesL d m l) := by
  intro l
  induction l with
  | nil => intro m; simp [foldE, nodesL]
  | cons v r ih =>
    intro m
    simp only [foldE, nodesL]
    by_cases h : m < 65536
    · simp only [h, if_true]; exact ih _
    · simp only [h, if_false]
theorem rNodes : ∀ v, okV v → ∀ d, Runs lp 32 [encV v, .p (.int .i64 d)] [] (.p (.int .i64 (nodesV d v)), []) := by
  refine Val.ind fun k n s is ns ih hok d => ?_
  obtain ⟨_, hn, hs, hil, hnl, hns, his⟩ := okV_inv hok
  have l := loop_fold (lp := lp) (k := 0) (L := loopNo lf32 0) (fun i (m : Int) => tl 0 35 [(1, .p (.int .i64 d)), (2, .ptr 0 0 0), (5, .p (.int .i64 m)), (6, .p (.int .i64 (i : Int)))]) (fun _ _ => [.row [[.p (.int .i64 k), .p (.int .i64 n), .p (.str s), .p (.sl (rowsV is)), .p (.sl (rowsN ns))]]]) is
    (fun m x => if m < 65536 then .inr (IntKind.wrap .i64 (m + nodesV (IntKind.wrap .i64 (d + 1)) x)) else .inl (.exit 0, tl 0 35 [(5, .p (.int .i64 m))], [.row [[.p (.int .i64 k), .p (.int .i64 n), .p (.str s), .p (.sl (rowsV is)), .p (.sl (rowsN ns))]]]))
    (fun m => (.exit 0, tl 0 35 [(5, .p (.int .i64 m))], [.row [[.p (.int .i64 k), .p (.int .i64 n), .p (.str s), .p (.sl (rowsV is)), .p (.sl (rowsN ns))]]])) (fun _ _ => True)
    (by
      intro i m x hx _
      obtain ⟨ke, ne, se, ise, nse⟩ := x
      have hi := (List.getElem?_eq_some_iff.1 hx).1
      have hm := List.mem_of_getElem? hx
      by_cases h : m < 65536
      · simp only [h, if_true]
        refine ⟨fun r h => (by cases h), fun s' hs' => ?_⟩
        cases hs'
        exact ⟨trivial, fun r hr => rNodR_yy ke ne se ise nse (by rw [rowsV_len]; exact dlt hi) (decide_eq_true h) hx (ih _ hm (his _ hm) _) (by rw [nx (by omega)]; exact hr)⟩
      · simp only [h, if_false]
        refine ⟨fun r hr => ?_, fun s' h => (by cases h)⟩
        cases hr
        exact rNodR_yn (by rw [rowsV_len]; exact dlt hi) (decide_eq_false h))
    (fun m _ => rNodR_n (by rw [rowsV_len]; exact dlt_n)) (IntKind.wrap .i64 (1 + (ns.length : Int))) trivial
  rw [nodes_fold (IntKind.wrap .i64 (d + 1)) (fun m => ((.exit 0, tl 0 35 [(5, .p (.int .i64 m))], [.row [[.p (.int .i64 k), .p (.int .i64 n), .p (.str s), .p (.sl (rowsV is)), .p (.sl (rowsN ns))]]]) : LOut × List LV × List LObj))] at l
  have h := @rNod0 k n s is ns d (nodesL (IntKind.wrap .i64 (d + 1)) (IntKind.wrap .i64 (1 + (ns.length : Int))) is) (fun _ => by rw [rowsN_len]; exact l)
  refine ifE h ?_
  rw [nodesV]
  by_cases hd : d > 40
  · simp [hd]
  · simp [hd]
theorem rLarge (v : Val) (hok : okV v) : Runs lp 8 [encV v] [] (.p (.bool (largeV v)), []) := by
  obtain ⟨k, n, s, is, ns⟩ := v
  exact rLarge0 (rNodes _ hok 0)

end Go.Proofs.Ythhcdjhdpbkgnaa
