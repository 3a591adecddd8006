import Derived.Test.YtpkmddkodchanaaLsPthW
set_option linter.unusedVariables false
set_option linter.unusedSimpArgs false
set_option maxRecDepth 100000
set_option linter.unusedSimpArgs false
namespace Go.Proofs.Ytpkmddkodchanaa
open Go Go.LS
def pathB (ns : List (List UInt8)) : Bool := decide (1 ≤ ns.length) && decide (ns.length ≤ 8) && ns.all nameB
theorem getD_get {ns : List (List UInt8)} {i : Nat} {x : List UInt8} (h : ns[i]? = some x) : ns.getD i [] = x := by rw [List.getD, h]; rfl
theorem pIdxL {ns : List (List UInt8)} (hl : ns.length ≤ 140737488355328) : ∀ (j i : Nat), i + j = ns.length → ∃ m : Nat, LoopN lp 0 (loopNo lf64 0) (tl 0 19 [(0, .p (.sl (rowsN ns))), (1, .fn (.func 56) [] []), (7, .p (.int .i64 ((List.length (rowsN ns) : Nat) : Int))), (8, .p (.int .i64 (i : Int)))]) []
    (if (ns.drop i).all nameB = true then (.exit 0, tl 0 19 [], []) else (.ret, tl 0 19 [(4, .p (.int .i64 (m : Int)))], [])) := by
  intro j
  induction j with
  | zero =>
    intro i h
    obtain rfl : i = ns.length := by omega
    rw [List.drop_length]
    exact ⟨0, pIdxR_n (by rw [rowsN_len]; exact dlt_n)⟩
  | succ j ih =>
    intro i h
    have hi : i < ns.length := by omega
    have hx : ns[i]? = some ns[i] := List.getElem?_eq_getElem hi
    have e := getD_get hx
    rw [drop_get hx, List.all_cons]
    cases hp : nameB ns[i] with
    | true =>
      obtain ⟨m, hm⟩ := ih (i + 1) (by omega)
      exact ⟨m, pIdxR_yy (by rw [rowsN_len]; exact dlt hi) hi (pMay1 (vName _)) (by rw [e]; exact hp) (by rw [nx (by omega)]; exact hm)⟩
    | false => exact ⟨i, pIdxR_yn (by rw [rowsN_len]; exact dlt hi) hi (pMay1 (vName _)) (by rw [e]; exact hp)⟩
theorem pCon {ns : List (List UInt8)} (hl : ns.length ≤ 140737488355328) : Runs lp 58 [.p (.sl (rowsN ns)), .fn (.func 56) [] []] [] (.p (.bool (!(List.all ns nameB))), []) := by
  obtain ⟨m, l⟩ := pIdxL hl ns.length 0 (by omega)
  rw [List.drop_zero] at l
  have hi := @pIdx0 ns m (fun h => by rw [h] at l; exact l) (fun h => by rw [h] at l; exact l)
  have h := @pCon0 ns m (fun h => by rw [h] at hi; exact hi) (fun h => by rw [h] at hi; exact hi)
  refine ifE h ?_
  cases ns.all nameB
  · simp
  · simp
theorem pMay {ns : List (List UInt8)} (hl : ns.length ≤ 140737488355328) : Runs lp 43 [.p (.sl (rowsN ns))] [] (.p (.bool (pathB ns)), []) := by
  refine ifE (pMay0 (fun _ _ => pCon hl)) ?_
  rw [rowsN_len]
  unfold pathB
  by_cases h1 : 1 ≤ ns.length
  · by_cases h2 : ns.length ≤ 8
    · have e1 : decide (((ns.length : Nat) : Int) ≥ 1) = true := decide_eq_true (by omega)
      have e2 : decide (((ns.length : Nat) : Int) ≤ 8) = true := decide_eq_true (by omega)
      rw [e1, e2]; simp [h1, h2]
    · have e1 : decide (((ns.length : Nat) : Int) ≥ 1) = true := decide_eq_true (by omega)
      have e2 : decide (((ns.length : Nat) : Int) ≤ 8) = false := decide_eq_false (by omega)
      rw [e1, e2]; simp [h2]
  · have e1 : decide (((ns.length : Nat) : Int) ≥ 1) = false := decide_eq_false (by omega)
    rw [e1]; simp [h1]
theorem rpMayL {ns : List (List UInt8)} (hl : ns.length ≤ 140737488355328) (hs : ∀ x ∈ ns, x.length ≤ 140737488355328) : ∀ (j i : Nat), i + j = ns.length → LoopN lp 0 (loopNo lf30 0) (tl 0 24 [(0, .p (.sl (rowsN ns))), (3, .p (.int .i64 (i : Int)))]) []
    (if (ns.drop i).all nameB = true then (.exit 0, (tl 0 24 [(0, (.p (.sl (rowsN ns))))]), []) else (.ret, (tl 0 24 [(2, .p (.bool false))]), [])) := by
  intro j
  induction j with
  | zero =>
    intro i h
    obtain rfl : i = ns.length := by omega
    rw [List.drop_length]
    exact rpMayR_n (by rw [rowsN_len]; exact dlt_n)
  | succ j ih =>
    intro i h
    have hi : i < ns.length := by omega
    have hx : ns[i]? = some ns[i] := List.getElem?_eq_getElem hi
    have e := getD_get hx
    have hm := hs _ (List.mem_of_getElem? hx)
    rw [drop_get hx, List.all_cons]
    cases hp : nameB ns[i] with
    | true => exact rpMayR_yy (by rw [rowsN_len]; exact dlt hi) hi (rName _ (by rw [e]; exact hm)) (by rw [e]; exact hp) (by rw [nx (by omega)]; exact ih (i + 1) (by omega))
    | false => exact rpMayR_yn (by rw [rowsN_len]; exact dlt hi) hi (rName _ (by rw [e]; exact hm)) (by rw [e]; exact hp)
theorem rpMay {ns : List (List UInt8)} (hl : ns.length ≤ 140737488355328) (hs : ∀ x ∈ ns, x.length ≤ 140737488355328) : Runs lp 30 [.p (.sl (rowsN ns))] [] (.p (.bool (pathB ns)), []) := by
  have l := rpMayL hl hs ns.length 0 (by omega)
  rw [List.drop_zero] at l
  refine ifE (rpMay0 (fun h => by rw [h] at l; exact l) (fun h => by rw [h] at l; exact l)) ?_
  rw [rowsN_len]
  unfold pathB
  cases ns.all nameB with
  | false => simp
  | true =>
    by_cases h1 : 1 ≤ ns.length
    · have e1 : decide (((ns.length : Nat) : Int) ≥ 1) = true := decide_eq_true (by omega)
      rw [e1]; simp [h1]; omega
    · have e1 : decide (((ns.length : Nat) : Int) ≥ 1) = false := decide_eq_false (by omega)
      rw [e1]; simp [h1]
end Go.Proofs.Ytpkmddkodchanaa
