import Derived.Test.YthhcdjhdpbkgnaaLsMkW
import Derived.Test.YthhcdjhdpbkgnaaLsLives
set_option linter.unusedVariables false
set_option linter.unusedSimpArgs false
set_option maxRecDepth 100000
namespace Go.Proofs.Ythhcdjhdpbkgnaa
open Go Go.LS
theorem cloneT : Runs lp 42 [.p (.sl (rowsN []))] [] (.tight [], []) := ⟨20, by kernel_rfl⟩
theorem cloneVT : Runs lp 47 [.p (.sl [])] [] (.tight [], []) := ⟨20, by kernel_rfl⟩
theorem cloneR {ns : List (List UInt8)} (h : ns.length * 16 ≤ 140737488355328) (hne : ns ≠ []) : Runs lp 42 [.p (.sl (rowsN ns))] [] (.rs 0 0 (List.length ns), [.row (rowS (rowsN ns))]) := by
  cases ns with
  | nil => exact absurd rfl hne
  | cons x r =>
    have q : OpW [] (.appendR 1 16 (.const (.tight [])) (.const (.p (.sl (rowsN (x :: r)))))) (.rs 0 0 (List.length (rowsN (x :: r)))) [.row (rowS (rowsN (x :: r)))] :=
      opIs_appRT (size := 1) (bytes := 16) (X := rowsN (x :: r)) (st := []) (rowsN_sized _) (by simp [rowsN]) (by rw [rowsN_len]; exact h) (by rw [rowsN_len]; simp [maxLen] at h ⊢; omega) (by decide)
    rw [rowsN_len] at q
    exact runE_sound (N := 100) (os := [(6, oO q)]) (ps := [_]) (vs := [.rs 0 0 (List.length (x :: r))]) (st1 := [.row (rowS (rowsN (x :: r)))]) (vs1 := [.rs 0 0 (List.length (x :: r))]) (s1 := [.row (rowS (rowsN (x :: r)))]) (vs2 := [.rs 0 0 (List.length (x :: r))]) (st2 := [.row (rowS (rowsN (x :: r)))]) (by kernel_rfl) ⟨q, trivial⟩ rfl
      (gc_sh (sh := [.spare 1 0]) (ids := [0]) (by simp only [List.map_cons, List.map_nil, rowS_refs] <;> rfl) (by kernel_rfl) (by show [LObj.ren (fun q => List.idxOf q ([0] : List Nat)) (.row (rowS (rowsN (x :: r))))] = _; (try simp only [rowS_ren]); try rfl))
theorem mksL {x : Int} {s : List UInt8} {ns : List (List UInt8)} {is : List Val} (his : ∀ v ∈ is, okV v) (hil : is.length * 80 ≤ 140737488355328) :
    (∃ bb : Bool, (bb = true → LoopN lp 0 (loopNo lf7 0) (tl 0 100 [(0, .p (.int .i64 x)), (1, .p (.str s)), (2, (.p (.sl (rowsN ns)))), (3, (.p (.sl (rowsV is)))), (9, .p (.int .i64 0))]) [] (.ret, (tl 0 100 [(8, .p (.bool true))]), [])) ∧ (bb = false → LoopN lp 0 (loopNo lf7 0) (tl 0 100 [(0, .p (.int .i64 x)), (1, .p (.str s)), (2, (.p (.sl (rowsN ns)))), (3, (.p (.sl (rowsV is)))), (9, .p (.int .i64 0))]) [] (.exit 0, (tl 0 100 [(0, .p (.int .i64 x)), (1, .p (.str s)), (2, (.p (.sl (rowsN ns)))), (3, (.p (.sl (rowsV is))))]), []))) := by
  have l : ∀ (j i : Nat), i + j = is.length → (LoopN lp 0 (loopNo lf7 0) (tl 0 100 [(0, .p (.int .i64 x)), (1, .p (.str s)), (2, (.p (.sl (rowsN ns)))), (3, (.p (.sl (rowsV is)))), (9, (.p (.int .i64 (i : Int))))]) [] (.ret, (tl 0 100 [(8, .p (.bool true))]), [])) ∨ (LoopN lp 0 (loopNo lf7 0) (tl 0 100 [(0, .p (.int .i64 x)), (1, .p (.str s)), (2, (.p (.sl (rowsN ns)))), (3, (.p (.sl (rowsV is)))), (9, (.p (.int .i64 (i : Int))))]) [] (.exit 0, (tl 0 100 [(0, .p (.int .i64 x)), (1, .p (.str s)), (2, (.p (.sl (rowsN ns)))), (3, (.p (.sl (rowsV is))))]), [])) := by
    intro j
    induction j with
    | zero =>
      intro i h
      obtain rfl : i = is.length := by omega
      exact .inr (mkR1_n (by rw [rowsV_len]; exact dlt_n))
    | succ j ih =>
      intro i h
      have hi : i < is.length := by omega
      have hx : is[i]? = some is[i] := List.getElem?_eq_getElem hi
      have hok := his _ (List.getElem_mem hi)
      have hlg := rLarge is[i] hok
      generalize is[i] = v at *
      obtain ⟨ke, ne, se, ise, nse⟩ := v
      cases hl : largeV (.mk ke ne se ise nse) with
      | true => exact .inl (mkR1_yy ke ne se ise nse (by rw [rowsV_len]; exact dlt hi) hx hlg hl ⟨400, lives9⟩)
      | false =>
        by_cases h5 : (i : Int) > 500
        · exact .inl (mkR1_yny ke ne se ise nse (by rw [rowsV_len]; exact dlt hi) hx hlg hl (decide_eq_true h5) ⟨400, lives9⟩)
        · rcases ih (i + 1) (by omega) with h | h
          · exact .inl (mkR1_ynn ke ne se ise nse (by rw [rowsV_len]; exact dlt hi) hx hlg hl (decide_eq_false h5) (by rw [nx (by omega)]; exact h))
          · exact .inr (mkR1_ynn ke ne se ise nse (by rw [rowsV_len]; exact dlt hi) hx hlg hl (decide_eq_false h5) (by rw [nx (by omega)]; exact h))
  rcases l is.length 0 (by omega) with h | h
  · exact ⟨true, fun _ => h, fun h => absurd h (by decide)⟩
  · exact ⟨false, fun h => absurd h (by decide), fun _ => h⟩
theorem mkZ {x : Int} {s : List UInt8} {ns : List (List UInt8)} {is : List Val} (hil : is.length * 80 ≤ 140737488355328) : ∀ (j i : Nat), i + j = is.length →
    LoopN lp 0 (loopNo lf7 1) (tl 0 100 [(0, .p (.int .i64 x)), (1, .p (.str s)), (2, (.p (.sl (rowsN ns)))), (3, (.p (.sl (rowsV is)))), (10, (.rs 0 0 (List.length (α := Val) is))), (11, (.ptr 1 0 0)), (12, (.ptr 2 0 0)), (13, (.p (.int .i64 (i : Int))))]) ([.row (rowZ i (rowsV is)), .row [[.p (.int .i64 6), .p (.int .i64 0), .p (.str []), (.p (.sl (rowsV is))), .p (.sl [])]], .row [[.p (.int .i64 7), .p (.int .i64 0), .p (.str []), (.p (.sl (rowsV is))), (.p (.sl (rowsN ns)))]]] : List LObj) (.exit 2, (tl 0 100 [(0, .p (.int .i64 x)), (1, .p (.str s)), (2, (.p (.sl (rowsN ns)))), (3, (.p (.sl (rowsV is)))), (11, (.ptr 1 0 0)), (12, (.ptr 2 0 0))]), [.row (rowZ (List.length (α := Val) is) (rowsV is)), .row [[.p (.int .i64 6), .p (.int .i64 0), .p (.str []), (.p (.sl (rowsV is))), .p (.sl [])]], .row [[.p (.int .i64 7), .p (.int .i64 0), .p (.str []), (.p (.sl (rowsV is))), (.p (.sl (rowsN ns)))]]]) := by
  intro j
  induction j with
  | zero =>
    intro i h
    obtain rfl : i = is.length := by omega
    exact mkR2_n (by simp)
  | succ j ih =>
    intro i h
    have hi : i < is.length := by omega
    exact mkR2_y (dlt hi) hi (by rw [nx (by omega)]; exact ih (i + 1) (by omega))
theorem lawMk {x : Int} {s : List UInt8} {ns : List (List UInt8)} {is : List Val} (hx : -9223372036854775808 ≤ x ∧ x ≤ 9223372036854775807) (hs : s.length ≤ 140737488351232) (hnl : ns.length * 16 ≤ 140737488355328) (hns : ∀ q ∈ ns, q.length ≤ 140737488351232) (hil : is.length * 80 ≤ 140737488355328) (his : ∀ v ∈ is, okV v) :
    Runs lp 7 [.p (.int .i64 x), .p (.str s), .p (.sl (rowsN ns)), .p (.sl (rowsV is))] [] (.p (.bool true), []) := by
  obtain ⟨bb, l1, l2⟩ := mksL (x := x) (s := s) (ns := ns) his hil
  have okm : ∀ (k n : Int) (t : List UInt8) (js : List Val) (ms : List (List UInt8)), (0 ≤ k ∧ k ≤ 7) → (-9223372036854775808 ≤ n ∧ n ≤ 9223372036854775807) → t.length ≤ 140737488351232 → js.length * 80 ≤ 140737488355328 → ms.length * 16 ≤ 140737488355328 → (∀ q ∈ ms, q.length ≤ 140737488351232) → (∀ v ∈ js, okV v) → okV (.mk k n t js ms) := by
    intro k n t js ms a b c d e f g
    rw [okV, okL_all]
    exact ⟨by omega, b, c, d, e, f, g⟩
  have sm : ∀ v, okV v → Runs lp 18 [encV v, encV v] [] (.p (.bool true), []) := fun v h => by have := rSame v h v h; rw [sameV_refl] at this; exact this
  have sk : ∀ (k n : Int) (t : List UInt8), (0 ≤ k ∧ k ≤ 7) → (-9223372036854775808 ≤ n ∧ n ≤ 9223372036854775807) → t.length ≤ 140737488351232 → Runs lp 18 [encV (.mk k n t [] []), encV (.mk k n t [] [])] [] (.p (.bool true), []) := fun k n t a b c => sm _ (okm k n t [] [] a b c (by simp) (by simp) (by simp) (by simp))
  have s6 := sm _ (okm 6 0 [] is [] (by omega) (by omega) (by simp) hil (by simp) (by simp) his)
  have s7 := sm _ (okm 7 0 [] is ns (by omega) (by omega) (by simp) hil hnl hns his)
  have hcl : decide (ns = []) = true → Runs lp 42 [.p (.sl (rowsN ns))] [] (.tight [], []) := fun h => by have h := of_decide_eq_true h; subst h; exact cloneT
  have hcr : decide (ns = []) = false → Runs lp 42 [.p (.sl (rowsN ns))] [] (.rs 0 0 (List.length ns), [.row (rowS (rowsN ns))]) := fun h => cloneR hnl (of_decide_eq_false h)
  have dE : ∀ {ns : List (List UInt8)}, (decide (ns = []) = true → Runs lp 42 [.p (.sl (rowsN ns))] [] (.tight [], [])) → (decide (ns = []) = false → Runs lp 42 [.p (.sl (rowsN ns))] [] (.rs 0 0 (List.length ns), [.row (rowS (rowsN ns))])) → Runs lp 26 [.p (.sl (rowsN ns)), .p (.sl [])] [] ((.agg [.p (.int .i64 7), .p (.int .i64 0), .p (.str []), .p (.sl []), .p (.sl (rowsN ns))]), []) := fun {ns} a b => by
    refine ifE (docE (cloneVT) (fun hM => a hM) (fun hM => b hM)) ?_
    by_cases h : ns = []
    · subst h; rfl
    · rw [decide_eq_false h]; rfl
  have dR : is ≠ [] → Runs lp 26 [.p (.sl (rowsN ns)), .rs 0 0 (List.length is)] [.row (rowS (rowsV is))] ((.agg [.p (.int .i64 7), .p (.int .i64 0), .p (.str []), .p (.sl (rowsV is)), .p (.sl (rowsN ns))]), [.row (rowS (rowsV is))]) := fun hne => by
    refine ifE (docR (clRR hne hil) (fun hM => hcl hM) (fun hM => hcr hM)) ?_
    by_cases h : ns = []
    · subst h; rfl
    · rw [decide_eq_false h]; rfl
  have z0 : rowS (rowsV is) = rowZ 0 (rowsV is) := (rowZ_0 _).symm
  have lz := mkZ (x := x) (s := s) (ns := ns) hil is.length 0 (by omega)
  rw [rowZ_0] at lz
  have em : True := trivial
  refine ifE (lawM (bb := bb) (fun hb => l1 hb) (fun hb => l2 hb) (fun hb hI => arrE cloneVT) (fun hb hI => dE hcl hcr) (fun hb hI => mkR2E) (fun hb hI hX => ⟨400, lives9⟩) (fun hb hI hX => by have e := of_decide_eq_true hI; subst e; exact s6) (fun hb hI hX => by have e := of_decide_eq_true hI; subst e; exact s7) (fun hb hI hX => ⟨20, by kernel_rfl⟩) (fun hb hI hX => sk 1 0 [] (by omega) (by omega) (by simp)) (fun hb hI hX => by have := mBool (bb := decide (x > 0)); rw [if_pos hX] at this; exact this) (fun hb hI hX => sk 2 1 [] (by omega) (by omega) (by simp)) (fun hb hI hX => mInt) (fun hb hI hX => sk 3 x [] (by omega) (by omega) (by simp)) (fun hb hI hX => mText) (fun hb hI hX => sk 4 0 s (by omega) (by omega) hs) (fun hb hI hX => (by simp only [OpW, opStep, LX.ev, lcv]; rw [if_pos (by omega)])) (fun hb hI hX => mBytes) (fun hb hI hX => sk 5 0 s (by omega) (by omega) hs) (fun hb hI hX => ⟨400, lives9⟩) (fun hb hI hX => by have e := of_decide_eq_true hI; subst e; exact s6) (fun hb hI hX => by have e := of_decide_eq_true hI; subst e; exact s7) (fun hb hI hX => ⟨20, by kernel_rfl⟩) (fun hb hI hX => sk 1 0 [] (by omega) (by omega) (by simp)) (fun hb hI hX => by have := mBool (bb := decide (x > 0)); rw [if_neg (by rw [hX]; decide)] at this; exact this) (fun hb hI hX => sk 2 0 [] (by omega) (by omega) (by simp)) (fun hb hI hX => mInt) (fun hb hI hX => sk 3 x [] (by omega) (by omega) (by simp)) (fun hb hI hX => mText) (fun hb hI hX => sk 4 0 s (by omega) (by omega) hs) (fun hb hI hX => (by simp only [OpW, opStep, LX.ev, lcv]; rw [if_pos (by omega)])) (fun hb hI hX => mBytes) (fun hb hI hX => sk 5 0 s (by omega) (by omega) hs) (fun hb hI => hil) (fun hb hI => arrR (clRR (of_decide_eq_false hI) hil)) (fun hb hI => dR (of_decide_eq_false hI)) (fun hb hI => lz) (fun hb hI hX => ⟨400, lives9⟩) (fun hb hI hX => s6) (fun hb hI hX => s7) (fun hb hI hX => ⟨20, by kernel_rfl⟩) (fun hb hI hX => sk 1 0 [] (by omega) (by omega) (by simp)) (fun hb hI hX => by have := mBool (bb := decide (x > 0)); rw [if_pos hX] at this; exact this) (fun hb hI hX => sk 2 1 [] (by omega) (by omega) (by simp)) (fun hb hI hX => mInt) (fun hb hI hX => sk 3 x [] (by omega) (by omega) (by simp)) (fun hb hI hX => mText) (fun hb hI hX => sk 4 0 s (by omega) (by omega) hs) (fun hb hI hX => (by simp only [OpW, opStep, LX.ev, lcv]; rw [if_pos (by omega)])) (fun hb hI hX => mBytes) (fun hb hI hX => sk 5 0 s (by omega) (by omega) hs) (fun hb hI hX => ⟨400, lives9⟩) (fun hb hI hX => s6) (fun hb hI hX => s7) (fun hb hI hX => ⟨20, by kernel_rfl⟩) (fun hb hI hX => sk 1 0 [] (by omega) (by omega) (by simp)) (fun hb hI hX => by have := mBool (bb := decide (x > 0)); rw [if_neg (by rw [hX]; decide)] at this; exact this) (fun hb hI hX => sk 2 0 [] (by omega) (by omega) (by simp)) (fun hb hI hX => mInt) (fun hb hI hX => sk 3 x [] (by omega) (by omega) (by simp)) (fun hb hI hX => mText) (fun hb hI hX => sk 4 0 s (by omega) (by omega) hs) (fun hb hI hX => (by simp only [OpW, opStep, LX.ev, lcv]; rw [if_pos (by omega)])) (fun hb hI hX => mBytes) (fun hb hI hX => sk 5 0 s (by omega) (by omega) hs)) ?_
  cases bb <;> by_cases h1 : is = [] <;> by_cases h2 : x > 0 <;> simp [h1, h2]
end Go.Proofs.Ythhcdjhdpbkgnaa
