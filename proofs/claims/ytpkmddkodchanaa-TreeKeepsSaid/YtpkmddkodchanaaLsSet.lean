import Derived.Test.YtpkmddkodchanaaLsDrwW
import Derived.Test.YtpkmddkodchanaaLsTre2
import Derived.Test.YtpkmddkodchanaaLsG7
set_option linter.unusedVariables false
set_option linter.unusedSimpArgs false
set_option maxRecDepth 100000
namespace Go.Proofs.Ytpkmddkodchanaa
open Go Go.LS
theorem clipV {is : List Val} : Runs lp 60 [.p (.sl (rowsV is))] [] (.tight (rowsV is), []) := clipV0
theorem clipN {ns : List (List UInt8)} : Runs lp 61 [.p (.sl (rowsN ns))] [] (.tight (rowsN ns), []) := clipN0
theorem encV_fx (v : Val) : encV v = .agg [.p (.int .i64 (kV v)), .p (.int .i64 (nV v)), .p (.str (sV v)), .p (.sl (rowsV (iV v))), .p (.sl (rowsN (mV v)))] := by obtain ⟨_, _, _, _, _⟩ := v; rfl
theorem nodes_okW : ∀ v, okV v → ∀ d : Int, 0 ≤ d → d ≤ 1000 → nodesV d v < 65536 → okW (nodesV d v).toNat v := by
  refine Val.ind fun k n s is ns ih hok d h0 h1 => ?_
  obtain ⟨hk, hn, hs, hil, hnl, hns, his⟩ := okV_inv hok
  rw [nodesV]
  by_cases hd : d > 40
  · rw [if_pos hd]; intro h; omega
  · rw [if_neg hd, wrap_i64 (by omega) (by omega), wrap_i64 (by omega) (by omega)]
    intro h
    have key : ∀ l, (∀ v ∈ l, v ∈ is) → ∀ m, 1 ≤ m → m ≤ 10000000000000 → nodesL (d + 1) m l < 65536 → m + l.length ≤ nodesL (d + 1) m l ∧ ∀ v ∈ l, okW (nodesL (d + 1) m l).toNat v := by
      intro l
      induction l with
      | nil => intro _ m hm hm2 h; simp only [nodesL]; exact ⟨by simp, by simp⟩
      | cons v r ihr =>
        intro hl m hm hm2 h
        have hv := hl v (List.mem_cons_self ..)
        obtain ⟨b1, b2, b3⟩ := nodes_bounds v (his v hv) (d + 1) (by omega) (by omega)
        have hmm : m < 65536 := by
          rcases Int.lt_or_le m 65536 with h2 | h2
          · exact h2
          · rw [nodesL_big _ _ _ h2] at h; exact h
        rw [nodesL, if_pos hmm, wrap_i64 (by omega) (by omega)] at h ⊢
        have hsm : m + nodesV (d + 1) v < 65536 := by
          rcases Int.lt_or_le (m + nodesV (d + 1) v) 65536 with h2 | h2
          · exact h2
          · rw [nodesL_big _ _ _ h2] at h; exact h
        obtain ⟨c1, c2⟩ := ihr (fun w hw => hl w (List.mem_cons_of_mem _ hw)) (m + nodesV (d + 1) v) (by omega) (by omega) h
        refine ⟨by simp only [List.length_cons]; omega, fun w hw => ?_⟩
        rcases List.mem_cons.1 hw with rfl | hw
        · exact okW_mono (by omega) _ (ih _ hv (his _ hv) (d + 1) (by omega) (by omega) (by omega))
        · exact c2 w hw
    obtain ⟨c1, c2⟩ := key is (fun v h => h) (1 + (ns.length : Int)) (by omega) (by omega) h
    exact okW_mk ⟨hk, hn, hs, by omega, by omega, hns, c2⟩
theorem okW_of {v : Val} (hok : okV v) (h : largeV v = false) : okW 3000 v := by
  simp only [largeV, decide_eq_false_iff_not] at h
  have hb := (nodes_bounds v hok 0 (by omega) (by omega)).1
  exact okW_mono (by omega) _ (nodes_okW v hok 0 (by omega) (by omega) (by omega))
theorem clV {is : List Val} (h : is.length * 80 ≤ 140737488355328) (hne : is ≠ []) : Runs lp 54 [.p (.sl (rowsV is))] [] (.rs 0 0 (List.length is), [.row (rowS (rowsV is))]) := by
  cases is with
  | nil => exact absurd rfl hne
  | cons x r =>
    have q : OpW [] (.appendR 5 80 (.const (.tight [])) (.const (.p (.sl (rowsV (x :: r)))))) (.rs 0 0 (List.length (x :: r))) [.row (rowS (rowsV (x :: r)))] := opIs_appVX (st := []) hne h
    exact runE_sound (N := 100) (os := [(6, oO q)]) (ps := [_]) (vs := [.rs 0 0 (List.length (x :: r))]) (st1 := [.row (rowS (rowsV (x :: r)))]) (vs1 := [.rs 0 0 (List.length (x :: r))]) (s1 := [.row (rowS (rowsV (x :: r)))]) (vs2 := [.rs 0 0 (List.length (x :: r))]) (st2 := [.row (rowS (rowsV (x :: r)))]) (by kernel_rfl) ⟨q, trivial⟩ rfl
      (gc_sh (sh := [.spare 1 0]) (ids := [0]) (by simp only [List.map_cons, List.map_nil, rowS_refs] <;> rfl) (by kernel_rfl) (by show [LObj.ren (fun q => List.idxOf q ([0] : List Nat)) (.row (rowS (rowsV (x :: r))))] = _; (try simp only [rowS_ren]); try rfl))
theorem tSwap {v x : Val} {i : Nat} {j : Int} (hv : okV v) (hi : i < (iV v).length) (hj : j = (i : Int)) : Runs lp 42 [encV v, .p (.int .i64 j), encV x] [] (encV (swapV v i x), []) := by
  subst hj
  obtain ⟨k, n, s, is, ns⟩ := v
  obtain ⟨kx, nx, sx, isx, nsx⟩ := x
  obtain ⟨_, hn, hs, hil, hnl, hns, his⟩ := okV_inv hv
  have hne : is ≠ [] := by rintro rfl; simp [iV] at hi
  exact swp0 (clV hil hne) (by simpa [iV] using hi)
theorem tGrow {v x : Val} {p : List UInt8} (h1 : ((iV v).length + 1) * 80 ≤ 140737488355328) (h2 : ((mV v).length + 1) * 16 ≤ 140737488355328) : Runs lp 51 [encV v, .p (.str p), encV x] [] (encV (growV v p x), []) := by
  obtain ⟨k, n, s, is, ns⟩ := v
  obtain ⟨kx, nx, sx, isx, nsx⟩ := x
  refine ifE (grw0 (clipV) (by simpa [iV] using h1) (fun _ => clipN) (fun _ => by simpa [mV] using h2)) ?_
  simp only [growV]
  by_cases h7 : (k == 7) = true <;> simp [h7]
theorem tDoc0 : Runs lp 50 [.p (.sl []), .p (.sl [])] [] (encV docV0, []) := ⟨30, by kernel_rfl⟩
theorem tNull : Runs lp 52 [] [] (.agg [.p (.int .i64 1), .p (.int .i64 0), .p (.str []), .tight [], .tight []], []) := ⟨30, by kernel_rfl⟩
theorem tSetL {B : Nat} (hB : B ≤ 1000000000) {x : Val} (hx : okW B x) : ∀ (ps : List (List UInt8)) (v : Val), okW B v → mayV v = true → (∀ p ∈ ps, p.length ≤ 140737488351232) → ps.length ≤ 140737488355328 →
    Runs lp 34 [encV v, .p (.sl (rowsN ps)), encV x] [] (.tup [encV (setV ps v x).1, .p (.bool (setV ps v x).2)], [])
  | [], v, hv, hm, hp, hl => by
    obtain ⟨k, n, s, is, ns⟩ := v
    obtain ⟨kx, nx, sx, isx, nsx⟩ := x
    exact tsN
  | p :: r, v, hv, hm, hp, hl => by
    have hp' : ∀ q ∈ r, q.length ≤ 140737488351232 := fun q hq => hp q (List.mem_cons_of_mem _ hq)
    have hl' : r.length ≤ 140737488355328 := by simp at hl; omega
    have hvo := okW_okV (by omega) _ hv
    have hplc := tPlace (st := p) hvo
    rcases place_cases hm p with h | ⟨i, y, h, hi, hym, hy⟩
    · have ih := tSetL hB hx r docV0 okW_doc0 may_docV0 hp' hl'
      have e7 : kV v = 7 → setV (p :: r) v x = (growV v p (setV r docV0 x).1, (setV r docV0 x).2) := fun e => by rw [setV, h, if_neg (by omega), if_pos (by rw [e]; rfl)]
      have e6 : kV v = 6 → setV (p :: r) v x = (growV v [] x, (idxB p).isSome && Option.getD (idxB p) 0 == ((iV v).length : Int) && r.isEmpty) := fun e => by rw [setV, h, if_neg (by omega), if_neg (by rw [e]; decide), if_pos (by rw [e]; rfl)]
      have e0 : kV v ≠ 7 → kV v ≠ 6 → setV (p :: r) v x = (v, false) := fun a b => by rw [setV, h, if_neg (by omega), if_neg (by simpa using a), if_neg (by simpa using b)]
      generalize hS : setV r docV0 x = S at *
      obtain ⟨⟨kY, nY, sY, iY, mY⟩, bY⟩ := S
      obtain ⟨hg1, hg2⟩ : ((iV v).length + 1) * 80 ≤ 140737488355328 ∧ ((mV v).length + 1) * 16 ≤ 140737488355328 := by
        obtain ⟨k, n, s, is, ns⟩ := v
        obtain ⟨_, _, _, a, b, _, _⟩ := okW_inv hv
        simp only [iV, mV]; omega
      have g7 := tGrow (p := p) (x := .mk kY nY sY iY mY) hg1 hg2
      have g6 := tGrow (p := []) (x := x) hg1 hg2
      obtain ⟨k, n, s, is, ns⟩ := v
      obtain ⟨kx, nx, sx, isx, nsx⟩ := x
      have no : ∀ {q : Prop}, decide (placeV (.mk k n s is ns) p ≥ 0) = true → q := fun hP => by rw [h] at hP; simp at hP
      refine ifE (tsC (ke := 0) (ne := 0) (se := []) (ise := []) (nse := []) (Y := .mk kY nY sY iY mY) (bY := bY) (hplc) (fun hP => no hP) (fun hP => no hP) (fun hP => no hP) (fun hP => no hP) (fun hP _ => tDoc0) (fun hP _ => ih) (fun hP _ => g7) (fun hP _ _ => pIx p) (fun hP _ _ => g6)) ?_
      rw [h]
      by_cases h7 : k = 7
      · rw [e7 h7]; subst h7; rfl
      · by_cases h6 : k = 6
        · rw [e6 h6]; subst h6
          simp only [rowsV_len, rowsN_len, kV, iV]
          cases hq : (idxB p).isSome
          · rfl
          · by_cases hj : Option.getD (idxB p) 0 == (is.length : Int)
            · cases r with
              | nil => rw [if_pos rfl, if_pos hj, hj]; rfl
              | cons a b =>
                have e1 : (((List.length (p :: a :: b) : Nat) : Int) == 1) = false := by rw [beq_eq_false_iff_ne]; simp only [List.length_cons]; omega
                rw [if_pos rfl, if_pos hj, hj, e1]; rfl
            · have hj2 : (Option.getD (idxB p) 0 == (is.length : Int)) = false := by simpa using hj
              rw [if_pos rfl, hj2]; rfl
        · rw [e0 h7 h6]
          have a : (k == 7) = false := by simpa using h7
          have b : (k == 6) = false := by simpa using h6
          simp [a, b]
    · have ih := tSetL hB hx r y (okW_items hv hi) hy hp' hl'
      have e : setV (p :: r) v x = (swapV v i (setV r y x).1, (setV r y x).2) := by
        have n2 : ((i : Int) ≥ 0) := by omega
        rw [setV, h, if_pos n2, Int.toNat_natCast, hi]
      rw [e]
      generalize hS : setV r y x = S at *
      obtain ⟨⟨kY, nY, sY, iY, mY⟩, bY⟩ := S
      have sw := tSwap (i := i) (j := placeV v p) (x := .mk kY nY sY iY mY) hvo (List.getElem?_eq_some_iff.1 hi).1 h
      have ht : (placeV v p).toNat = i := by rw [h]; simp
      obtain ⟨k, n, s, is, ns⟩ := v
      obtain ⟨kx, nx, sx, isx, nsx⟩ := x
      obtain ⟨ke, ne, se, ise, nse⟩ := y
      have no : ∀ {q : Prop}, decide (placeV (.mk k n s is ns) p ≥ 0) = false → q := fun hP => by rw [h] at hP; simp at hP <;> omega
      refine ifE (tsC (ke := ke) (ne := ne) (se := se) (ise := ise) (nse := nse) (Y := .mk kY nY sY iY mY) (bY := bY) (hplc) (fun hP => of_decide_eq_true hP) (fun hP => by rw [ht]; exact hi) (fun hP => ih) (fun hP => by rw [ht]; exact sw) (fun hP _ => no hP) (fun hP _ => no hP) (fun hP _ => no hP) (fun hP _ _ => no hP) (fun hP _ _ => no hP)) ?_
      rw [ht, h]
      have : decide ((i : Int) ≥ 0) = true := by simp
      rw [if_pos this]
      rfl
end Go.Proofs.Ytpkmddkodchanaa
