import Derived.Test.YtpkmddkodchanaaLsDrwW
import Derived.Test.YtpkmddkodchanaaLsTre2
import Derived.Test.YtpkmddkodchanaaLsG7
set_option linter.unusedVariables false
set_option linter.unusedSimpArgs false
set_option maxRecDepth 100000
namespace Go.Proofs.Ytpkmddkodchanaa
open Go Go.LS
theorem rClZ {k n : Int} {s : List UInt8} {is : List Val} {ns : List (List UInt8)} (h : Runs lp 17 [encV (.mk k n s is ns)] [] (if (decide (ns = [])) = true then (if (decide (is = [])) = true then (((.agg [.p (.int .i64 k), .p (.int .i64 n), .p (.str s), (.tight []), (.tight [])]), [])) else (((.agg [.p (.int .i64 k), .p (.int .i64 n), .p (.str s), (.rs 0 0 (List.length (α := Val) is)), (.tight [])]), [.row (rowS (rowsV is))]))) else (if (decide (is = [])) = true then (((.agg [.p (.int .i64 k), .p (.int .i64 n), .p (.str s), (.tight []), (.sl (rowsN ns) 0 (List.length (rowsN ns)))]), [.spare 1 (List.length (rowsN ns))])) else (((.agg [.p (.int .i64 k), .p (.int .i64 n), .p (.str s), (.rs 0 0 (List.length (α := Val) is)), (.sl (rowsN ns) 1 (List.length (rowsN ns)))]), [.row (rowS (rowsV is)), .spare 1 (List.length (rowsN ns))]))))) : RunsZ lp 17 [encV (.mk k n s is ns)] [] (encV (.mk k n s is ns), []) := by
  by_cases hN : ns = []
  · subst hN
    by_cases hE : is = []
    · subst hE
      exact Runs.z h rfl rfl rfl
    · rw [if_pos (by rfl), if_neg (by simpa using hE)] at h
      exact Runs.z h (frzV_aggX (X := rowsV is) (a := [.p (.int .i64 k), .p (.int .i64 n), .p (.str s)]) (b := [.tight []]) rfl rfl rfl (rowsV_len is).symm) rfl rfl
  · by_cases hE : is = []
    · subst hE
      rw [if_neg (by simpa using hN), if_pos (by rfl)] at h
      exact Runs.z h rfl rfl rfl
    · rw [if_neg (by simpa using hN), if_neg (by simpa using hE)] at h
      exact Runs.z h (frzV_aggX (X := rowsV is) (a := [.p (.int .i64 k), .p (.int .i64 n), .p (.str s)]) (b := [.sl (rowsN ns) 1 (List.length (rowsN ns))]) rfl rfl rfl (rowsV_len is).symm) rfl rfl
theorem encV_fx (v : Val) : encV v = .agg [.p (.int .i64 (kV v)), .p (.int .i64 (nV v)), .p (.str (sV v)), .p (.sl (rowsV (iV v))), .p (.sl (rowsN (mV v)))] := by obtain ⟨_, _, _, _, _⟩ := v; rfl
theorem nodes_okW : ∀ v, okV v → ∀ d : Int, 0 ≤ d → d ≤ 1000 → nodesV d v < 65536 → okW (nodesV d v).toNat v := by
  refine Val.ind fun k n s is ns ih hok d h0 h1 => ?_
  obtain ⟨hk, hn, hs, hil, hnl, hns, his⟩ := okV_inv hok
  rw [nodesV]
  by_cases hd : d > 40
  · rw [if_pos hd]; intro h; omega
  · rw [if_neg hd, wrap_i64 (by omega) (by omega), wrap_i64 (by omega) (by omega)]
    intro h
    have key : ∀ l, (∀ v ∈ l, v ∈ is) → ∀ m, 1 ≤ m → m ≤ 10000000000000 → nodesL (d + 1) m l < 65536 → m + l.length ≤ nodesL (d + 1) m l ∧ ∀ v ∈ l, okW (nodesL (d + 1) m l).toNat v := by
      intro l
      induction l with
      | nil => intro _ m hm hm2 h; simp only [nodesL]; exact ⟨by simp, by simp⟩
      | cons v r ihr =>
        intro hl m hm hm2 h
        have hv := hl v (List.mem_cons_self ..)
        obtain ⟨b1, b2, b3⟩ := nodes_bounds v (his v hv) (d + 1) (by omega) (by omega)
        have hmm : m < 65536 := by
          rcases Int.lt_or_le m 65536 with h2 | h2
          · exact h2
          · rw [nodesL_big _ _ _ h2] at h; exact h
        rw [nodesL, if_pos hmm, wrap_i64 (by omega) (by omega)] at h ⊢
        have hsm : m + nodesV (d + 1) v < 65536 := by
          rcases Int.lt_or_le (m + nodesV (d + 1) v) 65536 with h2 | h2
          · exact h2
          · rw [nodesL_big _ _ _ h2] at h; exact h
        obtain ⟨c1, c2⟩ := ihr (fun w hw => hl w (List.mem_cons_of_mem _ hw)) (m + nodesV (d + 1) v) (by omega) (by omega) h
        refine ⟨by simp only [List.length_cons]; omega, fun w hw => ?_⟩
        rcases List.mem_cons.1 hw with rfl | hw
        · exact okW_mono (by omega) _ (ih _ hv (his _ hv) (d + 1) (by omega) (by omega) (by omega))
        · exact c2 w hw
    obtain ⟨c1, c2⟩ := key is (fun v h => h) (1 + (ns.length : Int)) (by omega) (by omega) h
    exact okW_mk ⟨hk, hn, hs, by omega, by omega, hns, c2⟩
theorem okW_of {v : Val} (hok : okV v) (h : largeV v = false) : okW 3000 v := by
  simp only [largeV, decide_eq_false_iff_not] at h
  have hb := (nodes_bounds v hok 0 (by omega) (by omega)).1
  exact okW_mono (by omega) _ (nodes_okW v hok 0 (by omega) (by omega) (by omega))
theorem clV {is : List Val} (h : is.length * 80 ≤ 140737488355328) (hne : is ≠ []) : Runs lp 54 [.p (.sl (rowsV is))] [] (.rs 0 0 (List.length is), [.row (rowS (rowsV is))]) := by
  cases is with
  | nil => exact absurd rfl hne
  | cons x r =>
    have q : OpW [] (.appendR 5 80 (.const (.tight [])) (.const (.p (.sl (rowsV (x :: r)))))) (.rs 0 0 (List.length (x :: r))) [.row (rowS (rowsV (x :: r)))] := opIs_appVX (st := []) hne h
    exact runE_sound (N := 100) (os := [(6, oO q)]) (ps := [_]) (vs := [.rs 0 0 (List.length (x :: r))]) (st1 := [.row (rowS (rowsV (x :: r)))]) (vs1 := [.rs 0 0 (List.length (x :: r))]) (s1 := [.row (rowS (rowsV (x :: r)))]) (vs2 := [.rs 0 0 (List.length (x :: r))]) (st2 := [.row (rowS (rowsV (x :: r)))]) (by kernel_rfl) ⟨q, trivial⟩ rfl
      (gc_sh (sh := [.spare 1 0]) (ids := [0]) (by simp only [List.map_cons, List.map_nil, rowS_refs] <;> rfl) (by kernel_rfl) (by show [LObj.ren (fun q => List.idxOf q ([0] : List Nat)) (.row (rowS (rowsV (x :: r))))] = _; (try simp only [rowS_ren]); try rfl))
theorem tSwap {v x : Val} {i : Nat} {j : Int} (hv : okV v) (hi : i < (iV v).length) (hj : j = (i : Int)) : Runs lp 42 [encV v, .p (.int .i64 j), encV x] [] (encV (swapV v i x), []) := by
  subst hj
  obtain ⟨k, n, s, is, ns⟩ := v
  obtain ⟨kx, nx, sx, isx, nsx⟩ := x
  obtain ⟨_, hn, hs, hil, hnl, hns, his⟩ := okV_inv hv
  have hne : is ≠ [] := by rintro rfl; simp [iV] at hi
  exact swp0 (clV hil hne) (by simpa [iV] using hi)
theorem rCl : ∀ v, okV v → ∀ k n s is ns, v = .mk k n s is ns → Runs lp 17 [encV (.mk k n s is ns)] [] (if (decide (ns = [])) = true then (if (decide (is = [])) = true then (((.agg [.p (.int .i64 k), .p (.int .i64 n), .p (.str s), (.tight []), (.tight [])]), [])) else (((.agg [.p (.int .i64 k), .p (.int .i64 n), .p (.str s), (.rs 0 0 (List.length (α := Val) is)), (.tight [])]), [.row (rowS (rowsV is))]))) else (if (decide (is = [])) = true then (((.agg [.p (.int .i64 k), .p (.int .i64 n), .p (.str s), (.tight []), (.sl (rowsN ns) 0 (List.length (rowsN ns)))]), [.spare 1 (List.length (rowsN ns))])) else (((.agg [.p (.int .i64 k), .p (.int .i64 n), .p (.str s), (.rs 0 0 (List.length (α := Val) is)), (.sl (rowsN ns) 1 (List.length (rowsN ns)))]), [.row (rowS (rowsV is)), .spare 1 (List.length (rowsN ns))])))) := by
  refine Val.ind fun k n s is ns ih hok k' n' s' is' ns' heq => ?_
  cases heq
  obtain ⟨_, hn, hs, hil, hnl, hns, his⟩ := okV_inv hok
  have ihz : ∀ y ∈ is, RunsZ lp 17 [encV y] [] (encV y, []) := fun y hy => by
    obtain ⟨ky, ny, sy, iy, my⟩ := y
    exact rClZ (ih _ hy (his _ hy) ky ny sy iy my rfl)
  have lT := loop_each (lp := lp) (k := 0) (L := loopNo lf17 0) (fun i (es : List Val) => tl 0 31 [(1, .ptr 0 0 0), (2, .ptr 1 0 0), (3, .ptr 2 0 0), (4, .p (.int .i64 (i : Int)))])
    (fun i es => if i = 0 then ([.row [[.p (.int .i64 k), .p (.int .i64 n), .p (.str s), (.p (.sl (rowsV is))), (.p (.sl (rowsN ns)))]], .row [[.p (.int .i64 0), .p (.int .i64 0), .p (.str []), (.tight []), (.tight [])]], .row [[.p (.int .i64 k), .p (.int .i64 n), .p (.str s), (.tight []), (.tight [])]]] : List LObj) else ([.row [[.p (.int .i64 k), .p (.int .i64 n), .p (.str s), (.p (.sl (rowsV is))), (.p (.sl (rowsN ns)))]], .row [[.p (.int .i64 0), .p (.int .i64 0), .p (.str []), (.tight []), (.tight [])]], .row [[.p (.int .i64 k), .p (.int .i64 n), .p (.str s), (.rs 3 0 (List.length (α := Val) es)), (.tight [])]], .row (rowS (rowsV es))] : List LObj)) is
    (fun es x => es ++ [x]) (fun es => (.exit 0, tl 0 31 [(2, .ptr 1 0 0), (3, .ptr 2 0 0)], if is.length = 0 then ([.row [[.p (.int .i64 k), .p (.int .i64 n), .p (.str s), (.p (.sl (rowsV is))), (.p (.sl (rowsN ns)))]], .row [[.p (.int .i64 0), .p (.int .i64 0), .p (.str []), (.tight []), (.tight [])]], .row [[.p (.int .i64 k), .p (.int .i64 n), .p (.str s), (.tight []), (.tight [])]]] : List LObj) else ([.row [[.p (.int .i64 k), .p (.int .i64 n), .p (.str s), (.p (.sl (rowsV is))), (.p (.sl (rowsN ns)))]], .row [[.p (.int .i64 0), .p (.int .i64 0), .p (.str []), (.tight []), (.tight [])]], .row [[.p (.int .i64 k), .p (.int .i64 n), .p (.str s), (.rs 3 0 (List.length (α := Val) es)), (.tight [])]], .row (rowS (rowsV es))] : List LObj))) (fun i es => es = is.take i)
    (by
      rintro i es x r hx rfl
      obtain ⟨ke, ne, se, ise, nse⟩ := x
      have hi := (List.getElem?_eq_some_iff.1 hx).1
      have hm := List.mem_of_getElem? hx
      refine ⟨by rw [List.take_add_one, hx]; rfl, fun hr => ?_⟩
      rw [if_neg (by omega)] at hr
      by_cases h0 : i = 0
      · subst h0
        rw [if_pos rfl]
        exact rCtF_y ke ne se ise nse (by rw [rowsV_len]; exact dlt hi) hx (ihz _ hm) (by rw [nx (by omega)]; exact hr)
      · rw [if_neg h0]
        exact rCtR_y ke ne se ise nse (by rw [rowsV_len]; exact dlt hi) hx (ihz _ hm) (by rw [List.length_take]; omega) (by rw [List.length_take]; omega) (by rw [nx (by omega)]; exact hr))
    (by
      rintro es rfl
      by_cases hne0 : is.length = 0
      · simp only [if_pos hne0]
        exact rCtF_n (by rw [rowsV_len]; exact dlt_n)
      · simp only [if_neg hne0]
        exact rCtR_n (by rw [rowsV_len]; exact dlt_n)) [] rfl
  have lR := loop_each (lp := lp) (k := 0) (L := loopNo lf17 0) (fun i (es : List Val) => tl 0 31 [(1, .ptr 0 0 0), (2, .ptr 1 0 0), (3, .ptr 2 0 0), (4, .p (.int .i64 (i : Int)))])
    (fun i es => if i = 0 then ([.row [[.p (.int .i64 k), .p (.int .i64 n), .p (.str s), (.p (.sl (rowsV is))), (.p (.sl (rowsN ns)))]], .row [[.p (.int .i64 0), .p (.int .i64 0), .p (.str []), (.tight []), (.tight [])]], .row [[.p (.int .i64 k), .p (.int .i64 n), .p (.str s), (.tight []), (.sl (rowsN ns) 3 (List.length (rowsN ns)))]], .spare 1 (List.length (rowsN ns))] : List LObj) else ([.row [[.p (.int .i64 k), .p (.int .i64 n), .p (.str s), (.p (.sl (rowsV is))), (.p (.sl (rowsN ns)))]], .row [[.p (.int .i64 0), .p (.int .i64 0), .p (.str []), (.tight []), (.tight [])]], .row [[.p (.int .i64 k), .p (.int .i64 n), .p (.str s), (.rs 3 0 (List.length (α := Val) es)), (.sl (rowsN ns) 4 (List.length (rowsN ns)))]], .row (rowS (rowsV es)), .spare 1 (List.length (rowsN ns))] : List LObj)) is
    (fun es x => es ++ [x]) (fun es => (.exit 0, tl 0 31 [(2, .ptr 1 0 0), (3, .ptr 2 0 0)], if is.length = 0 then ([.row [[.p (.int .i64 k), .p (.int .i64 n), .p (.str s), (.p (.sl (rowsV is))), (.p (.sl (rowsN ns)))]], .row [[.p (.int .i64 0), .p (.int .i64 0), .p (.str []), (.tight []), (.tight [])]], .row [[.p (.int .i64 k), .p (.int .i64 n), .p (.str s), (.tight []), (.sl (rowsN ns) 3 (List.length (rowsN ns)))]], .spare 1 (List.length (rowsN ns))] : List LObj) else ([.row [[.p (.int .i64 k), .p (.int .i64 n), .p (.str s), (.p (.sl (rowsV is))), (.p (.sl (rowsN ns)))]], .row [[.p (.int .i64 0), .p (.int .i64 0), .p (.str []), (.tight []), (.tight [])]], .row [[.p (.int .i64 k), .p (.int .i64 n), .p (.str s), (.rs 3 0 (List.length (α := Val) es)), (.sl (rowsN ns) 4 (List.length (rowsN ns)))]], .row (rowS (rowsV es)), .spare 1 (List.length (rowsN ns))] : List LObj))) (fun i es => es = is.take i)
    (by
      rintro i es x r hx rfl
      obtain ⟨ke, ne, se, ise, nse⟩ := x
      have hi := (List.getElem?_eq_some_iff.1 hx).1
      have hm := List.mem_of_getElem? hx
      refine ⟨by rw [List.take_add_one, hx]; rfl, fun hr => ?_⟩
      rw [if_neg (by omega)] at hr
      by_cases h0 : i = 0
      · subst h0
        rw [if_pos rfl]
        exact rCrF_y ke ne se ise nse (by rw [rowsV_len]; exact dlt hi) hx (ihz _ hm) (by rw [nx (by omega)]; exact hr)
      · rw [if_neg h0]
        exact rCrR_y ke ne se ise nse (by rw [rowsV_len]; exact dlt hi) hx (ihz _ hm) (by rw [List.length_take]; omega) (by rw [List.length_take]; omega) (by rw [nx (by omega)]; exact hr))
    (by
      rintro es rfl
      by_cases hne0 : is.length = 0
      · simp only [if_pos hne0]
        exact rCrF_n (by rw [rowsV_len]; exact dlt_n)
      · simp only [if_neg hne0]
        exact rCrR_n (by rw [rowsV_len]; exact dlt_n)) [] rfl
  have hf : ∀ (l a : List Val), l.foldl (fun es x => es ++ [x]) a = a ++ l := by
    intro l
    induction l with
    | nil => intro a; simp
    | cons x r ihr => intro a; simp only [List.foldl_cons, ihr]; simp
  rw [hf, List.nil_append, if_pos rfl] at lT
  rw [hf, List.nil_append, if_pos rfl] at lR
  have hE : decide (is = []) = true → is.length = 0 := fun h => by rw [of_decide_eq_true h]; rfl
  have hN : decide (is = []) = false → ¬ is.length = 0 := fun h e => of_decide_eq_false h (List.length_eq_zero_iff.1 e)
  exact rCl0 (fun hM hI => by have := lT; rw [if_pos (hE hI)] at this; have e := of_decide_eq_true hI; have e2 := of_decide_eq_true hM; subst e; subst e2; exact this) (fun hM hI => by have := lT; rw [if_neg (hN hI)] at this; have e2 := of_decide_eq_true hM; subst e2; exact this) (fun hM => hnl) (fun hM hI => by have := lR; rw [if_pos (hE hI)] at this; have e := of_decide_eq_true hI; subst e; exact this) (fun hM hI => by have := lR; rw [if_neg (hN hI)] at this; exact this)
theorem rCloneZ {v : Val} (h : okV v) : RunsZ lp 17 [encV v] [] (encV v, []) := by
  obtain ⟨k, n, s, is, ns⟩ := v
  exact rClZ (rCl _ h k n s is ns rfl)
theorem rWith {v x : Val} {i : Nat} {j : Int} {nm : List UInt8} (hv : okV v) (hj : j = (i : Int)) (h1 : ((iV v).length + 1) * 80 ≤ 140737488355328) (h2 : ((mV v).length + 1) * 16 ≤ 140737488355328) :
    Runs lp 37 [encV v, .p (.int .i64 j), .p (.str nm), encV x] [] (encV (if i < (iV v).length then swapV v i x else growV v nm x), []) := by
  subst hj
  obtain ⟨k, n, s, is, ns⟩ := v
  obtain ⟨kx, nx, sx, isx, nsx⟩ := x
  have c := rCl _ hv k n s is ns rfl
  refine ifE (wth0 (fun hI hM => by rw [if_pos hM, if_pos hI] at c; exact c) (fun hI hM => by rw [if_neg (by rw [hM]; decide), if_pos hI] at c; exact c) (fun hI hM _ => by simpa [mV] using h2) (fun hI hM => by rw [if_pos hM, if_neg (by rw [hI]; decide)] at c; exact c) (fun hI hM hL => by have := of_decide_eq_true hL; omega) (fun hI hM hL => by have := of_decide_eq_false hI; rcases is with _ | ⟨a, b⟩; exact absurd rfl this; simp) (fun hI hM hL => by simpa [iV] using h1) (fun hI hM => by rw [if_neg (by rw [hM]; decide), if_neg (by rw [hI]; decide)] at c; exact c) (fun hI hM hL => by have := of_decide_eq_true hL; omega) (fun hI hM hL => by have := of_decide_eq_false hI; rcases is with _ | ⟨a, b⟩; exact absurd rfl this; simp) (fun hI hM hL => by simpa [iV] using h1) (fun hI hM hL _ => by simpa [mV] using h2)) ?_
  simp only [iV, growV, swapV]
  by_cases hE : is = []
  · subst hE
    by_cases hN : ns = []
    · subst hN; cases h7 : (k == 7) <;> simp <;> rfl
    · rw [decide_eq_false hN]; cases h7 : (k == 7) <;> simp
  · rw [decide_eq_false hE]
    have hpos : 0 < is.length := by rcases is with _ | ⟨a, b⟩; exact absurd rfl hE; simp
    by_cases hlt : i < is.length
    · have : decide ((i : Int) < (is.length : Int)) = true := by simp; omega
      rw [this]
      by_cases hN : ns = []
      · subst hN; simp [hlt]; rfl
      · rw [decide_eq_false hN]; simp [hlt]
    · have : decide ((i : Int) < (is.length : Int)) = false := by simp; omega
      rw [this]
      by_cases hN : ns = []
      · subst hN; cases h7 : (k == 7) <;> simp [hlt] <;> rfl
      · rw [decide_eq_false hN]; cases h7 : (k == 7) <;> simp [hlt]
end Go.Proofs.Ytpkmddkodchanaa
