/- The order of values: the program and the document tell it alike. -/
import Derived.Test.YthhcdjhdpbkgnaaLsVal4W
import Derived.Test.YthhcdjhdpbkgnaaLsG6
set_option linter.unusedVariables false
set_option maxRecDepth 100000
set_option linter.unusedSimpArgs false
namespace Go.Proofs.Ythhcdjhdpbkgnaa
open Go Go.LS

theorem vCmpI {a b : Int} : Runs lp 57 [.p (.int .i64 a), .p (.int .i64 b)] [] (.p (.int .i64 (ordI a b)), []) := by
  refine ifE vCmpI0 ?_
  unfold ordI
  by_cases h : a < b
  · simp [h]
  · by_cases h2 : a > b <;> simp [h, h2]
theorem vStr {s t : List UInt8} : Runs lp 58 [.p (.str s), .p (.str t)] [] (.p (.int .i64 (ordS s t)), []) :=
  ifE (vStr0 ⟨1, rfl⟩) (by rw [compareBytes_eq, ordS_eq])
theorem or_pick {a b c d : Int} (h : (if (a == 0) = true then (if (b == 0) = true then c else b) else a) = d) : Runs lp 56 [.p (.sl [[.int .i64 a], [.int .i64 b], [.int .i64 c]])] [] (.p (.int .i64 d), []) := by
  refine ifE vOr0 ?_
  rw [← h]
  by_cases h1 : a = 0 <;> by_cases h2 : b = 0 <;> by_cases h3 : c = 0 <;> simp [h1, h2, h3]
theorem minE {is isp : List Val} : (if ((List.length (rowsV isp) : Nat) : Int) < ((List.length (rowsV is) : Nat) : Int) then ((List.length (rowsV isp) : Nat) : Int) else ((List.length (rowsV is) : Nat) : Int)) = ((min is.length isp.length : Nat) : Int) := by
  rw [rowsV_len, rowsV_len]; split <;> omega
theorem head_drop {α : Type} (l : List α) (d : α) (i : Nat) : (l.drop i).headD d = l.getD i d := by
  rw [List.headD_eq_head?_getD, List.head?_drop, List.getD_eq_getElem?_getD]
theorem names_of_may {k n : Int} {s : List UInt8} {is : List Val} {ns : List (List UInt8)} (h : mayV (.mk k n s is ns) = true) (hk : (k == 7) = true) : ns.length = is.length := by
  have hk : k = 7 := eq_of_beq hk
  rcases kinds (mayV_inv h).2 with h | h | h | h | h | h | h <;> simp_all

theorem vCmp_loop {k n kp np : Int} {s sp : List UInt8} {is isp : List Val} {ns nsp : List (List UInt8)} (hl : is.length ≤ 140737488355328) (hlp : isp.length ≤ 140737488355328)
    (hc : ∀ v ∈ is, ∀ w ∈ isp, Runs lp 45 [encV v, encV w] [] (.p (.int .i64 (cmpV v w)), [])) (hn : (k == 7) = true → ns.length = is.length ∧ nsp.length = isp.length) :
    ∀ j i, j + i = min is.length isp.length → LoopN lp 0 (loopNo lf45 0) (tl 0 78 [(2, .ptr 0 0 0), (3, .ptr 1 0 0), (35, .p (.int .i64 ((min is.length isp.length : Nat) : Int))), (36, .p (.int .i64 (i : Int)))]) [.row [[.p (.int .i64 k), .p (.int .i64 n), .p (.str s), .p (.sl (rowsV is)), .p (.sl (rowsN ns))]], .row [[.p (.int .i64 kp), .p (.int .i64 np), .p (.str sp), .p (.sl (rowsV isp)), .p (.sl (rowsN nsp))]]]
      (match cmpL (k == 7) (is.drop i) (isp.drop i) (ns.drop i) (nsp.drop i) with
       | some c => (.ret, tl 0 78 [(4, .p (.int .i64 c))], [.row [[.p (.int .i64 k), .p (.int .i64 n), .p (.str s), .p (.sl (rowsV is)), .p (.sl (rowsN ns))]], .row [[.p (.int .i64 kp), .p (.int .i64 np), .p (.str sp), .p (.sl (rowsV isp)), .p (.sl (rowsN nsp))]]])
       | none => (.exit 0, tl 0 78 [(2, .ptr 0 0 0), (3, .ptr 1 0 0)], [.row [[.p (.int .i64 k), .p (.int .i64 n), .p (.str s), .p (.sl (rowsV is)), .p (.sl (rowsN ns))]], .row [[.p (.int .i64 kp), .p (.int .i64 np), .p (.str sp), .p (.sl (rowsV isp)), .p (.sl (rowsN nsp))]]])) := by
  intro j
  induction j with
  | zero =>
    intro i h
    have e : cmpL (k == 7) (is.drop i) (isp.drop i) (ns.drop i) (nsp.drop i) = none := by
      rcases Nat.le_total is.length isp.length with h' | h'
      · rw [show is.drop i = [] from List.drop_eq_nil_of_le (by omega)]; cases isp.drop i <;> rfl
      · rw [show isp.drop i = [] from List.drop_eq_nil_of_le (by omega)]; cases is.drop i <;> rfl
    rw [e]
    exact vCmpR_n (decide_eq_false (by omega))
  | succ j ih =>
    intro i h
    have hi : i < is.length := by omega
    have hj : i < isp.length := by omega
    have hx : is[i]? = some is[i] := List.getElem?_eq_getElem hi
    have hy : isp[i]? = some isp[i] := List.getElem?_eq_getElem hj
    have ihh := ih (i + 1) (by omega)
    have hcc := hc is[i] (List.getElem_mem _) isp[i] (List.getElem_mem _)
    rw [drop_get hx, drop_get hy, cmpL, head_drop, head_drop, List.tail_drop, List.tail_drop]
    revert hcc hx hy
    obtain ⟨ke, ne, se, ise, nse⟩ := is[i]
    obtain ⟨kf, nf, sf, isf, nsf⟩ := isp[i]
    intro hx hy hcc
    cases h7 : (k == 7) with
    | true =>
      obtain ⟨n1, n2⟩ := hn h7
      rw [h7] at ihh
      by_cases c1 : ordS (ns.getD i []) (nsp.getD i []) = 0
      · rw [if_neg (by rw [c1]; simp)]
        by_cases c2 : cmpV (.mk ke ne se ise nse) (.mk kf nf sf isf nsf) = 0
        · rw [if_neg (by rw [c2]; simp)]
          exact vCmpR_yyyy ke ne se ise nse kf nf sf isf nsf (decide_eq_true (by omega)) h7 (by omega) (by omega) vStr (beq_iff_eq.2 c1) hx hy hcc (beq_iff_eq.2 c2) (by rw [nx (by omega)]; exact ihh)
        · rw [if_pos c2]
          exact vCmpR_yyyn ke ne se ise nse kf nf sf isf nsf (decide_eq_true (by omega)) h7 (by omega) (by omega) vStr (beq_iff_eq.2 c1) hx hy hcc (beq_eq_false_iff_ne.2 c2)
      · rw [if_pos ⟨rfl, c1⟩]
        exact vCmpR_yyn (decide_eq_true (by omega)) h7 (by omega) (by omega) vStr (beq_eq_false_iff_ne.2 c1)
    | false =>
      rw [h7] at ihh
      rw [if_neg (by simp)]
      by_cases c2 : cmpV (.mk ke ne se ise nse) (.mk kf nf sf isf nsf) = 0
      · rw [if_neg (by rw [c2]; simp)]
        exact vCmpR_yny ke ne se ise nse kf nf sf isf nsf (decide_eq_true (by omega)) h7 hx hy hcc (beq_iff_eq.2 c2) (by rw [nx (by omega)]; exact ihh)
      · rw [if_pos c2]
        exact vCmpR_ynn ke ne se ise nse kf nf sf isf nsf (decide_eq_true (by omega)) h7 hx hy hcc (beq_eq_false_iff_ne.2 c2)

theorem vCmp : ∀ v, okV v → mayV v = true → ∀ w, okV w → mayV w = true → Runs lp 45 [encV v, encV w] [] (.p (.int .i64 (cmpV v w)), []) := by
  refine Val.ind fun k n s is ns ih hok hm w hokw hmw => ?_
  obtain ⟨kp, np, sp, isp, nsp⟩ := w
  obtain ⟨_, _, _, hil, _, _, his⟩ := okV_inv hok
  obtain ⟨_, _, _, hilp, _, _, hisp⟩ := okV_inv hokw
  have hc : ∀ v ∈ is, ∀ w ∈ isp, Runs lp 45 [encV v, encV w] [] (.p (.int .i64 (cmpV v w)), []) := fun v hv w hw => ih v hv (his v hv) ((mayV_inv hm).1 v hv) w (hisp w hw) ((mayV_inv hmw).1 w hw)
  by_cases e1 : ordI k kp = 0
  · have e1' := ordI_zero.1 e1
    subst e1'
    have l := vCmp_loop (k := k) (n := n) (kp := k) (np := np) (s := s) (sp := sp) (ns := ns) (nsp := nsp) (by omega) (by omega) hc (fun h7 => ⟨names_of_may hm h7, names_of_may hmw h7⟩) (min is.length isp.length) 0 rfl
    simp only [List.drop_zero] at l
    cases hcl : cmpL (k == 7) is isp ns nsp with
    | some c =>
      rw [hcl] at l
      refine ifE (vCmp0 (metC := true) (cc := c) vCmpI vCmpI vStr (fun _ _ => (or_pick (by simp_all))) (fun _ _ _ hm0 => (by rw [minE]; exact l)) (fun _ _ _ hm0 => (by cases hm0)) (fun _ _ _ _ => vCmpI) (fun _ _ => (or_pick (by simp_all))) (fun _ => (or_pick (by simp_all)))) ?_
      rw [cmpV, hcl]
      by_cases e2 : ordI n np = 0 <;> by_cases e3 : ordS s sp = 0 <;> simp [e1, e2, e3, rowsV_len]
    | none =>
      rw [hcl] at l
      refine ifE (vCmp0 (metC := false) (cc := 0) vCmpI vCmpI vStr (fun _ _ => (or_pick (by simp_all))) (fun _ _ _ hm0 => (by cases hm0)) (fun _ _ _ hm0 => (by rw [minE]; exact l)) (fun _ _ _ _ => vCmpI) (fun _ _ => (or_pick (by simp_all))) (fun _ => (or_pick (by simp_all)))) ?_
      rw [cmpV, hcl]
      by_cases e2 : ordI n np = 0 <;> by_cases e3 : ordS s sp = 0 <;> simp [e1, e2, e3, rowsV_len]
  · refine ifE (vCmp0 (metC := false) (cc := 0) vCmpI vCmpI vStr (fun _ _ => (or_pick (by simp_all))) (fun _ _ _ hm0 => (by cases hm0)) (fun _ _ _ hm0 => (by simp_all)) (fun _ _ _ _ => vCmpI) (fun _ _ => (or_pick (by simp_all))) (fun _ => (or_pick (by simp_all)))) ?_
    rw [cmpV, if_pos e1]
    simp [e1]

theorem vCompare (v w : Val) (h1 : okV v) (h2 : okV w) : Runs lp 22 [encV v, encV w] [] (.p (.int .i64 (cmp0V v w)), []) := by
  obtain ⟨k, n, s, is, ns⟩ := v
  obtain ⟨kp, np, sp, isp, nsp⟩ := w
  refine ifE (vCompare0 (vMay _ h1) (vMay _ h2) (fun m1 m2 => vCmp _ h1 m1 _ h2 m2)) ?_
  unfold cmp0V
  cases mayV (.mk k n s is ns) <;> cases mayV (.mk kp np sp isp nsp) <;> rfl
end Go.Proofs.Ythhcdjhdpbkgnaa
