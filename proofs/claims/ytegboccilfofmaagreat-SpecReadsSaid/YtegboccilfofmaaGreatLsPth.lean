import Derived.Test.YtegboccilfofmaaGreatLsPthW
set_option linter.unusedVariables false
set_option maxRecDepth 100000
set_option linter.unusedSimpArgs false
namespace Go.Proofs.YtegboccilfofmaaGreat
open Go Go.LS
def T7 (ns : List (List UInt8)) : Bool := decide (1 ≤ ns.length) && decide (ns.length ≤ 8) && ns.all A2
theorem Dq {ns : List (List UInt8)} {i : Nat} {x : List UInt8} (h : ns[i]? = some x) : ns.getD i [] = x := by rw [List.getD, h]; rfl
theorem pIdxL {ns : List (List UInt8)} (hl : ns.length ≤ 140737488355328) : ∀ (j i : Nat), i + j = ns.length → ∃ m : Nat, LoopN lp 0 (Ac Nl 0) (tl 0 19 [(0, .p (.sl (Ab ns))), (1, .fn (.func 78) [] []), (7, .p (.int .i64 ((List.length (Ab ns) : Nat) : Int))), (8, .p (.int .i64 (i : Int)))]) []
  (if (ns.drop i).all A2 = true then (.exit 0, tl 0 19 [], []) else (.ret, tl 0 19 [(4, .p (.int .i64 (m : Int)))], [])) := by
 intro j
 induction j with
 | zero =>
  intro i h
  obtain rfl : i = ns.length := by omega
  rw [List.drop_length]
  exact ⟨0, pIdxR_n (by rw [Aq]; exact B8)⟩
 | succ j ih =>
  intro i h
  have hi : i < ns.length := by omega
  have hx : ns[i]? = some ns[i] := List.getElem?_eq_getElem hi
  have e := Dq hx
  rw [Ch hx, List.all_cons]
  cases hp : A2 ns[i] with
  | true =>
   obtain ⟨m, hm⟩ := ih (i + 1) (by omega)
   exact ⟨m, Yf (by rw [Aq]; exact dlt hi) hi (pMay1 (Xx _)) (by rw [e]; exact hp) (by rw [nx (by omega)]; exact hm)⟩
  | false => exact ⟨i, Yg (by rw [Aq]; exact dlt hi) hi (pMay1 (Xx _)) (by rw [e]; exact hp)⟩
theorem pCon {ns : List (List UInt8)} (hl : ns.length ≤ 140737488355328) : Runs lp 80 [.p (.sl (Ab ns)), .fn (.func 78) [] []] [] (.p (.bool (!(List.all ns A2))), []) := by
 obtain ⟨m, l⟩ := pIdxL hl ns.length 0 (by omega)
 rw [List.drop_zero] at l
 have hi := @pIdx0 ns m (fun h => by rw [h] at l; exact l) (fun h => by rw [h] at l; exact l)
 have h := @pCon0 ns m (fun h => by rw [h] at hi; exact hi) (fun h => by rw [h] at hi; exact hi)
 refine ifE h ?_
 cases ns.all A2
 ·simp
 ·simp
theorem pMay {ns : List (List UInt8)} (hl : ns.length ≤ 140737488355328) : Runs lp 54 [.p (.sl (Ab ns))] [] (.p (.bool (T7 ns)), []) := by
 refine ifE (pMay0 (fun _ _ => pCon hl)) ?_
 rw [Aq]
 unfold T7
 by_cases h1 : 1 ≤ ns.length
 ·by_cases h2 : ns.length ≤ 8
  ·have e1 : decide (((ns.length : Nat) : Int) ≥ 1) = true := decide_eq_true (by omega)
   have e2 : decide (((ns.length : Nat) : Int) ≤ 8) = true := decide_eq_true (by omega)
   rw [e1, e2]; simp [h1, h2]
  ·have e1 : decide (((ns.length : Nat) : Int) ≥ 1) = true := decide_eq_true (by omega)
   have e2 : decide (((ns.length : Nat) : Int) ≤ 8) = false := decide_eq_false (by omega)
   rw [e1, e2]; simp [h2]
 ·have e1 : decide (((ns.length : Nat) : Int) ≥ 1) = false := decide_eq_false (by omega)
  rw [e1]; simp [h1]
theorem rpMayL {ns : List (List UInt8)} (hl : ns.length ≤ 140737488355328) (hs : ∀ x ∈ ns, x.length ≤ 140737488355328) : ∀ (j i : Nat), i + j = ns.length → LoopN lp 0 (Ac Ni 0) (tl 0 24 [(0, .p (.sl (Ab ns))), (3, .p (.int .i64 (i : Int)))]) []
  (if (ns.drop i).all A2 = true then (.exit 0, (tl 0 24 [(0, (.p (.sl (Ab ns))))]), []) else (.ret, (tl 0 24 [(2, .p (.bool false))]), [])) := by
 intro j
 induction j with
 | zero =>
  intro i h
  obtain rfl : i = ns.length := by omega
  rw [List.drop_length]
  exact Yh (by rw [Aq]; exact B8)
 | succ j ih =>
  intro i h
  have hi : i < ns.length := by omega
  have hx : ns[i]? = some ns[i] := List.getElem?_eq_getElem hi
  have e := Dq hx
  have hm := hs _ (List.mem_of_getElem? hx)
  rw [Ch hx, List.all_cons]
  cases hp : A2 ns[i] with
  | true => exact U9 (by rw [Aq]; exact dlt hi) hi (T4 _ (by rw [e]; exact hm)) (by rw [e]; exact hp) (by rw [nx (by omega)]; exact ih (i + 1) (by omega))
  | false => exact Va (by rw [Aq]; exact dlt hi) hi (T4 _ (by rw [e]; exact hm)) (by rw [e]; exact hp)
theorem rpMay {ns : List (List UInt8)} (hl : ns.length ≤ 140737488355328) (hs : ∀ x ∈ ns, x.length ≤ 140737488355328) : Runs lp 88 [.p (.sl (Ab ns))] [] (.p (.bool (T7 ns)), []) := by
 have l := rpMayL hl hs ns.length 0 (by omega)
 rw [List.drop_zero] at l
 refine ifE (rpMay0 (fun h => by rw [h] at l; exact l) (fun h => by rw [h] at l; exact l)) ?_
 rw [Aq]
 unfold T7
 cases ns.all A2 with
 | false => simp
 | true =>
  by_cases h1 : 1 ≤ ns.length
  ·have e1 : decide (((ns.length : Nat) : Int) ≥ 1) = true := decide_eq_true (by omega)
   rw [e1]; simp [h1]; omega
  ·have e1 : decide (((ns.length : Nat) : Int) ≥ 1) = false := decide_eq_false (by omega)
   rw [e1]; simp [h1]
theorem rpBegL {ns ms : List (List UInt8)} (hl : ns.length ≤ 140737488355328) : ∀ (j i : Nat), i + j = ns.length → LoopN lp 0 (Ac Ml 0) (tl 0 27 [(0, .p (.sl (Ab ns))), (1, .p (.sl (Ab ms))), (5, .p (.int .i64 (i : Int)))]) []
  (if List.isPrefixOf (ns.drop i) (ms.drop i) = true then (.exit 0, (tl 0 27 []), []) else (.ret, (tl 0 27 [(4, .p (.bool false))]), [])) := by
 intro j
 induction j with
 | zero =>
  intro i h
  obtain rfl : i = ns.length := by omega
  rw [List.drop_length]
  exact Yi (by rw [Aq]; exact B8)
 | succ j ih =>
  intro i h
  have hi : i < ns.length := by omega
  have hx : ns[i]? = some ns[i] := List.getElem?_eq_getElem hi
  have e := Dq hx
  by_cases hm : i < ms.length
  ·have hy : ms[i]? = some ms[i] := List.getElem?_eq_getElem hm
   have e' := Dq hy
   rw [Ch hx, Ch hy, List.isPrefixOf]
   cases hp : (ns[i] == ms[i]) with
   | true => exact St (by rw [Aq]; exact dlt hi) (by rw [Aq]; exact decide_eq_false (by omega)) hi hm (by rw [e, e']; exact hp) (by rw [nx (by omega)]; exact ih (i + 1) (by omega))
   | false => exact Su (by rw [Aq]; exact dlt hi) (by rw [Aq]; exact decide_eq_false (by omega)) hi hm (by rw [e, e']; exact hp)
  ·rw [Ch hx, List.drop_eq_nil_of_le (by omega : ms.length ≤ i)]
   exact Vb (by rw [Aq]; exact dlt hi) (by rw [Aq]; exact decide_eq_true (by omega))
theorem Yj {ns ms : List (List UInt8)} (hl : ns.length ≤ 140737488355328) : Runs lp 30 [.p (.sl (Ab ns)), .p (.sl (Ab ms))] [] (.p (.bool (List.isPrefixOf ns ms)), []) := by
 have l := rpBegL (ms := ms) hl ns.length 0 (by omega)
 rw [List.drop_zero, List.drop_zero] at l
 refine ifE (rpBeg0 (fun h => by rw [h] at l; exact l) (fun h => by rw [h] at l; exact l)) ?_
 cases List.isPrefixOf ns ms <;> simp
theorem pEqL {ns ms : List (List UInt8)} (hl : ns.length ≤ 140737488355328) (hlm : ns.length = ms.length) : ∀ (j i : Nat), i + j = ns.length → LoopN lp 0 (Ac Nk 0) (tl 0 26 [(0, .p (.sl (Ab ns))), (1, .p (.sl (Ab ms))), (12, .p (.int .i64 ((List.length (Ab ns) : Nat) : Int))), (13, .p (.int .i64 (i : Int)))]) []
  (if (ns.drop i == ms.drop i) = true then (.exit 0, (tl 0 26 []), []) else (.ret, (tl 0 26 [(4, .p (.bool false))]), [])) := by
 intro j
 induction j with
 | zero =>
  intro i h
  obtain rfl : i = ns.length := by omega
  rw [List.drop_length, List.drop_eq_nil_of_le (by omega : ms.length ≤ ns.length)]
  exact pEqR_n (by rw [Aq]; exact B8)
 | succ j ih =>
  intro i h
  have hi : i < ns.length := by omega
  have hm : i < ms.length := by omega
  have hx : ns[i]? = some ns[i] := List.getElem?_eq_getElem hi
  have hy : ms[i]? = some ms[i] := List.getElem?_eq_getElem hm
  have e := Dq hx
  have e' := Dq hy
  rw [Ch hx, Ch hy, List.cons_beq_cons]
  cases hp : (ns[i] == ms[i]) with
  | true => exact pEqR_yy (by rw [Aq]; exact dlt hi) hi hm (by rw [e, e']; exact hp) (by rw [nx (by omega)]; exact ih (i + 1) (by omega))
  | false => exact pEqR_yn (by rw [Aq]; exact dlt hi) hi hm (by rw [e, e']; exact hp)
theorem pEq {ns ms : List (List UInt8)} (hl : ns.length ≤ 140737488355328) : Runs lp 96 [.p (.sl (Ab ns)), .p (.sl (Ab ms))] [] (.p (.bool (ns == ms)), []) := by
 have hb : ((((List.length (Ab ns) : Nat) : Int)) == ((List.length (Ab ms) : Nat) : Int)) = decide (ns.length = ms.length) := by
  rw [Aq, Aq]; by_cases h : ns.length = ms.length <;> simp [h]; omega
 by_cases hlm : ns.length = ms.length
 ·have l := pEqL hl hlm ns.length 0 (by omega)
  rw [List.drop_zero, List.drop_zero] at l
  refine ifE (pEq0 (fun _ h => by rw [h] at l; exact l) (fun _ h => by rw [h] at l; exact l)) ?_
  rw [hb]
  cases (ns == ms) <;> simp [hlm]
 ·have hne : (ns == ms) = false := by simpa using fun h => hlm (by rw [h])
  refine ifE (pEq0 (fun h => by rw [hb] at h; exact absurd (of_decide_eq_true h) hlm) (fun h => by rw [hb] at h; exact absurd (of_decide_eq_true h) hlm)) ?_
  rw [hb, hne]; simp [hlm]
theorem Km : ∀ (a b : List (List UInt8)), List.isPrefixOf a b = (decide (a.length ≤ b.length) && (a == b.take a.length))
 | [], b => by cases b <;> simp
 | x :: a, [] => by simp [List.isPrefixOf]
 | x :: a, y :: b => by
  have := Km a b
  rw [List.isPrefixOf, this]
  simp only [List.length_cons, List.take_succ_cons, List.cons_beq_cons, Nat.add_le_add_iff_right]
  cases (x == y) <;> simp
theorem T8 {ns ms : List (List UInt8)} (hl : ns.length ≤ 140737488355328) : Runs lp 77 [.p (.sl (Ab ns)), .p (.sl (Ab ms))] [] (.p (.bool (List.isPrefixOf ns ms)), []) := by
 have hd : decide (((List.length (Ab ns) : Nat) : Int) ≤ ((List.length (Ab ms) : Nat) : Int)) = decide (ns.length ≤ ms.length) := by
  rw [Aq, Aq]; by_cases h : ns.length ≤ ms.length
  ·rw [decide_eq_true h]; exact decide_eq_true (by omega)
  ·rw [decide_eq_false h]; exact decide_eq_false (by omega)
 refine ifE (pBeg0 (fun h => by rw [hd] at h; have := of_decide_eq_true h; rw [Aq]; exact this) (fun h => pEq hl)) ?_
 rw [hd, Km, Aq]
 by_cases h : ns.length ≤ ms.length <;> simp [h]
theorem pMeet {ns ms : List (List UInt8)} (hl : ns.length ≤ 140737488355328) (hm : ms.length ≤ 140737488355328) : Runs lp 53 [.p (.sl (Ab ns)), .p (.sl (Ab ms))] [] (.p (.bool (List.isPrefixOf ns ms || List.isPrefixOf ms ns)), []) := by
 refine ifE (pMeet0 (T8 hl) (fun _ => T8 hm)) ?_
 cases List.isPrefixOf ns ms <;> simp
theorem Yk {ns ms : List (List UInt8)} (hl : ns.length ≤ 140737488355328) : Runs lp 35 [.p (.sl (Ab ns)), .p (.sl (Ab ms))] [] (.p (.bool (ns == ms)), []) := by
 refine ifE (rpSame0 (fun _ => Yj hl)) ?_
 rw [Km, Aq, Aq]
 by_cases h : ns.length = ms.length
 ·have e : ((((ns.length : Nat) : Int)) == ((ms.length : Nat) : Int)) = true := by simp [h]
  rw [e]; simp [h]
 ·have e : ((((ns.length : Nat) : Int)) == ((ms.length : Nat) : Int)) = false := by simp; omega
  have e2 : (ns == ms) = false := by simpa using fun q => h (by rw [q])
  rw [e, e2]; simp
end Go.Proofs.YtegboccilfofmaaGreat
