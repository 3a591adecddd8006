import Derived.Test.YtegboccilfofmaaGreatLsAb
import Derived.Test.YtegboccilfofmaaGreatLsVal3
import Derived.Test.YtegboccilfofmaaGreatLsG5
set_option linter.unusedVariables false
set_option maxRecDepth 100000
namespace Go.Proofs.YtegboccilfofmaaGreat
open Go Go.LS
theorem pMay1 {s : BY} (w1 : Runs lp 79 [pT s] [] (pB (A2 s), [])) :
  Runs lp 78 [pT s] [] ((pB (!(A2 s)), [])) := by
 exact
  rO [(2, oC w1)] [_] (by kernel_rfl) ⟨w1, trivial⟩
theorem Yf {ns : BL} {i : Nat} (c1 : (decide ((i : Int) < ((List.length (Ab ns) : Nat) : Int))) = true) (h2 : i < List.length ns) (h3 : Runs lp 78 [pT (List.getD (α := BY) ns i [])] [] (pB (!(A2 (List.getD (α := BY) ns i []))), [])) (c4 : (A2 (List.getD (α := BY) ns i [])) = true) {r : RL} (hr : LoopN lp 0 (Ac Nl 0) (tl 0 19 [(0, pN ns), (1, .fn (.func 78) [] []), (7, pI ((List.length (Ab ns) : Nat) : Int)), (8, pI (IntKind.wrap .i64 ((i : Int) + 1)))]) [] r) :
  LoopN lp 0 (Ac Nl 0) (tl 0 19 [(0, pN ns), (1, .fn (.func 78) [] []), (7, pI ((List.length (Ab ns) : Nat) : Int)), (8, pI (i : Int))]) [] r :=
 have q1 : OpE [] (.indexAddr 1 (.const (pN ns)) (.const (pI (i : Int)))) (.pin [.str (List.getD (α := BY) ns i [])] 0) := (Ao rfl rfl (A1 h2) rfl)
 lO [(1, .b true), (5, oO q1), (1, oC h3), (0, .b false)] [_, _, _, _] (by kernel_rfl) ⟨cI c1, q1, h3, (cI (Ae c4)), trivial⟩ hr
theorem Yg {ns : BL} {i : Nat} (c1 : (decide ((i : Int) < ((List.length (Ab ns) : Nat) : Int))) = true) (h2 : i < List.length ns) (h3 : Runs lp 78 [pT (List.getD (α := BY) ns i [])] [] (pB (!(A2 (List.getD (α := BY) ns i []))), [])) (c4 : (A2 (List.getD (α := BY) ns i [])) = false) :
  LoopN lp 0 (Ac Nl 0) (tl 0 19 [(0, pN ns), (1, .fn (.func 78) [] []), (7, pI ((List.length (Ab ns) : Nat) : Int)), (8, pI (i : Int))]) [] (.ret, (tl 0 19 [(4, pI (i : Int))]), []) :=
 have q1 : OpE [] (.indexAddr 1 (.const (pN ns)) (.const (pI (i : Int)))) (.pin [.str (List.getD (α := BY) ns i [])] 0) := (Ao rfl rfl (A1 h2) rfl)
 lX [(1, .b true), (5, oO q1), (1, oC h3), (0, .b true)] [_, _, _, _] (by kernel_rfl) (by kernel_rfl) ⟨cI c1, q1, h3, (cI (Ae c4)), trivial⟩
theorem pIdxR_n {ns : BL} {i : Nat} (c1 : (decide ((i : Int) < ((List.length (Ab ns) : Nat) : Int))) = false) :
  LoopN lp 0 (Ac Nl 0) (tl 0 19 [(0, pN ns), (1, .fn (.func 78) [] []), (7, pI ((List.length (Ab ns) : Nat) : Int)), (8, pI (i : Int))]) [] (.exit 0, (tl 0 19 []), []) :=
 lX [(1, .b false)] [_] (by kernel_rfl) (by kernel_rfl) ⟨cI c1, trivial⟩
theorem pIdx0 {ns : BL} {i : Nat} (w1 : (ns.all A2) = true → LoopN lp 0 (Ac Nl 0) (tl 0 19 [(0, pN ns), (1, .fn (.func 78) [] []), (7, pI ((List.length (Ab ns) : Nat) : Int)), (8, pI 0)]) [] (.exit 0, (tl 0 19 []), [])) (w2 : (ns.all A2) = false → LoopN lp 0 (Ac Nl 0) (tl 0 19 [(0, pN ns), (1, .fn (.func 78) [] []), (7, pI ((List.length (Ab ns) : Nat) : Int)), (8, pI 0)]) [] (.ret, (tl 0 19 [(4, pI (i : Int))]), [])) :
  Runs lp 99 [pN ns, .fn (.func 78) [] []] [] (if (ns.all A2) = true then ((pI (-1), [])) else ((pI (i : Int), []))) := by
 by_cases k1 : (ns.all A2) = true
 ·refine Ak k1 ?_
  exact
   rO [(4, oL (w1 k1))] [_] (by kernel_rfl) ⟨(w1 k1), trivial⟩
 ·refine Al k1 ?_
  replace k1 := Bool.eq_false_iff.2 k1
  exact
   rO [(4, oL (w2 k1))] [_] (by kernel_rfl) ⟨(w2 k1), trivial⟩
theorem pCon0 {ns : BL} {i : Nat} (w1 : (ns.all A2) = true → Runs lp 99 [pN ns, .fn (.func 78) [] []] [] (pI (-1), [])) (w2 : (ns.all A2) = false → Runs lp 99 [pN ns, .fn (.func 78) [] []] [] (pI (i : Int), [])) :
  Runs lp 80 [pN ns, .fn (.func 78) [] []] [] (if (ns.all A2) = true then ((pB false, [])) else ((pB (decide ((i : Int) ≥ 0)), []))) := by
 by_cases k1 : (ns.all A2) = true
 ·refine Ak k1 ?_
  exact
   rO [(3, oC (w1 k1))] [_] (by kernel_rfl) ⟨(w1 k1), trivial⟩
 ·refine Al k1 ?_
  replace k1 := Bool.eq_false_iff.2 k1
  exact
   rO [(3, oC (w2 k1))] [_] (by kernel_rfl) ⟨(w2 k1), trivial⟩
theorem pMay0 {ns : BL} (w1 : (decide (((List.length (Ab ns) : Nat) : Int) ≥ 1)) = true → (decide (((List.length (Ab ns) : Nat) : Int) ≤ 8)) = true → Runs lp 80 [pN ns, .fn (.func 78) [] []] [] (pB (!(List.all ns A2)), [])) :
  Runs lp 54 [pN ns] [] (if (decide (((List.length (Ab ns) : Nat) : Int) ≥ 1)) = true then (if (decide (((List.length (Ab ns) : Nat) : Int) ≤ 8)) = true then ((pB (!(!(List.all ns A2))), [])) else ((pB false, []))) else ((pB false, []))) := by
 by_cases k1 : (decide (((List.length (Ab ns) : Nat) : Int) ≥ 1)) = true
 ·refine Ak k1 ?_
  by_cases k2 : (decide (((List.length (Ab ns) : Nat) : Int) ≤ 8)) = true
  ·refine Ak k2 ?_
   exact
    rO [(6, .b true), (1, .b true), (1, .b true), (1, .b true), (1, .b true), (1, .b true), (1, .b true), (0, oC (w1 k1 k2)), (0, .b true), (1, .b true)] [_, _, _, _, _, _, _, _, _, _] (by kernel_rfl) ⟨cI k1, cI k1, cI k1, cI k1, cI k2, cI k2, cI k2, (w1 k1 k2), cI k2, cI k2, trivial⟩
  ·refine Al k2 ?_
   replace k2 := Bool.eq_false_iff.2 k2
   exact
    rO [(6, .b true), (1, .b true), (1, .b true), (1, .b true), (1, .b false), (0, .b false), (0, .b false), (0, .b false), (0, .b false)] [_, _, _, _, _, _, _, _, _] (by kernel_rfl) ⟨cI k1, cI k1, cI k1, cI k1, cI k2, cI k2, cI k2, cI k2, cI k2, trivial⟩
 ·refine Al k1 ?_
  replace k1 := Bool.eq_false_iff.2 k1
  exact
   rO [(6, .b false), (0, .b false), (0, .b false), (0, .b false)] [_, _, _, _] (by kernel_rfl) ⟨cI k1, cI k1, cI k1, cI k1, trivial⟩
theorem U9 {ns : BL} {i : Nat} (c1 : (decide ((i : Int) < ((List.length (Ab ns) : Nat) : Int))) = true) (h2 : i < List.length ns) (h3 : Runs lp 105 [pT (List.getD (α := BY) ns i [])] [] (pB (A2 (List.getD (α := BY) ns i [])), [])) (c4 : (A2 (List.getD (α := BY) ns i [])) = true) {r : RL} (hr : LoopN lp 0 (Ac Ni 0) (tl 0 24 [(0, pN ns), (3, pI (IntKind.wrap .i64 ((i : Int) + 1)))]) [] r) :
  LoopN lp 0 (Ac Ni 0) (tl 0 24 [(0, pN ns), (3, pI (i : Int))]) [] r :=
 have q1 : OpE [] (.indexAddr 1 (.const (pN ns)) (.const (pI (i : Int)))) (.pin [.str (List.getD (α := BY) ns i [])] 0) := (Ao rfl rfl (A1 h2) rfl)
 lO [(4, .b true), (2, oO q1), (1, oC h3), (1, .b false)] [_, _, _, _] (by kernel_rfl) ⟨cI c1, q1, h3, (cI (Ae c4)), trivial⟩ hr
theorem Va {ns : BL} {i : Nat} (c1 : (decide ((i : Int) < ((List.length (Ab ns) : Nat) : Int))) = true) (h2 : i < List.length ns) (h3 : Runs lp 105 [pT (List.getD (α := BY) ns i [])] [] (pB (A2 (List.getD (α := BY) ns i [])), [])) (c4 : (A2 (List.getD (α := BY) ns i [])) = false) :
  LoopN lp 0 (Ac Ni 0) (tl 0 24 [(0, pN ns), (3, pI (i : Int))]) [] (.ret, (tl 0 24 [(2, pB false)]), []) :=
 have q1 : OpE [] (.indexAddr 1 (.const (pN ns)) (.const (pI (i : Int)))) (.pin [.str (List.getD (α := BY) ns i [])] 0) := (Ao rfl rfl (A1 h2) rfl)
 lX [(4, .b true), (2, oO q1), (1, oC h3), (1, .b true)] [_, _, _, _] (by kernel_rfl) (by kernel_rfl) ⟨cI c1, q1, h3, (cI (Ae c4)), trivial⟩
theorem Yh {ns : BL} {i : Nat} (c1 : (decide ((i : Int) < ((List.length (Ab ns) : Nat) : Int))) = false) :
  LoopN lp 0 (Ac Ni 0) (tl 0 24 [(0, pN ns), (3, pI (i : Int))]) [] (.exit 0, (tl 0 24 [(0, pN ns)]), []) :=
 lX [(4, .b false)] [_] (by kernel_rfl) (by kernel_rfl) ⟨cI c1, trivial⟩
theorem rpMay0 {ns : BL} (w1 : (ns.all A2) = true → LoopN lp 0 (Ac Ni 0) (tl 0 24 [(0, pN ns), (3, pI 0)]) [] (.exit 0, (tl 0 24 [(0, pN ns)]), [])) (w2 : (ns.all A2) = false → LoopN lp 0 (Ac Ni 0) (tl 0 24 [(0, pN ns), (3, pI 0)]) [] (.ret, (tl 0 24 [(2, pB false)]), [])) :
  Runs lp 88 [pN ns] [] (if (ns.all A2) = true then (if (decide (((List.length (Ab ns) : Nat) : Int) ≥ 1)) = true then ((pB (decide (((List.length (Ab ns) : Nat) : Int) ≤ 8)), [])) else ((pB false, []))) else ((pB false, []))) := by
 by_cases k1 : (ns.all A2) = true
 ·refine Ak k1 ?_
  by_cases k2 : (decide (((List.length (Ab ns) : Nat) : Int) ≥ 1)) = true
  ·refine Ak k2 ?_
   exact
    rO [(2, oL (w1 k1)), (4, .b true), (1, .b true), (1, .b true), (1, .b true)] [_, _, _, _, _] (by kernel_rfl) ⟨(w1 k1), cI k2, cI k2, cI k2, cI k2, trivial⟩
  ·refine Al k2 ?_
   replace k2 := Bool.eq_false_iff.2 k2
   exact
    rO [(2, oL (w1 k1)), (4, .b false), (0, .b false), (0, .b false), (0, .b false)] [_, _, _, _, _] (by kernel_rfl) ⟨(w1 k1), cI k2, cI k2, cI k2, cI k2, trivial⟩
 ·refine Al k1 ?_
  replace k1 := Bool.eq_false_iff.2 k1
  exact
   rO [(2, oL (w2 k1))] [_] (by kernel_rfl) ⟨(w2 k1), trivial⟩
theorem Vb {ns ms : BL} {i : Nat} (c1 : (decide ((i : Int) < ((List.length (Ab ns) : Nat) : Int))) = true) (c2 : (decide ((i : Int) ≥ ((List.length (Ab ms) : Nat) : Int))) = true) :
  LoopN lp 0 (Ac Ml 0) (tl 0 27 [(0, pN ns), (1, pN ms), (5, pI (i : Int))]) [] (.ret, (tl 0 27 [(4, pB false)]), []) :=
 lX [(4, .b true), (5, .b true), (0, .b true), (0, .b true), (0, .b true), (0, .b true), (0, .b true), (0, .b true), (0, .b true), (0, .b true), (0, .b true)] [_, _, _, _, _, _, _, _, _, _, _] (by kernel_rfl) (by kernel_rfl) ⟨cI c1, cI c2, cI c2, cI c2, cI c2, cI c2, cI c2, cI c2, cI c2, cI c2, cI c2, trivial⟩
theorem St {ns ms : BL} {i : Nat} (c1 : (decide ((i : Int) < ((List.length (Ab ns) : Nat) : Int))) = true) (c2 : (decide ((i : Int) ≥ ((List.length (Ab ms) : Nat) : Int))) = false) (h3 : i < List.length ns) (h4 : i < List.length ms) (c5 : ((List.getD (α := BY) ns i []) == (List.getD (α := BY) ms i [])) = true) {r : RL} (hr : LoopN lp 0 (Ac Ml 0) (tl 0 27 [(0, pN ns), (1, pN ms), (5, pI (IntKind.wrap .i64 ((i : Int) + 1)))]) [] r) :
  LoopN lp 0 (Ac Ml 0) (tl 0 27 [(0, pN ns), (1, pN ms), (5, pI (i : Int))]) [] r :=
 have q1 : OpE [] (.indexAddr 1 (.const (pN ns)) (.const (pI (i : Int)))) (.pin [.str (List.getD (α := BY) ns i [])] 0) := (Ao rfl rfl (A1 h3) rfl)
 have q2 : OpE [] (.indexAddr 1 (.const (pN ms)) (.const (pI (i : Int)))) (.pin [.str (List.getD (α := BY) ms i [])] 0) := (Ao rfl rfl (A1 h4) rfl)
 lO [(4, .b true), (5, .b false), (1, .b false), (1, .b false), (0, oO q1), (0, .b false), (1, .b false), (1, .b false), (1, .b false), (0, oO q2), (0, .b false), (1, .b false), (1, .b false), (0, .b false)] [_, _, _, _, _, _, _, _, _, _, _, _, _, _] (by kernel_rfl) ⟨cI c1, cI c2, cI c2, cI c2, q1, cI c2, cI c2, cI c2, cI c2, q2, cI c2, cI c2, cI c2, (cI (Ae c5)), trivial⟩ hr
theorem Su {ns ms : BL} {i : Nat} (c1 : (decide ((i : Int) < ((List.length (Ab ns) : Nat) : Int))) = true) (c2 : (decide ((i : Int) ≥ ((List.length (Ab ms) : Nat) : Int))) = false) (h3 : i < List.length ns) (h4 : i < List.length ms) (c5 : ((List.getD (α := BY) ns i []) == (List.getD (α := BY) ms i [])) = false) :
  LoopN lp 0 (Ac Ml 0) (tl 0 27 [(0, pN ns), (1, pN ms), (5, pI (i : Int))]) [] (.ret, (tl 0 27 [(4, pB false)]), []) :=
 have q1 : OpE [] (.indexAddr 1 (.const (pN ns)) (.const (pI (i : Int)))) (.pin [.str (List.getD (α := BY) ns i [])] 0) := (Ao rfl rfl (A1 h3) rfl)
 have q2 : OpE [] (.indexAddr 1 (.const (pN ms)) (.const (pI (i : Int)))) (.pin [.str (List.getD (α := BY) ms i [])] 0) := (Ao rfl rfl (A1 h4) rfl)
 lX [(4, .b true), (5, .b false), (1, .b false), (1, .b false), (0, oO q1), (0, .b false), (1, .b false), (1, .b false), (1, .b false), (0, oO q2), (0, .b false), (1, .b false), (1, .b false), (0, .b true)] [_, _, _, _, _, _, _, _, _, _, _, _, _, _] (by kernel_rfl) (by kernel_rfl) ⟨cI c1, cI c2, cI c2, cI c2, q1, cI c2, cI c2, cI c2, cI c2, q2, cI c2, cI c2, cI c2, (cI (Ae c5)), trivial⟩
theorem Yi {ns ms : BL} {i : Nat} (c1 : (decide ((i : Int) < ((List.length (Ab ns) : Nat) : Int))) = false) :
  LoopN lp 0 (Ac Ml 0) (tl 0 27 [(0, pN ns), (1, pN ms), (5, pI (i : Int))]) [] (.exit 0, (tl 0 27 []), []) :=
 lX [(4, .b false)] [_] (by kernel_rfl) (by kernel_rfl) ⟨cI c1, trivial⟩
theorem rpBeg0 {ns ms : BL} (w1 : (List.isPrefixOf ns ms) = true → LoopN lp 0 (Ac Ml 0) (tl 0 27 [(0, pN ns), (1, pN ms), (5, pI 0)]) [] (.exit 0, (tl 0 27 []), [])) (w2 : (List.isPrefixOf ns ms) = false → LoopN lp 0 (Ac Ml 0) (tl 0 27 [(0, pN ns), (1, pN ms), (5, pI 0)]) [] (.ret, (tl 0 27 [(4, pB false)]), [])) :
  Runs lp 30 [pN ns, pN ms] [] (if (List.isPrefixOf ns ms) = true then ((pB true, [])) else ((pB false, []))) := by
 by_cases k1 : (List.isPrefixOf ns ms) = true
 ·refine Ak k1 ?_
  exact
   rO [(2, oL (w1 k1))] [_] (by kernel_rfl) ⟨(w1 k1), trivial⟩
 ·refine Al k1 ?_
  replace k1 := Bool.eq_false_iff.2 k1
  exact
   rO [(2, oL (w2 k1))] [_] (by kernel_rfl) ⟨(w2 k1), trivial⟩
theorem rpSame0 {ns ms : BL} (w1 : (((List.length (Ab ns) : Nat) : Int) == ((List.length (Ab ms) : Nat) : Int)) = true → Runs lp 30 [pN ns, pN ms] [] (pB (List.isPrefixOf ns ms), [])) :
  Runs lp 35 [pN ns, pN ms] [] (if (((List.length (Ab ns) : Nat) : Int) == ((List.length (Ab ms) : Nat) : Int)) = true then ((pB (List.isPrefixOf ns ms), [])) else ((pB false, []))) := by
 by_cases k1 : (((List.length (Ab ns) : Nat) : Int) == ((List.length (Ab ms) : Nat) : Int)) = true
 ·refine Ak k1 ?_
  exact
   rO [(7, .b true), (1, .b true), (1, .b true), (0, oC (w1 k1)), (0, .b true)] [_, _, _, _, _] (by kernel_rfl) ⟨cI k1, cI k1, cI k1, (w1 k1), cI k1, trivial⟩
 ·refine Al k1 ?_
  replace k1 := Bool.eq_false_iff.2 k1
  exact
   rO [(7, .b false), (0, .b false), (0, .b false), (0, .b false)] [_, _, _, _] (by kernel_rfl) ⟨cI k1, cI k1, cI k1, cI k1, trivial⟩
theorem pEqR_yy {ns ms : BL} {i : Nat} (c1 : (decide ((i : Int) < ((List.length (Ab ns) : Nat) : Int))) = true) (h2 : i < List.length ns) (h3 : i < List.length ms) (c4 : ((List.getD (α := BY) ns i []) == (List.getD (α := BY) ms i [])) = true) {r : RL} (hr : LoopN lp 0 (Ac Nk 0) (tl 0 26 [(0, pN ns), (1, pN ms), (12, pI ((List.length (Ab ns) : Nat) : Int)), (13, pI (IntKind.wrap .i64 ((i : Int) + 1)))]) [] r) :
  LoopN lp 0 (Ac Nk 0) (tl 0 26 [(0, pN ns), (1, pN ms), (12, pI ((List.length (Ab ns) : Nat) : Int)), (13, pI (i : Int))]) [] r :=
 have q1 : OpE [] (.indexAddr 1 (.const (pN ns)) (.const (pI (i : Int)))) (.pin [.str (List.getD (α := BY) ns i [])] 0) := (Ao rfl rfl (A1 h2) rfl)
 have q2 : OpE [] (.indexAddr 1 (.const (pN ms)) (.const (pI (i : Int)))) (.pin [.str (List.getD (α := BY) ms i [])] 0) := (Ao rfl rfl (A1 h3) rfl)
 lO [(1, .b true), (4, oO q1), (3, oO q2), (2, .b false)] [_, _, _, _] (by kernel_rfl) ⟨cI c1, q1, q2, (cI (Ae c4)), trivial⟩ hr
theorem pEqR_yn {ns ms : BL} {i : Nat} (c1 : (decide ((i : Int) < ((List.length (Ab ns) : Nat) : Int))) = true) (h2 : i < List.length ns) (h3 : i < List.length ms) (c4 : ((List.getD (α := BY) ns i []) == (List.getD (α := BY) ms i [])) = false) :
  LoopN lp 0 (Ac Nk 0) (tl 0 26 [(0, pN ns), (1, pN ms), (12, pI ((List.length (Ab ns) : Nat) : Int)), (13, pI (i : Int))]) [] (.ret, (tl 0 26 [(4, pB false)]), []) :=
 have q1 : OpE [] (.indexAddr 1 (.const (pN ns)) (.const (pI (i : Int)))) (.pin [.str (List.getD (α := BY) ns i [])] 0) := (Ao rfl rfl (A1 h2) rfl)
 have q2 : OpE [] (.indexAddr 1 (.const (pN ms)) (.const (pI (i : Int)))) (.pin [.str (List.getD (α := BY) ms i [])] 0) := (Ao rfl rfl (A1 h3) rfl)
 lX [(1, .b true), (4, oO q1), (3, oO q2), (2, .b true)] [_, _, _, _] (by kernel_rfl) (by kernel_rfl) ⟨cI c1, q1, q2, (cI (Ae c4)), trivial⟩
theorem pEqR_n {ns ms : BL} {i : Nat} (c1 : (decide ((i : Int) < ((List.length (Ab ns) : Nat) : Int))) = false) :
  LoopN lp 0 (Ac Nk 0) (tl 0 26 [(0, pN ns), (1, pN ms), (12, pI ((List.length (Ab ns) : Nat) : Int)), (13, pI (i : Int))]) [] (.exit 0, (tl 0 26 []), []) :=
 lX [(1, .b false)] [_] (by kernel_rfl) (by kernel_rfl) ⟨cI c1, trivial⟩
theorem pEq0 {ns ms : BL} (w1 : (((List.length (Ab ns) : Nat) : Int) == ((List.length (Ab ms) : Nat) : Int)) = true → (ns == ms) = true → LoopN lp 0 (Ac Nk 0) (tl 0 26 [(0, pN ns), (1, pN ms), (12, pI ((List.length (Ab ns) : Nat) : Int)), (13, pI 0)]) [] (.exit 0, (tl 0 26 []), [])) (w2 : (((List.length (Ab ns) : Nat) : Int) == ((List.length (Ab ms) : Nat) : Int)) = true → (ns == ms) = false → LoopN lp 0 (Ac Nk 0) (tl 0 26 [(0, pN ns), (1, pN ms), (12, pI ((List.length (Ab ns) : Nat) : Int)), (13, pI 0)]) [] (.ret, (tl 0 26 [(4, pB false)]), [])) :
  Runs lp 96 [pN ns, pN ms] [] (if (((List.length (Ab ns) : Nat) : Int) == ((List.length (Ab ms) : Nat) : Int)) = true then (if (ns == ms) = true then ((pB true, [])) else ((pB false, []))) else ((pB false, []))) := by
 by_cases k1 : (((List.length (Ab ns) : Nat) : Int) == ((List.length (Ab ms) : Nat) : Int)) = true
 ·refine Ak k1 ?_
  by_cases k2 : (ns == ms) = true
  ·refine Ak k2 ?_
   exact
    rO [(6, .b false), (3, oL (w1 k1 k2))] [_, _] (by kernel_rfl) ⟨(cI (Ae k1)), (w1 k1 k2), trivial⟩
  ·refine Al k2 ?_
   replace k2 := Bool.eq_false_iff.2 k2
   exact
    rO [(6, .b false), (3, oL (w2 k1 k2))] [_, _] (by kernel_rfl) ⟨(cI (Ae k1)), (w2 k1 k2), trivial⟩
 ·refine Al k1 ?_
  replace k1 := Bool.eq_false_iff.2 k1
  exact
   rO [(6, .b true)] [_] (by kernel_rfl) ⟨(cI (Ae k1)), trivial⟩
theorem pBeg0 {ns ms : BL} (w1 : (decide (((List.length (Ab ns) : Nat) : Int) ≤ ((List.length (Ab ms) : Nat) : Int))) = true → List.length (Ab ns) ≤ List.length ms) (w2 : (decide (((List.length (Ab ns) : Nat) : Int) ≤ ((List.length (Ab ms) : Nat) : Int))) = true → Runs lp 96 [pN ns, pN (List.take (List.length (Ab ns)) ms)] [] (pB (ns == (List.take (List.length (Ab ns)) ms)), [])) :
  Runs lp 77 [pN ns, pN ms] [] (if (decide (((List.length (Ab ns) : Nat) : Int) ≤ ((List.length (Ab ms) : Nat) : Int))) = true then ((pB (ns == (List.take (List.length (Ab ns)) ms)), [])) else ((pB false, []))) := by
 by_cases k1 : (decide (((List.length (Ab ns) : Nat) : Int) ≤ ((List.length (Ab ms) : Nat) : Int))) = true
 ·refine Ak k1 ?_
  exact
   have q1 : OpE [] (.slice 1 (.const (pN ms)) none (some (.const (pI ((List.length (Ab ns) : Nat) : Int)))) none) (pN (List.take (List.length (Ab ns)) ms)) := (O8 (w1 k1))
   rO [(7, .b true), (1, .b true), (1, .b true), (1, .b true), (1, .b true), (0, oO q1), (0, .b true), (0, oC (w2 k1)), (0, .b true)] [_, _, _, _, _, _, _, _, _] (by kernel_rfl) ⟨cI k1, cI k1, cI k1, cI k1, cI k1, q1, cI k1, (w2 k1), cI k1, trivial⟩
 ·refine Al k1 ?_
  replace k1 := Bool.eq_false_iff.2 k1
  exact
   rO [(7, .b false), (0, .b false), (0, .b false), (0, .b false), (0, .b false), (0, .b false), (0, .b false)] [_, _, _, _, _, _, _] (by kernel_rfl) ⟨cI k1, cI k1, cI k1, cI k1, cI k1, cI k1, cI k1, trivial⟩
theorem pMeet0 {ns ms : BL} (w1 : Runs lp 77 [pN ns, pN ms] [] (pB (List.isPrefixOf ns ms), [])) (w2 : (List.isPrefixOf ns ms) = false → Runs lp 77 [pN ms, pN ns] [] (pB (List.isPrefixOf ms ns), [])) :
  Runs lp 53 [pN ns, pN ms] [] (if (List.isPrefixOf ns ms) = true then ((pB true, [])) else ((pB (List.isPrefixOf ms ns), []))) := by
 by_cases k1 : (List.isPrefixOf ns ms) = true
 ·refine Ak k1 ?_
  exact
   rO [(3, oC w1), (1, .b true), (0, .b true), (0, .b true), (0, .b true)] [_, _, _, _, _] (by kernel_rfl) ⟨w1, cI k1, cI k1, cI k1, cI k1, trivial⟩
 ·refine Al k1 ?_
  replace k1 := Bool.eq_false_iff.2 k1
  exact
   rO [(3, oC w1), (1, .b false), (1, .b false), (1, .b false), (0, oC (w2 k1)), (0, .b false)] [_, _, _, _, _, _] (by kernel_rfl) ⟨w1, cI k1, cI k1, cI k1, (w2 k1), cI k1, trivial⟩
end Go.Proofs.YtegboccilfofmaaGreat
