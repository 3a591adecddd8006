import Derived.Test.YtegboccilfofmaaGreatLsAb
import Derived.Test.YtegboccilfofmaaGreatLsSpcD
set_option linter.unusedVariables false
set_option maxRecDepth 100000
namespace Go.Proofs.YtegboccilfofmaaGreat
open Go Go.LS
theorem pRdT_y {x : Src} {c : Int} {i : Nat} (c1 : (decide ((i : Int) < c)) = true) (h2 : Runs lp 91 [P00, pI 32] (aR5 x) (pT ((Aj x 32).1), [.row [[pS ((Aj x 32).2.1), pB ((Aj x 32).2.2)]]])) {r : RL} (hr : LoopN lp 1 (Ac Lj 0) (tl 0 15 [(0, P00), (3, .sl (Ab [(Aj x 32).1]) 1 (List.length (Ab [(Aj x 32).1]))), (5, pI c), (6, pI (IntKind.wrap .i64 ((i : Int) + 1)))]) [.row [[pS ((Aj x 32).2.1), pB ((Aj x 32).2.2)]], .spare 1 (List.length (Ab [(Aj x 32).1]))] r) :
  LoopN lp 1 (Ac Lj 0) (tl 0 15 [(0, P00), (3, .tight []), (5, pI c), (6, pI (i : Int))]) (aR5 x) r :=
 have q1 : OpW [.row [[pS ((Aj x 32).2.1), pB ((Aj x 32).2.2)]]] (.append false 1 16 (.const (.tight [])) (.const (.tight [[.str ((Aj x 32).1)]]))) (.sl (Ab [(Aj x 32).1]) 1 (List.length (Ab [(Aj x 32).1]))) [.row [[pS ((Aj x 32).2.1), pB ((Aj x 32).2.2)]], .spare 1 (List.length (Ab [(Aj x 32).1]))] := (Ga)
 lO [(1, .b true), (2, oC h2), (1, oO q1)] [_, _, _] (by kernel_rfl) ⟨cI c1, h2, q1, trivial⟩ hr
theorem pRdT_n {x : Src} {c : Int} {i : Nat} (c1 : (decide ((i : Int) < c)) = false) :
  LoopN lp 1 (Ac Lj 0) (tl 0 15 [(0, P00), (3, .tight []), (5, pI c), (6, pI (i : Int))]) (aR5 x) (.exit 0, (tl 0 15 [(3, .tight [])]), (aR5 x)) :=
 lX [(1, .b false)] [_] (by kernel_rfl) (by kernel_rfl) ⟨cI c1, trivial⟩
theorem pRdS_y {x : Src} {c : Int} {ms : Pt} {i : Nat} (c1 : (decide ((i : Int) < c)) = true) (h2 : Runs lp 91 [P00, pI 32] (aR5 x) (pT ((Aj x 32).1), [.row [[pS ((Aj x 32).2.1), pB ((Aj x 32).2.2)]]])) (h3 : (List.length ms + 1) * 16 ≤ 140737488355328) {r : RL} (hr : LoopN lp 1 (Ac Lj 0) (tl 0 15 [(0, P00), (3, .sl (Ab (ms ++ [(Aj x 32).1])) 1 (List.length (Ab (ms ++ [(Aj x 32).1])))), (5, pI c), (6, pI (IntKind.wrap .i64 ((i : Int) + 1)))]) [.row [[pS ((Aj x 32).2.1), pB ((Aj x 32).2.2)]], .spare 1 (List.length (Ab (ms ++ [(Aj x 32).1])))] r) :
  LoopN lp 1 (Ac Lj 0) (tl 0 15 [(0, P00), (3, .sl (Ab ms) 1 (List.length (Ab ms))), (5, pI c), (6, pI (i : Int))]) [.row [[pS x.1, pB x.2]], .spare 1 (List.length (Ab ms))] r :=
 have q1 : OpW [.row [[pS ((Aj x 32).2.1), pB ((Aj x 32).2.2)]], .spare 1 (List.length (Ab ms))] (.append false 1 16 (.const (.sl (Ab ms) 1 (List.length (Ab ms)))) (.const (.tight [[.str ((Aj x 32).1)]]))) (.sl (Ab (ms ++ [(Aj x 32).1])) 1 (List.length (Ab (ms ++ [(Aj x 32).1])))) [.row [[pS ((Aj x 32).2.1), pB ((Aj x 32).2.2)]], .spare 1 (List.length (Ab (ms ++ [(Aj x 32).1])))] := (F9 rfl h3)
 lO [(1, .b true), (2, oC h2), (1, oO q1)] [_, _, _] (by kernel_rfl) ⟨cI c1, h2, q1, trivial⟩ hr
theorem pRdS_n {x : Src} {c : Int} {ms : Pt} {i : Nat} (c1 : (decide ((i : Int) < c)) = false) :
  LoopN lp 1 (Ac Lj 0) (tl 0 15 [(0, P00), (3, .sl (Ab ms) 1 (List.length (Ab ms))), (5, pI c), (6, pI (i : Int))]) [.row [[pS x.1, pB x.2]], .spare 1 (List.length (Ab ms))] (.exit 0, (tl 0 15 [(3, .sl (Ab ms) 1 (List.length (Ab ms)))]), [.row [[pS x.1, pB x.2]], .spare 1 (List.length (Ab ms))]) :=
 lX [(1, .b false)] [_] (by kernel_rfl) (by kernel_rfl) ⟨cI c1, trivial⟩
theorem pRd0 {x : Src} {ms : Pt} {x2 : Src} (w1 : (decide (ms = [])) = true → LoopN lp 1 (Ac Lj 0) (tl 0 15 [(0, P00), (3, .tight []), (5, pI ((Ai x 8).1)), (6, pI 0)]) [.row [[pS ((Ai x 8).2.1), pB ((Ai x 8).2.2)]]] (.exit 0, (tl 0 15 [(3, .tight [])]), (Bf x2))) (w2 : (decide (ms = [])) = false → LoopN lp 1 (Ac Lj 0) (tl 0 15 [(0, P00), (3, .tight []), (5, pI ((Ai x 8).1)), (6, pI 0)]) [.row [[pS ((Ai x 8).2.1), pB ((Ai x 8).2.2)]]] (.exit 0, (tl 0 15 [(3, .sl (Ab ms) 1 (List.length (Ab ms)))]), [.row [[pS x2.1, pB x2.2]], .spare 1 (List.length (Ab ms))])) :
  Runs lp 69 [P00] (aR5 x) (if (decide (ms = [])) = true then ((.p (.sl []), (Bf x2))) else ((pN ms, (Bf x2)))) := by
 by_cases k1 : (decide (ms = [])) = true
 ·refine Ak k1 ?_
  exact
   have q1 : Runs lp 37 [P00, pI 8] (aR5 x) (pI ((Ai x 8).1), [.row [[pS ((Ai x 8).2.1), pB ((Ai x 8).2.2)]]]) := (E6 x 8)
   rO [(3, oC q1), (1, oL (w1 k1))] [_, _] (by kernel_rfl) ⟨q1, (w1 k1), trivial⟩
 ·refine Al k1 ?_
  replace k1 := Bool.eq_false_iff.2 k1
  exact
   have q1 : Runs lp 37 [P00, pI 8] (aR5 x) (pI ((Ai x 8).1), [.row [[pS ((Ai x 8).2.1), pB ((Ai x 8).2.2)]]]) := (E6 x 8)
   rO [(3, oC q1), (1, oL (w2 k1))] [_, _] (by kernel_rfl) ⟨q1, (w2 k1), trivial⟩
theorem qRdT_yy {x : Src} {c : Int} {i : Nat} (c1 : (decide ((i : Int) < c)) = true) (c2 : (!x.2) = true) (h3 : Runs lp 73 [P00, pI 32] (aR5 x) (pT ((Aj x 32).1), [.row [[pS ((Aj x 32).2.1), pB ((Aj x 32).2.2)]]])) {r : RL} (hr : LoopN lp 1 (Ac Jf 0) (tl 0 26 [(0, P00), (3, .sl (Ab [(Aj x 32).1]) 1 (List.length (Ab [(Aj x 32).1]))), (4, pI c), (5, pI (IntKind.wrap .i64 ((i : Int) + 1)))]) [.row [[pS ((Aj x 32).2.1), pB ((Aj x 32).2.2)]], .spare 1 (List.length (Ab [(Aj x 32).1]))] r) :
  LoopN lp 1 (Ac Jf 0) (tl 0 26 [(0, P00), (3, .tight []), (4, pI c), (5, pI (i : Int))]) (aR5 x) r :=
 have q1 : OpW [.row [[pS ((Aj x 32).2.1), pB ((Aj x 32).2.2)]]] (.append false 1 16 (.const (.tight [])) (.const (.tight [[.str ((Aj x 32).1)]]))) (.sl (Ab [(Aj x 32).1]) 1 (List.length (Ab [(Aj x 32).1]))) [.row [[pS ((Aj x 32).2.1), pB ((Aj x 32).2.2)]], .spare 1 (List.length (Ab [(Aj x 32).1]))] := (Ga)
 lO [(4, .b true), (1, .b true), (1, .b true), (1, .b true), (1, .b true), (1, .b true), (0, .b true), (2, oC h3), (1, oO q1)] [_, _, _, _, _, _, _, _, _] (by kernel_rfl) ⟨cI c1, cI c1, cI c1, cI c1, cI c1, cI c1, cI c2, h3, q1, trivial⟩ hr
theorem qRdT_yn {x : Src} {c : Int} {i : Nat} (c1 : (decide ((i : Int) < c)) = true) (c2 : (!x.2) = false) :
  LoopN lp 1 (Ac Jf 0) (tl 0 26 [(0, P00), (3, .tight []), (4, pI c), (5, pI (i : Int))]) (aR5 x) (.exit 0, (tl 0 26 [(3, .tight [])]), (aR5 x)) :=
 lX [(4, .b true), (1, .b true), (1, .b true), (1, .b true), (1, .b true), (1, .b true), (0, .b false)] [_, _, _, _, _, _, _] (by kernel_rfl) (by kernel_rfl) ⟨cI c1, cI c1, cI c1, cI c1, cI c1, cI c1, cI c2, trivial⟩
theorem qRdT_n {x : Src} {c : Int} {i : Nat} (c1 : (decide ((i : Int) < c)) = false) :
  LoopN lp 1 (Ac Jf 0) (tl 0 26 [(0, P00), (3, .tight []), (4, pI c), (5, pI (i : Int))]) (aR5 x) (.exit 0, (tl 0 26 [(3, .tight [])]), (aR5 x)) :=
 lX [(4, .b false), (0, .b false), (0, .b false), (0, .b false), (0, .b false), (0, .b false)] [_, _, _, _, _, _] (by kernel_rfl) (by kernel_rfl) ⟨cI c1, cI c1, cI c1, cI c1, cI c1, cI c1, trivial⟩
theorem qRdS_yy {x : Src} {c : Int} {ms : Pt} {i : Nat} (c1 : (decide ((i : Int) < c)) = true) (c2 : (!x.2) = true) (h3 : Runs lp 73 [P00, pI 32] (aR5 x) (pT ((Aj x 32).1), [.row [[pS ((Aj x 32).2.1), pB ((Aj x 32).2.2)]]])) (h4 : (List.length ms + 1) * 16 ≤ 140737488355328) {r : RL} (hr : LoopN lp 1 (Ac Jf 0) (tl 0 26 [(0, P00), (3, .sl (Ab (ms ++ [(Aj x 32).1])) 1 (List.length (Ab (ms ++ [(Aj x 32).1])))), (4, pI c), (5, pI (IntKind.wrap .i64 ((i : Int) + 1)))]) [.row [[pS ((Aj x 32).2.1), pB ((Aj x 32).2.2)]], .spare 1 (List.length (Ab (ms ++ [(Aj x 32).1])))] r) :
  LoopN lp 1 (Ac Jf 0) (tl 0 26 [(0, P00), (3, .sl (Ab ms) 1 (List.length (Ab ms))), (4, pI c), (5, pI (i : Int))]) [.row [[pS x.1, pB x.2]], .spare 1 (List.length (Ab ms))] r :=
 have q1 : OpW [.row [[pS ((Aj x 32).2.1), pB ((Aj x 32).2.2)]], .spare 1 (List.length (Ab ms))] (.append false 1 16 (.const (.sl (Ab ms) 1 (List.length (Ab ms)))) (.const (.tight [[.str ((Aj x 32).1)]]))) (.sl (Ab (ms ++ [(Aj x 32).1])) 1 (List.length (Ab (ms ++ [(Aj x 32).1])))) [.row [[pS ((Aj x 32).2.1), pB ((Aj x 32).2.2)]], .spare 1 (List.length (Ab (ms ++ [(Aj x 32).1])))] := (F9 rfl h4)
 lO [(4, .b true), (1, .b true), (1, .b true), (1, .b true), (1, .b true), (1, .b true), (0, .b true), (2, oC h3), (1, oO q1)] [_, _, _, _, _, _, _, _, _] (by kernel_rfl) ⟨cI c1, cI c1, cI c1, cI c1, cI c1, cI c1, cI c2, h3, q1, trivial⟩ hr
theorem qRdS_yn {x : Src} {c : Int} {ms : Pt} {i : Nat} (c1 : (decide ((i : Int) < c)) = true) (c2 : (!x.2) = false) :
  LoopN lp 1 (Ac Jf 0) (tl 0 26 [(0, P00), (3, .sl (Ab ms) 1 (List.length (Ab ms))), (4, pI c), (5, pI (i : Int))]) [.row [[pS x.1, pB x.2]], .spare 1 (List.length (Ab ms))] (.exit 0, (tl 0 26 [(3, .sl (Ab ms) 1 (List.length (Ab ms)))]), [.row [[pS x.1, pB x.2]], .spare 1 (List.length (Ab ms))]) :=
 lX [(4, .b true), (1, .b true), (1, .b true), (1, .b true), (1, .b true), (1, .b true), (0, .b false)] [_, _, _, _, _, _, _] (by kernel_rfl) (by kernel_rfl) ⟨cI c1, cI c1, cI c1, cI c1, cI c1, cI c1, cI c2, trivial⟩
theorem qRdS_n {x : Src} {c : Int} {ms : Pt} {i : Nat} (c1 : (decide ((i : Int) < c)) = false) :
  LoopN lp 1 (Ac Jf 0) (tl 0 26 [(0, P00), (3, .sl (Ab ms) 1 (List.length (Ab ms))), (4, pI c), (5, pI (i : Int))]) [.row [[pS x.1, pB x.2]], .spare 1 (List.length (Ab ms))] (.exit 0, (tl 0 26 [(3, .sl (Ab ms) 1 (List.length (Ab ms)))]), [.row [[pS x.1, pB x.2]], .spare 1 (List.length (Ab ms))]) :=
 lX [(4, .b false), (0, .b false), (0, .b false), (0, .b false), (0, .b false), (0, .b false)] [_, _, _, _, _, _] (by kernel_rfl) (by kernel_rfl) ⟨cI c1, cI c1, cI c1, cI c1, cI c1, cI c1, trivial⟩
theorem qRd0 {x : Src} {ms : Pt} {x2 : Src} (w1 : (decide (ms = [])) = true → LoopN lp 1 (Ac Jf 0) (tl 0 26 [(0, P00), (3, .tight []), (4, pI ((Ai x 8).1)), (5, pI 0)]) [.row [[pS ((Ai x 8).2.1), pB ((Ai x 8).2.2)]]] (.exit 0, (tl 0 26 [(3, .tight [])]), (Bf x2))) (w2 : (decide (ms = [])) = false → LoopN lp 1 (Ac Jf 0) (tl 0 26 [(0, P00), (3, .tight []), (4, pI ((Ai x 8).1)), (5, pI 0)]) [.row [[pS ((Ai x 8).2.1), pB ((Ai x 8).2.2)]]] (.exit 0, (tl 0 26 [(3, .sl (Ab ms) 1 (List.length (Ab ms)))]), [.row [[pS x2.1, pB x2.2]], .spare 1 (List.length (Ab ms))])) :
  Runs lp 44 [P00] (aR5 x) (if (decide (ms = [])) = true then ((.p (.sl []), (Bf x2))) else ((pN ms, (Bf x2)))) := by
 by_cases k1 : (decide (ms = [])) = true
 ·refine Ak k1 ?_
  exact
   have q1 : Runs lp 43 [P00, pI 8] (aR5 x) (pI ((Ai x 8).1), [.row [[pS ((Ai x 8).2.1), pB ((Ai x 8).2.2)]]]) := (Dr x 8)
   rO [(3, oC q1), (2, oL (w1 k1))] [_, _] (by kernel_rfl) ⟨q1, (w1 k1), trivial⟩
 ·refine Al k1 ?_
  replace k1 := Bool.eq_false_iff.2 k1
  exact
   have q1 : Runs lp 43 [P00, pI 8] (aR5 x) (pI ((Ai x 8).1), [.row [[pS ((Ai x 8).2.1), pB ((Ai x 8).2.2)]]]) := (Dr x 8)
   rO [(3, oC q1), (2, oL (w2 k1))] [_, _] (by kernel_rfl) ⟨q1, (w2 k1), trivial⟩
theorem oRd0 {k n : Int} {s : BY} {is : List Val} {ns : BL} {x x3 : Src} (w1 : Runs lp 69 [P00] [.row [[pS ((Aa x).2.1), pB ((Aa x).2.2)]]] (pN (Af true ((Aa x).2)).1, [.row [[pS ((Af true ((Aa x).2)).2.1), pB ((Af true ((Aa x).2)).2.2)]]])) (w2 : (((Aa x).1) == 2) = false → (((Aa x).1) == 6) = true → Runs lp 69 [P00] [.row [[pS ((Af true ((Aa x).2)).2.1), pB ((Af true ((Aa x).2)).2.2)]]] (pN (Af true ((Af true ((Aa x).2)).2)).1, [.row [[pS ((Af true ((Af true ((Aa x).2)).2)).2.1), pB ((Af true ((Af true ((Aa x).2)).2)).2.2)]]])) (w3 : (((Aa x).1) == 2) = false → (((Aa x).1) == 6) = false → Runs lp 39 [P00] [.row [[pS ((Af true ((Aa x).2)).2.1), pB ((Af true ((Aa x).2)).2.2)]]] (.agg (aR7 is k n ns s), [.row [[pS x3.1, pB x3.2]]])) :
  Runs lp 38 [P00] (aR5 x) (if (((Aa x).1) == 2) = true then ((.agg [pI ((Aa x).1), pN (Af true ((Aa x).2)).1, pI 0, pI 0, pT [], .p (.sl []), .p (.sl []), .p (.sl [])], [.row [[pS ((Af true ((Aa x).2)).2.1), pB ((Af true ((Aa x).2)).2.2)]]])) else (if (((Aa x).1) == 6) = true then ((.agg [pI ((Aa x).1), pN (Af true ((Aa x).2)).1, pI 0, pI 0, pT [], .p (.sl []), .p (.sl []), pN (Af true ((Af true ((Aa x).2)).2)).1], [.row [[pS ((Af true ((Af true ((Aa x).2)).2)).2.1), pB ((Af true ((Af true ((Aa x).2)).2)).2.2)]]])) else ((.agg [pI ((Aa x).1), pN (Af true ((Aa x).2)).1, pI k, pI n, pT s, pV is, pN ns, .p (.sl [])], [.row [[pS x3.1, pB x3.2]]])))) := by
 by_cases k1 : (((Aa x).1) == 2) = true
 ·refine Ak k1 ?_
  exact
   have q1 : Runs lp 36 [P00] (aR5 x) (pI ((Aa x).1), [.row [[pS ((Aa x).2.1), pB ((Aa x).2.2)]]]) := (C1 x)
   rO [(2, oC q1), (4, oC w1), (6, .b true)] [_, _, _] (by kernel_rfl) ⟨q1, w1, cI k1, trivial⟩
 ·refine Al k1 ?_
  replace k1 := Bool.eq_false_iff.2 k1
  by_cases k2 : (((Aa x).1) == 6) = true
  ·refine Ak k2 ?_
   exact
    have q1 : Runs lp 36 [P00] (aR5 x) (pI ((Aa x).1), [.row [[pS ((Aa x).2.1), pB ((Aa x).2.2)]]]) := (C1 x)
    rO [(2, oC q1), (4, oC w1), (6, .b false), (2, .b true), (1, oC (w2 k1 k2))] [_, _, _, _, _] (by kernel_rfl) ⟨q1, w1, cI k1, cI k2, (w2 k1 k2), trivial⟩
  ·refine Al k2 ?_
   replace k2 := Bool.eq_false_iff.2 k2
   exact
    have q1 : Runs lp 36 [P00] (aR5 x) (pI ((Aa x).1), [.row [[pS ((Aa x).2.1), pB ((Aa x).2.2)]]]) := (C1 x)
    rO [(2, oC q1), (4, oC w1), (6, .b false), (2, .b false), (1, oC (w3 k1 k2))] [_, _, _, _, _] (by kernel_rfl) ⟨q1, w1, cI k1, cI k2, (w3 k1 k2), trivial⟩
theorem sRdT_yy {x : Src} {c : Int} {i : Nat} (okr vkr vnr : Int) (vsr : BY) (vir : List Val) (psr vnsr tsr : BL) (x2 : Src) (c1 : (decide ((i : Int) < c)) = true) (c2 : (!x.2) = true) (h3 : Runs lp 38 [P00] (aR5 x) (.agg [pI okr, pN psr, pI vkr, pI vnr, pT vsr, pV vir, pN vnsr, pN tsr], (Bf x2))) {r : RL} (hr : LoopN lp 1 (Ac H3 0) (tl 0 42 [(0, P00), (2, P10), (3, .ptr 2 0 0), (11, pI c), (12, pI (IntKind.wrap .i64 ((i : Int) + 1)))]) [.row [[pS x2.1, pB x2.2]], .row aR1, .row [[pB false, pI 0, pI 0, pT [], .tight [], .tight [], .sl (Ap [(OpS.mk okr psr (Val.mk vkr vnr vsr vir vnsr) tsr)]) 3 (List.length (Ap [(OpS.mk okr psr (Val.mk vkr vnr vsr vir vnsr) tsr)]))]], .spare 8 (List.length (Ap [(OpS.mk okr psr (Val.mk vkr vnr vsr vir vnsr) tsr)]))] r) :
  LoopN lp 1 (Ac H3 0) (tl 0 42 [(0, P00), (2, P10), (3, .ptr 2 0 0), (11, pI c), (12, pI (i : Int))]) [.row [[pS x.1, pB x.2]], .row aR1, .row aR1] r :=
 have q1 : Runs lp 15 [P00] (aR5 x) (pB x.2, (aR5 x)) := (Eh x)
 have q2 : OpW [.row [[pS x2.1, pB x2.2]], .row aR1, .row aR1] (.append false 8 136 (.const (.tight [])) (.const (.tight [[.int .i64 okr, .sl (Ab psr), .int .i64 vkr, .int .i64 vnr, .str vsr, .sl (Ad vir), .sl (Ab vnsr), .sl (Ab tsr)]]))) (.sl (Ap [(OpS.mk okr psr (Val.mk vkr vnr vsr vir vnsr) tsr)]) 3 (List.length (Ap [(OpS.mk okr psr (Val.mk vkr vnr vsr vir vnsr) tsr)]))) [.row [[pS x2.1, pB x2.2]], .row aR1, .row aR1, .spare 8 (List.length (Ap [(OpS.mk okr psr (Val.mk vkr vnr vsr vir vnsr) tsr)]))] := (Ge (o := (OpS.mk okr psr (Val.mk vkr vnr vsr vir vnsr) tsr)))
 LoopAt.on (N := 100) (os := [(1, .b true), (1, oC q1), (1, .b true), (3, oC h3), (1, oO q2)]) (ps := [_, _, _, _, Am A3 [] [.row [[pS x2.1, pB x2.2]], .row aR1, .row aR1] (.load false 1 (.const (.ptr 2 0 6))) = some (.tight [], [.row [[pS x2.1, pB x2.2]], .row aR1, .row aR1]), _]) (by kernel_rfl) ⟨cI c1, q1, cI c2, h3, (by kernel_rfl), q2, trivial⟩ hr
theorem sRdT_yn {x : Src} {c : Int} {i : Nat} (c1 : (decide ((i : Int) < c)) = true) (c2 : (!x.2) = false) {r : RL} (hr : LoopN lp 1 (Ac H3 0) (tl 0 42 [(0, P00), (2, P10), (3, .ptr 2 0 0), (11, pI c), (12, pI (IntKind.wrap .i64 ((i : Int) + 1)))]) [.row [[pS x.1, pB x.2]], .row aR1, .row aR1] r) :
  LoopN lp 1 (Ac H3 0) (tl 0 42 [(0, P00), (2, P10), (3, .ptr 2 0 0), (11, pI c), (12, pI (i : Int))]) [.row [[pS x.1, pB x.2]], .row aR1, .row aR1] r :=
 have q1 : Runs lp 15 [P00] (aR5 x) (pB x.2, (aR5 x)) := (Eh x)
 lO [(1, .b true), (1, oC q1), (1, .b false)] [_, _, _] (by kernel_rfl) ⟨cI c1, q1, cI c2, trivial⟩ hr
theorem sRdT_n {x : Src} {c : Int} {i : Nat} (c1 : (decide ((i : Int) < c)) = false) :
  LoopN lp 1 (Ac H3 0) (tl 0 42 [(0, P00), (2, P10), (3, .ptr 2 0 0), (11, pI c), (12, pI (i : Int))]) [.row [[pS x.1, pB x.2]], .row aR1, .row aR1] (.exit 1, (tl 0 42 [(0, P00), (2, P10), (3, .ptr 2 0 0)]), [.row [[pS x.1, pB x.2]], .row aR1, .row aR1]) :=
 lX [(1, .b false)] [_] (by kernel_rfl) (by kernel_rfl) ⟨cI c1, trivial⟩
theorem sRdS_yy {x : Src} {c : Int} {l : List OpS} {i : Nat} (okr vkr vnr : Int) (vsr : BY) (vir : List Val) (psr vnsr tsr : BL) (x2 : Src) (c1 : (decide ((i : Int) < c)) = true) (c2 : (!x.2) = true) (h3 : Runs lp 38 [P00] (aR5 x) (.agg [pI okr, pN psr, pI vkr, pI vnr, pT vsr, pV vir, pN vnsr, pN tsr], (Bf x2))) (h4 : List.length l + 1 ≤ 500000000000) {r : RL} (hr : LoopN lp 1 (Ac H3 0) (tl 0 42 [(0, P00), (2, P10), (3, .ptr 2 0 0), (11, pI c), (12, pI (IntKind.wrap .i64 ((i : Int) + 1)))]) [.row [[pS x2.1, pB x2.2]], .row aR1, .row [[pB false, pI 0, pI 0, pT [], .tight [], .tight [], .sl (Ap (l ++ [(OpS.mk okr psr (Val.mk vkr vnr vsr vir vnsr) tsr)])) 3 (List.length (Ap (l ++ [(OpS.mk okr psr (Val.mk vkr vnr vsr vir vnsr) tsr)])))]], .spare 8 (List.length (Ap (l ++ [(OpS.mk okr psr (Val.mk vkr vnr vsr vir vnsr) tsr)])))] r) :
  LoopN lp 1 (Ac H3 0) (tl 0 42 [(0, P00), (2, P10), (3, .ptr 2 0 0), (11, pI c), (12, pI (i : Int))]) (Lm l x) r :=
 have q1 : Runs lp 15 [P00] (aR5 x) (pB x.2, (aR5 x)) := (Eh x)
 have q2 : OpW [.row [[pS x2.1, pB x2.2]], .row aR1, .row (aR4 l), .spare 8 (List.length (Ap l))] (.append false 8 136 (.const (.sl (Ap l) 3 (List.length (Ap l)))) (.const (.tight [[.int .i64 okr, .sl (Ab psr), .int .i64 vkr, .int .i64 vnr, .str vsr, .sl (Ad vir), .sl (Ab vnsr), .sl (Ab tsr)]]))) (.sl (Ap (l ++ [(OpS.mk okr psr (Val.mk vkr vnr vsr vir vnsr) tsr)])) 3 (List.length (Ap (l ++ [(OpS.mk okr psr (Val.mk vkr vnr vsr vir vnsr) tsr)])))) [.row [[pS x2.1, pB x2.2]], .row aR1, .row (aR4 l), .spare 8 (List.length (Ap (l ++ [(OpS.mk okr psr (Val.mk vkr vnr vsr vir vnsr) tsr)])))] := (Gd (o := (OpS.mk okr psr (Val.mk vkr vnr vsr vir vnsr) tsr)) rfl h4)
 LoopAt.on (N := 100) (os := [(1, .b true), (1, oC q1), (1, .b true), (3, oC h3), (1, oO q2)]) (ps := [_, _, _, _, Am A3 [] [.row [[pS x2.1, pB x2.2]], .row aR1, .row (aR4 l), .spare 8 (List.length (Ap l))] (.load false 1 (.const (.ptr 2 0 6))) = some (.sl (Ap l) 3 (List.length (Ap l)), [.row [[pS x2.1, pB x2.2]], .row aR1, .row (aR4 l), .spare 8 (List.length (Ap l))]), _]) (by kernel_rfl) ⟨cI c1, q1, cI c2, h3, (by kernel_rfl), q2, trivial⟩ hr
theorem sRdS_yn {x : Src} {c : Int} {l : List OpS} {i : Nat} (c1 : (decide ((i : Int) < c)) = true) (c2 : (!x.2) = false) {r : RL} (hr : LoopN lp 1 (Ac H3 0) (tl 0 42 [(0, P00), (2, P10), (3, .ptr 2 0 0), (11, pI c), (12, pI (IntKind.wrap .i64 ((i : Int) + 1)))]) (Lm l x) r) :
  LoopN lp 1 (Ac H3 0) (tl 0 42 [(0, P00), (2, P10), (3, .ptr 2 0 0), (11, pI c), (12, pI (i : Int))]) (Lm l x) r :=
 have q1 : Runs lp 15 [P00] (aR5 x) (pB x.2, (aR5 x)) := (Eh x)
 lO [(1, .b true), (1, oC q1), (1, .b false)] [_, _, _] (by kernel_rfl) ⟨cI c1, q1, cI c2, trivial⟩ hr
theorem sRdS_n {x : Src} {c : Int} {l : List OpS} {i : Nat} (c1 : (decide ((i : Int) < c)) = false) :
  LoopN lp 1 (Ac H3 0) (tl 0 42 [(0, P00), (2, P10), (3, .ptr 2 0 0), (11, pI c), (12, pI (i : Int))]) (Lm l x) (.exit 1, (tl 0 42 [(0, P00), (2, P10), (3, .ptr 2 0 0)]), (Lm l x)) :=
 lX [(1, .b false)] [_] (by kernel_rfl) (by kernel_rfl) ⟨cI c1, trivial⟩
theorem sRd0 {k n : Int} {s : BY} {is : List Val} {ns : BL} {x x2 : Src} {l : List OpS} (w1 : (((Aa x).1) == 0) = true → (decide (l = [])) = true → LoopN lp 1 (Ac H3 0) (tl 0 42 [(0, P00), (2, P10), (3, .ptr 2 0 0), (11, pI ((Ai ((Aa x).2) 16).1)), (12, pI 0)]) [.row [[pS ((Ai ((Aa x).2) 16).2.1), pB ((Ai ((Aa x).2) 16).2.2)]], .row aR1, .row aR1] (.exit 1, (tl 0 42 [(0, P00), (2, P10), (3, .ptr 2 0 0)]), [.row [[pS x2.1, pB x2.2]], .row aR1, .row aR1])) (w2 : (((Aa x).1) == 0) = true → (decide (l = [])) = true → (x2.2) = false → Runs lp 20 [.agg E9] [] (pI (Bp false (Val.mk 0 0 [] [] []) []), [])) (w3 : (((Aa x).1) == 0) = true → (decide (l = [])) = false → LoopN lp 1 (Ac H3 0) (tl 0 42 [(0, P00), (2, P10), (3, .ptr 2 0 0), (11, pI ((Ai ((Aa x).2) 16).1)), (12, pI 0)]) [.row [[pS ((Ai ((Aa x).2) 16).2.1), pB ((Ai ((Aa x).2) 16).2.2)]], .row aR1, .row aR1] (.exit 1, (tl 0 42 [(0, P00), (2, P10), (3, .ptr 2 0 0)]), [.row [[pS x2.1, pB x2.2]], .row aR1, .row (aR4 l), .spare 8 (List.length (Ap l))])) (w4 : (((Aa x).1) == 0) = true → (decide (l = [])) = false → (x2.2) = false → Runs lp 20 [.agg [pB false, pI 0, pI 0, pT [], .p (.sl []), .p (.sl []), pO l]] [] (pI (Bp false (Val.mk 0 0 [] [] []) l), [])) (w5 : (((Aa x).1) == 0) = false → (((Aa x).1) == 1) = true → Runs lp 39 [P00] [.row [[pS ((Aa x).2.1), pB ((Aa x).2.2)]]] (.agg (aR7 is k n ns s), (Bf x2))) (w6 : (((Aa x).1) == 0) = false → (((Aa x).1) == 1) = true → (x2.2) = false → Runs lp 20 [.agg [pB true, pI k, pI n, pT s, pV is, pN ns, .p (.sl [])]] [] (pI (Bp true (Val.mk k n s is ns) []), [])) :
  Runs lp 12 [P00] (aR5 x) (if (((Aa x).1) == 0) = true then (if (decide (l = [])) = true then (if (x2.2) = true then ((.agg E9, [.row [[pS x2.1, pB true]]])) else (if ((Bp false (Val.mk 0 0 [] [] []) []) == 0) = true then ((.agg E9, (Bf x2))) else ((.agg E9, [.row [[pS x2.1, pB true]]])))) else (if (x2.2) = true then ((.agg E9, [.row [[pS x2.1, pB true]]])) else (if ((Bp false (Val.mk 0 0 [] [] []) l) == 0) = true then ((.agg [pB false, pI 0, pI 0, pT [], .p (.sl []), .p (.sl []), pO l], (Bf x2))) else ((.agg E9, [.row [[pS x2.1, pB true]]]))))) else (if (((Aa x).1) == 1) = true then (if (x2.2) = true then ((.agg E9, [.row [[pS x2.1, pB true]]])) else (if ((Bp true (Val.mk k n s is ns) []) == 0) = true then ((.agg [pB true, pI k, pI n, pT s, pV is, pN ns, .p (.sl [])], (Bf x2))) else ((.agg E9, [.row [[pS x2.1, pB true]]])))) else ((.agg E9, [.row [[pS ((Aa x).2.1), pB true]]])))) := by
 by_cases k1 : (((Aa x).1) == 0) = true
 ·refine Ak k1 ?_
  by_cases k2 : (decide (l = [])) = true
  ·refine Ak k2 ?_
   by_cases k3 : (x2.2) = true
   ·refine Ak k3 ?_
    exact
     have q1 : Runs lp 36 [P00] (aR5 x) (pI ((Aa x).1), [.row [[pS ((Aa x).2.1), pB ((Aa x).2.2)]]]) := (C1 x)
     have q2 : Runs lp 37 [P00, pI 16] [.row [[pS ((Aa x).2.1), pB ((Aa x).2.2)]]] (pI ((Ai ((Aa x).2) 16).1), [.row [[pS ((Ai ((Aa x).2) 16).2.1), pB ((Ai ((Aa x).2) 16).2.2)]]]) := (E6 ((Aa x).2) 16)
     have q3 : Runs lp 15 [P00] (Bf x2) (pB x2.2, (Bf x2)) := (Eh x2)
     have q4 : Runs lp 40 [P00] (Bf x2) (.tup [], [.row [[pS x2.1, pB true]]]) := (Ei x2)
     rO [(3, oC q1), (2, .b true), (1, oC q2), (1, oL (w1 k1 k2)), (1, oC q3), (1, .b true), (0, .b true), (0, .b true), (0, .b true), (2, oC q4)] [_, _, _, _, _, _, _, _, _, _] (by kernel_rfl) ⟨q1, cI k1, q2, (w1 k1 k2), q3, cI k3, cI k3, cI k3, cI k3, q4, trivial⟩
   ·refine Al k3 ?_
    replace k3 := Bool.eq_false_iff.2 k3
    by_cases k4 : ((Bp false (Val.mk 0 0 [] [] []) []) == 0) = true
    ·refine Ak k4 ?_
     exact
      have q1 : Runs lp 36 [P00] (aR5 x) (pI ((Aa x).1), [.row [[pS ((Aa x).2.1), pB ((Aa x).2.2)]]]) := (C1 x)
      have q2 : Runs lp 37 [P00, pI 16] [.row [[pS ((Aa x).2.1), pB ((Aa x).2.2)]]] (pI ((Ai ((Aa x).2) 16).1), [.row [[pS ((Ai ((Aa x).2) 16).2.1), pB ((Ai ((Aa x).2) 16).2.2)]]]) := (E6 ((Aa x).2) 16)
      have q3 : Runs lp 15 [P00] (Bf x2) (pB x2.2, (Bf x2)) := (Eh x2)
      rO [(3, oC q1), (2, .b true), (1, oC q2), (1, oL (w1 k1 k2)), (1, oC q3), (1, .b false), (1, .b false), (0, oC (w2 k1 k2 k3)), (0, .b false), (1, .b false), (0, .b false)] [_, _, _, _, _, _, _, _, _, _, _] (by kernel_rfl) ⟨q1, cI k1, q2, (w1 k1 k2), q3, cI k3, cI k3, (w2 k1 k2 k3), cI k3, cI k3, (cI (Ae k4)), trivial⟩
    ·refine Al k4 ?_
     replace k4 := Bool.eq_false_iff.2 k4
     exact
      have q1 : Runs lp 36 [P00] (aR5 x) (pI ((Aa x).1), [.row [[pS ((Aa x).2.1), pB ((Aa x).2.2)]]]) := (C1 x)
      have q2 : Runs lp 37 [P00, pI 16] [.row [[pS ((Aa x).2.1), pB ((Aa x).2.2)]]] (pI ((Ai ((Aa x).2) 16).1), [.row [[pS ((Ai ((Aa x).2) 16).2.1), pB ((Ai ((Aa x).2) 16).2.2)]]]) := (E6 ((Aa x).2) 16)
      have q3 : Runs lp 15 [P00] (Bf x2) (pB x2.2, (Bf x2)) := (Eh x2)
      have q4 : Runs lp 40 [P00] (Bf x2) (.tup [], [.row [[pS x2.1, pB true]]]) := (Ei x2)
      rO [(3, oC q1), (2, .b true), (1, oC q2), (1, oL (w1 k1 k2)), (1, oC q3), (1, .b false), (1, .b false), (0, oC (w2 k1 k2 k3)), (0, .b false), (1, .b false), (0, .b true), (1, oC q4)] [_, _, _, _, _, _, _, _, _, _, _, _] (by kernel_rfl) ⟨q1, cI k1, q2, (w1 k1 k2), q3, cI k3, cI k3, (w2 k1 k2 k3), cI k3, cI k3, (cI (Ae k4)), q4, trivial⟩
  ·refine Al k2 ?_
   replace k2 := Bool.eq_false_iff.2 k2
   by_cases k3 : (x2.2) = true
   ·refine Ak k3 ?_
    exact
     have q1 : Runs lp 36 [P00] (aR5 x) (pI ((Aa x).1), [.row [[pS ((Aa x).2.1), pB ((Aa x).2.2)]]]) := (C1 x)
     have q2 : Runs lp 37 [P00, pI 16] [.row [[pS ((Aa x).2.1), pB ((Aa x).2.2)]]] (pI ((Ai ((Aa x).2) 16).1), [.row [[pS ((Ai ((Aa x).2) 16).2.1), pB ((Ai ((Aa x).2) 16).2.2)]]]) := (E6 ((Aa x).2) 16)
     have q3 : Runs lp 15 [P00] (Bf x2) (pB x2.2, (Bf x2)) := (Eh x2)
     have q4 : Runs lp 40 [P00] (Bf x2) (.tup [], [.row [[pS x2.1, pB true]]]) := (Ei x2)
     rO [(3, oC q1), (2, .b true), (1, oC q2), (1, oL (w3 k1 k2)), (1, oC q3), (1, .b true), (0, .b true), (0, .b true), (0, .b true), (2, oC q4)] [_, _, _, _, _, _, _, _, _, _] (by kernel_rfl) ⟨q1, cI k1, q2, (w3 k1 k2), q3, cI k3, cI k3, cI k3, cI k3, q4, trivial⟩
   ·refine Al k3 ?_
    replace k3 := Bool.eq_false_iff.2 k3
    by_cases k4 : ((Bp false (Val.mk 0 0 [] [] []) l) == 0) = true
    ·refine Ak k4 ?_
     exact
      have q1 : Runs lp 36 [P00] (aR5 x) (pI ((Aa x).1), [.row [[pS ((Aa x).2.1), pB ((Aa x).2.2)]]]) := (C1 x)
      have q2 : Runs lp 37 [P00, pI 16] [.row [[pS ((Aa x).2.1), pB ((Aa x).2.2)]]] (pI ((Ai ((Aa x).2) 16).1), [.row [[pS ((Ai ((Aa x).2) 16).2.1), pB ((Ai ((Aa x).2) 16).2.2)]]]) := (E6 ((Aa x).2) 16)
      have q3 : Runs lp 15 [P00] (Bf x2) (pB x2.2, (Bf x2)) := (Eh x2)
      rO [(3, oC q1), (2, .b true), (1, oC q2), (1, oL (w3 k1 k2)), (1, oC q3), (1, .b false), (1, .b false), (0, oC (w4 k1 k2 k3)), (0, .b false), (1, .b false), (0, .b false)] [_, _, _, _, _, _, _, _, _, _, _] (by kernel_rfl) ⟨q1, cI k1, q2, (w3 k1 k2), q3, cI k3, cI k3, (w4 k1 k2 k3), cI k3, cI k3, (cI (Ae k4)), trivial⟩
    ·refine Al k4 ?_
     replace k4 := Bool.eq_false_iff.2 k4
     exact
      have q1 : Runs lp 36 [P00] (aR5 x) (pI ((Aa x).1), [.row [[pS ((Aa x).2.1), pB ((Aa x).2.2)]]]) := (C1 x)
      have q2 : Runs lp 37 [P00, pI 16] [.row [[pS ((Aa x).2.1), pB ((Aa x).2.2)]]] (pI ((Ai ((Aa x).2) 16).1), [.row [[pS ((Ai ((Aa x).2) 16).2.1), pB ((Ai ((Aa x).2) 16).2.2)]]]) := (E6 ((Aa x).2) 16)
      have q3 : Runs lp 15 [P00] (Bf x2) (pB x2.2, (Bf x2)) := (Eh x2)
      have q4 : Runs lp 40 [P00] (Bf x2) (.tup [], [.row [[pS x2.1, pB true]]]) := (Ei x2)
      rO [(3, oC q1), (2, .b true), (1, oC q2), (1, oL (w3 k1 k2)), (1, oC q3), (1, .b false), (1, .b false), (0, oC (w4 k1 k2 k3)), (0, .b false), (1, .b false), (0, .b true), (1, oC q4)] [_, _, _, _, _, _, _, _, _, _, _, _] (by kernel_rfl) ⟨q1, cI k1, q2, (w3 k1 k2), q3, cI k3, cI k3, (w4 k1 k2 k3), cI k3, cI k3, (cI (Ae k4)), q4, trivial⟩
 ·refine Al k1 ?_
  replace k1 := Bool.eq_false_iff.2 k1
  by_cases k2 : (((Aa x).1) == 1) = true
  ·refine Ak k2 ?_
   by_cases k3 : (x2.2) = true
   ·refine Ak k3 ?_
    exact
     have q1 : Runs lp 36 [P00] (aR5 x) (pI ((Aa x).1), [.row [[pS ((Aa x).2.1), pB ((Aa x).2.2)]]]) := (C1 x)
     have q2 : Runs lp 15 [P00] (Bf x2) (pB x2.2, (Bf x2)) := (Eh x2)
     have q3 : Runs lp 40 [P00] (Bf x2) (.tup [], [.row [[pS x2.1, pB true]]]) := (Ei x2)
     rO [(3, oC q1), (2, .b false), (2, .b true), (1, oC (w5 k1 k2)), (5, oC q2), (1, .b true), (0, .b true), (0, .b true), (0, .b true), (2, oC q3)] [_, _, _, _, _, _, _, _, _, _] (by kernel_rfl) ⟨q1, cI k1, cI k2, (w5 k1 k2), q2, cI k3, cI k3, cI k3, cI k3, q3, trivial⟩
   ·refine Al k3 ?_
    replace k3 := Bool.eq_false_iff.2 k3
    by_cases k4 : ((Bp true (Val.mk k n s is ns) []) == 0) = true
    ·refine Ak k4 ?_
     exact
      have q1 : Runs lp 36 [P00] (aR5 x) (pI ((Aa x).1), [.row [[pS ((Aa x).2.1), pB ((Aa x).2.2)]]]) := (C1 x)
      have q2 : Runs lp 15 [P00] (Bf x2) (pB x2.2, (Bf x2)) := (Eh x2)
      rO [(3, oC q1), (2, .b false), (2, .b true), (1, oC (w5 k1 k2)), (5, oC q2), (1, .b false), (1, .b false), (0, oC (w6 k1 k2 k3)), (0, .b false), (1, .b false), (0, .b false)] [_, _, _, _, _, _, _, _, _, _, _] (by kernel_rfl) ⟨q1, cI k1, cI k2, (w5 k1 k2), q2, cI k3, cI k3, (w6 k1 k2 k3), cI k3, cI k3, (cI (Ae k4)), trivial⟩
    ·refine Al k4 ?_
     replace k4 := Bool.eq_false_iff.2 k4
     exact
      have q1 : Runs lp 36 [P00] (aR5 x) (pI ((Aa x).1), [.row [[pS ((Aa x).2.1), pB ((Aa x).2.2)]]]) := (C1 x)
      have q2 : Runs lp 15 [P00] (Bf x2) (pB x2.2, (Bf x2)) := (Eh x2)
      have q3 : Runs lp 40 [P00] (Bf x2) (.tup [], [.row [[pS x2.1, pB true]]]) := (Ei x2)
      rO [(3, oC q1), (2, .b false), (2, .b true), (1, oC (w5 k1 k2)), (5, oC q2), (1, .b false), (1, .b false), (0, oC (w6 k1 k2 k3)), (0, .b false), (1, .b false), (0, .b true), (1, oC q3)] [_, _, _, _, _, _, _, _, _, _, _, _] (by kernel_rfl) ⟨q1, cI k1, cI k2, (w5 k1 k2), q2, cI k3, cI k3, (w6 k1 k2 k3), cI k3, cI k3, (cI (Ae k4)), q3, trivial⟩
  ·refine Al k2 ?_
   replace k2 := Bool.eq_false_iff.2 k2
   exact
    have q1 : Runs lp 36 [P00] (aR5 x) (pI ((Aa x).1), [.row [[pS ((Aa x).2.1), pB ((Aa x).2.2)]]]) := (C1 x)
    have q2 : Runs lp 40 [P00] [.row [[pS ((Aa x).2.1), pB ((Aa x).2.2)]]] (.tup [], [.row [[pS ((Aa x).2.1), pB true]]]) := (Ei ((Aa x).2))
    have q3 : Runs lp 15 [P00] [.row [[pS ((Aa x).2.1), pB true]]] (pB true, [.row [[pS ((Aa x).2.1), pB true]]]) := (Eh ((Aa x).2.1, true))
    have q4 : Runs lp 40 [P00] [.row [[pS ((Aa x).2.1), pB true]]] (.tup [], [.row [[pS ((Aa x).2.1), pB true]]]) := (Ei ((Aa x).2.1, true))
    rO [(3, oC q1), (2, .b false), (2, .b false), (1, oC q2), (1, oC q3), (1, .b true), (0, .b true), (0, .b true), (0, .b true), (2, oC q4)] [_, _, _, _, _, _, _, _, _, _] (by kernel_rfl) ⟨q1, cI k1, cI k2, q2, q3, (cI (b := true) (c := true) (by simp)), (cI (b := true) (c := true) (by simp)), (cI (b := true) (c := true) (by simp)), (cI (b := true) (c := true) (by simp)), q4, trivial⟩
theorem Zi {x : Src} {c : Int} {i : Nat} (c1 : (decide ((i : Int) < c)) = true) (c2 : (!x.2) = true) (h3 : Runs lp 44 [P00] [.row [[pS ((Aa x).2.1), pB ((Aa x).2.2)]]] (pN (Af false ((Aa x).2)).1, [.row [[pS ((Af false ((Aa x).2)).2.1), pB ((Af false ((Aa x).2)).2.2)]]])) (c4 : (((Aa x).1) == 2) = true) {r : RL} (hr : LoopN lp 1 (Ac E8 0) (tl 0 73 [(0, P00), (2, P10), (3, .ptr 2 0 0), (4, pI c), (5, pI (IntKind.wrap .i64 ((i : Int) + 1)))]) [.row [[pS ((Af false ((Aa x).2)).2.1), pB ((Af false ((Aa x).2)).2.2)]], .row aR1, .row [[pB false, pI 0, pI 0, pT [], .tight [], .tight [], .sl (Ap [(OpS.mk ((Aa x).1) ((Af false ((Aa x).2)).1) (Val.mk 0 0 [] [] []) [])]) 3 (List.length (Ap [(OpS.mk ((Aa x).1) ((Af false ((Aa x).2)).1) (Val.mk 0 0 [] [] []) [])]))]], .spare 8 (List.length (Ap [(OpS.mk ((Aa x).1) ((Af false ((Aa x).2)).1) (Val.mk 0 0 [] [] []) [])]))] r) :
  LoopN lp 1 (Ac E8 0) (tl 0 73 [(0, P00), (2, P10), (3, .ptr 2 0 0), (4, pI c), (5, pI (i : Int))]) [.row [[pS x.1, pB x.2]], .row aR1, .row aR1] r :=
 have q1 : Runs lp 41 [P00] (aR5 x) (pI ((Aa x).1), [.row [[pS ((Aa x).2.1), pB ((Aa x).2.2)]]]) := (B9 x)
 have q2 : OpW [.row [[pS ((Af false ((Aa x).2)).2.1), pB ((Af false ((Aa x).2)).2.2)]], .row aR1, .row aR1, .row [[pI ((Aa x).1), pN (Af false ((Aa x).2)).1, pI 0, pI 0, pT [], .tight [], .tight [], .tight []]]] (.append false 8 136 (.const (.tight [])) (.const (.tight [[.int .i64 ((Aa x).1), .sl (Ab (Af false ((Aa x).2)).1), .int .i64 0, .int .i64 0, .str [], .sl [], .sl [], .sl []]]))) (.sl (Ap [(OpS.mk ((Aa x).1) ((Af false ((Aa x).2)).1) (Val.mk 0 0 [] [] []) [])]) 4 (List.length (Ap [(OpS.mk ((Aa x).1) ((Af false ((Aa x).2)).1) (Val.mk 0 0 [] [] []) [])]))) [.row [[pS ((Af false ((Aa x).2)).2.1), pB ((Af false ((Aa x).2)).2.2)]], .row aR1, .row aR1, .row [[pI ((Aa x).1), pN (Af false ((Aa x).2)).1, pI 0, pI 0, pT [], .tight [], .tight [], .tight []]], .spare 8 (List.length (Ap [(OpS.mk ((Aa x).1) ((Af false ((Aa x).2)).1) (Val.mk 0 0 [] [] []) [])]))] := (Ge (o := (OpS.mk ((Aa x).1) ((Af false ((Aa x).2)).1) (Val.mk 0 0 [] [] []) [])))
 lO [(4, .b true), (1, .b true), (1, .b true), (1, .b true), (1, .b true), (1, .b true), (0, .b true), (1, oC q1), (4, oC h3), (6, .b true), (4, oO q2)] [_, _, _, _, _, _, _, _, _, _, _] (by kernel_rfl) ⟨cI c1, cI c1, cI c1, cI c1, cI c1, cI c1, cI c2, q1, h3, cI c4, q2, trivial⟩ hr
theorem Vt {x : Src} {c : Int} {i : Nat} (c1 : (decide ((i : Int) < c)) = true) (c2 : (!x.2) = true) (h3 : Runs lp 44 [P00] [.row [[pS ((Aa x).2.1), pB ((Aa x).2.2)]]] (pN (Af false ((Aa x).2)).1, [.row [[pS ((Af false ((Aa x).2)).2.1), pB ((Af false ((Aa x).2)).2.2)]]])) (c4 : (((Aa x).1) == 2) = false) (c5 : (((Aa x).1) == 6) = true) (h6 : Runs lp 44 [P00] [.row [[pS ((Af false ((Aa x).2)).2.1), pB ((Af false ((Aa x).2)).2.2)]]] (pN (Af false ((Af false ((Aa x).2)).2)).1, [.row [[pS ((Af false ((Af false ((Aa x).2)).2)).2.1), pB ((Af false ((Af false ((Aa x).2)).2)).2.2)]]])) {r : RL} (hr : LoopN lp 1 (Ac E8 0) (tl 0 73 [(0, P00), (2, P10), (3, .ptr 2 0 0), (4, pI c), (5, pI (IntKind.wrap .i64 ((i : Int) + 1)))]) [.row [[pS ((Af false ((Af false ((Aa x).2)).2)).2.1), pB ((Af false ((Af false ((Aa x).2)).2)).2.2)]], .row aR1, .row [[pB false, pI 0, pI 0, pT [], .tight [], .tight [], .sl (Ap [(OpS.mk ((Aa x).1) ((Af false ((Aa x).2)).1) (Val.mk 0 0 [] [] []) ((Af false ((Af false ((Aa x).2)).2)).1))]) 3 (List.length (Ap [(OpS.mk ((Aa x).1) ((Af false ((Aa x).2)).1) (Val.mk 0 0 [] [] []) ((Af false ((Af false ((Aa x).2)).2)).1))]))]], .spare 8 (List.length (Ap [(OpS.mk ((Aa x).1) ((Af false ((Aa x).2)).1) (Val.mk 0 0 [] [] []) ((Af false ((Af false ((Aa x).2)).2)).1))]))] r) :
  LoopN lp 1 (Ac E8 0) (tl 0 73 [(0, P00), (2, P10), (3, .ptr 2 0 0), (4, pI c), (5, pI (i : Int))]) [.row [[pS x.1, pB x.2]], .row aR1, .row aR1] r :=
 have q1 : Runs lp 41 [P00] (aR5 x) (pI ((Aa x).1), [.row [[pS ((Aa x).2.1), pB ((Aa x).2.2)]]]) := (B9 x)
 have q2 : OpW [.row [[pS ((Af false ((Af false ((Aa x).2)).2)).2.1), pB ((Af false ((Af false ((Aa x).2)).2)).2.2)]], .row aR1, .row aR1, .row [[pI ((Aa x).1), pN (Af false ((Aa x).2)).1, pI 0, pI 0, pT [], .tight [], .tight [], pN (Af false ((Af false ((Aa x).2)).2)).1]]] (.append false 8 136 (.const (.tight [])) (.const (.tight [[.int .i64 ((Aa x).1), .sl (Ab (Af false ((Aa x).2)).1), .int .i64 0, .int .i64 0, .str [], .sl [], .sl [], .sl (Ab (Af false ((Af false ((Aa x).2)).2)).1)]]))) (.sl (Ap [(OpS.mk ((Aa x).1) ((Af false ((Aa x).2)).1) (Val.mk 0 0 [] [] []) ((Af false ((Af false ((Aa x).2)).2)).1))]) 4 (List.length (Ap [(OpS.mk ((Aa x).1) ((Af false ((Aa x).2)).1) (Val.mk 0 0 [] [] []) ((Af false ((Af false ((Aa x).2)).2)).1))]))) [.row [[pS ((Af false ((Af false ((Aa x).2)).2)).2.1), pB ((Af false ((Af false ((Aa x).2)).2)).2.2)]], .row aR1, .row aR1, .row [[pI ((Aa x).1), pN (Af false ((Aa x).2)).1, pI 0, pI 0, pT [], .tight [], .tight [], pN (Af false ((Af false ((Aa x).2)).2)).1]], .spare 8 (List.length (Ap [(OpS.mk ((Aa x).1) ((Af false ((Aa x).2)).1) (Val.mk 0 0 [] [] []) ((Af false ((Af false ((Aa x).2)).2)).1))]))] := (Ge (o := (OpS.mk ((Aa x).1) ((Af false ((Aa x).2)).1) (Val.mk 0 0 [] [] []) ((Af false ((Af false ((Aa x).2)).2)).1))))
 lO [(4, .b true), (1, .b true), (1, .b true), (1, .b true), (1, .b true), (1, .b true), (0, .b true), (1, oC q1), (4, oC h3), (6, .b false), (2, .b true), (1, oC h6), (6, oO q2)] [_, _, _, _, _, _, _, _, _, _, _, _, _] (by kernel_rfl) ⟨cI c1, cI c1, cI c1, cI c1, cI c1, cI c1, cI c2, q1, h3, cI c4, cI c5, h6, q2, trivial⟩ hr
theorem Vu {k n : Int} {s : BY} {is : List Val} {ns : BL} {x x3 : Src} {c : Int} {i : Nat} (c1 : (decide ((i : Int) < c)) = true) (c2 : (!x.2) = true) (h3 : Runs lp 44 [P00] [.row [[pS ((Aa x).2.1), pB ((Aa x).2.2)]]] (pN (Af false ((Aa x).2)).1, [.row [[pS ((Af false ((Aa x).2)).2.1), pB ((Af false ((Aa x).2)).2.2)]]])) (c4 : (((Aa x).1) == 2) = false) (c5 : (((Aa x).1) == 6) = false) (h6 : Runs lp 42 [P00] [.row [[pS ((Af false ((Aa x).2)).2.1), pB ((Af false ((Aa x).2)).2.2)]]] (.agg (aR7 is k n ns s), [.row [[pS x3.1, pB x3.2]]])) {r : RL} (hr : LoopN lp 1 (Ac E8 0) (tl 0 73 [(0, P00), (2, P10), (3, .ptr 2 0 0), (4, pI c), (5, pI (IntKind.wrap .i64 ((i : Int) + 1)))]) [.row [[pS x3.1, pB x3.2]], .row aR1, .row [[pB false, pI 0, pI 0, pT [], .tight [], .tight [], .sl (Ap [(OpS.mk ((Aa x).1) ((Af false ((Aa x).2)).1) (Val.mk k n s is ns) [])]) 3 (List.length (Ap [(OpS.mk ((Aa x).1) ((Af false ((Aa x).2)).1) (Val.mk k n s is ns) [])]))]], .spare 8 (List.length (Ap [(OpS.mk ((Aa x).1) ((Af false ((Aa x).2)).1) (Val.mk k n s is ns) [])]))] r) :
  LoopN lp 1 (Ac E8 0) (tl 0 73 [(0, P00), (2, P10), (3, .ptr 2 0 0), (4, pI c), (5, pI (i : Int))]) [.row [[pS x.1, pB x.2]], .row aR1, .row aR1] r :=
 have q1 : Runs lp 41 [P00] (aR5 x) (pI ((Aa x).1), [.row [[pS ((Aa x).2.1), pB ((Aa x).2.2)]]]) := (B9 x)
 have q2 : OpW [.row [[pS x3.1, pB x3.2]], .row aR1, .row aR1, .row [[pI ((Aa x).1), pN (Af false ((Aa x).2)).1, pI k, pI n, pT s, pV is, pN ns, .tight []]]] (.append false 8 136 (.const (.tight [])) (.const (.tight [[.int .i64 ((Aa x).1), .sl (Ab (Af false ((Aa x).2)).1), .int .i64 k, .int .i64 n, .str s, .sl (Ad is), .sl (Ab ns), .sl []]]))) (.sl (Ap [(OpS.mk ((Aa x).1) ((Af false ((Aa x).2)).1) (Val.mk k n s is ns) [])]) 4 (List.length (Ap [(OpS.mk ((Aa x).1) ((Af false ((Aa x).2)).1) (Val.mk k n s is ns) [])]))) [.row [[pS x3.1, pB x3.2]], .row aR1, .row aR1, .row [[pI ((Aa x).1), pN (Af false ((Aa x).2)).1, pI k, pI n, pT s, pV is, pN ns, .tight []]], .spare 8 (List.length (Ap [(OpS.mk ((Aa x).1) ((Af false ((Aa x).2)).1) (Val.mk k n s is ns) [])]))] := (Ge (o := (OpS.mk ((Aa x).1) ((Af false ((Aa x).2)).1) (Val.mk k n s is ns) [])))
 lO [(4, .b true), (1, .b true), (1, .b true), (1, .b true), (1, .b true), (1, .b true), (0, .b true), (1, oC q1), (4, oC h3), (6, .b false), (2, .b false), (1, oC h6), (6, oO q2)] [_, _, _, _, _, _, _, _, _, _, _, _, _] (by kernel_rfl) ⟨cI c1, cI c1, cI c1, cI c1, cI c1, cI c1, cI c2, q1, h3, cI c4, cI c5, h6, q2, trivial⟩ hr
theorem tRdT_yn {x : Src} {c : Int} {i : Nat} (c1 : (decide ((i : Int) < c)) = true) (c2 : (!x.2) = false) :
  LoopN lp 1 (Ac E8 0) (tl 0 73 [(0, P00), (2, P10), (3, .ptr 2 0 0), (4, pI c), (5, pI (i : Int))]) [.row [[pS x.1, pB x.2]], .row aR1, .row aR1] (.exit 1, (tl 0 73 [(0, P00), (2, P10), (3, .ptr 2 0 0)]), [.row [[pS x.1, pB x.2]], .row aR1, .row aR1]) :=
 lX [(4, .b true), (1, .b true), (1, .b true), (1, .b true), (1, .b true), (1, .b true), (0, .b false)] [_, _, _, _, _, _, _] (by kernel_rfl) (by kernel_rfl) ⟨cI c1, cI c1, cI c1, cI c1, cI c1, cI c1, cI c2, trivial⟩
theorem tRdT_n {x : Src} {c : Int} {i : Nat} (c1 : (decide ((i : Int) < c)) = false) :
  LoopN lp 1 (Ac E8 0) (tl 0 73 [(0, P00), (2, P10), (3, .ptr 2 0 0), (4, pI c), (5, pI (i : Int))]) [.row [[pS x.1, pB x.2]], .row aR1, .row aR1] (.exit 1, (tl 0 73 [(0, P00), (2, P10), (3, .ptr 2 0 0)]), [.row [[pS x.1, pB x.2]], .row aR1, .row aR1]) :=
 lX [(4, .b false), (0, .b false), (0, .b false), (0, .b false), (0, .b false), (0, .b false)] [_, _, _, _, _, _] (by kernel_rfl) (by kernel_rfl) ⟨cI c1, cI c1, cI c1, cI c1, cI c1, cI c1, trivial⟩
theorem Zj {x : Src} {c : Int} {l : List OpS} {i : Nat} (c1 : (decide ((i : Int) < c)) = true) (c2 : (!x.2) = true) (h3 : Runs lp 44 [P00] [.row [[pS ((Aa x).2.1), pB ((Aa x).2.2)]]] (pN (Af false ((Aa x).2)).1, [.row [[pS ((Af false ((Aa x).2)).2.1), pB ((Af false ((Aa x).2)).2.2)]]])) (c4 : (((Aa x).1) == 2) = true) (h5 : List.length l + 1 ≤ 500000000000) {r : RL} (hr : LoopN lp 1 (Ac E8 0) (tl 0 73 [(0, P00), (2, P10), (3, .ptr 2 0 0), (4, pI c), (5, pI (IntKind.wrap .i64 ((i : Int) + 1)))]) [.row [[pS ((Af false ((Aa x).2)).2.1), pB ((Af false ((Aa x).2)).2.2)]], .row aR1, .row [[pB false, pI 0, pI 0, pT [], .tight [], .tight [], .sl (Ap (l ++ [(OpS.mk ((Aa x).1) ((Af false ((Aa x).2)).1) (Val.mk 0 0 [] [] []) [])])) 3 (List.length (Ap (l ++ [(OpS.mk ((Aa x).1) ((Af false ((Aa x).2)).1) (Val.mk 0 0 [] [] []) [])])))]], .spare 8 (List.length (Ap (l ++ [(OpS.mk ((Aa x).1) ((Af false ((Aa x).2)).1) (Val.mk 0 0 [] [] []) [])])))] r) :
  LoopN lp 1 (Ac E8 0) (tl 0 73 [(0, P00), (2, P10), (3, .ptr 2 0 0), (4, pI c), (5, pI (i : Int))]) (Lm l x) r :=
 have q1 : Runs lp 41 [P00] (aR5 x) (pI ((Aa x).1), [.row [[pS ((Aa x).2.1), pB ((Aa x).2.2)]]]) := (B9 x)
 have q2 : OpW [.row [[pS ((Af false ((Aa x).2)).2.1), pB ((Af false ((Aa x).2)).2.2)]], .row aR1, .row (aR4 l), .spare 8 (List.length (Ap l)), .row [[pI ((Aa x).1), pN (Af false ((Aa x).2)).1, pI 0, pI 0, pT [], .tight [], .tight [], .tight []]]] (.append false 8 136 (.const (.sl (Ap l) 3 (List.length (Ap l)))) (.const (.tight [[.int .i64 ((Aa x).1), .sl (Ab (Af false ((Aa x).2)).1), .int .i64 0, .int .i64 0, .str [], .sl [], .sl [], .sl []]]))) (.sl (Ap (l ++ [(OpS.mk ((Aa x).1) ((Af false ((Aa x).2)).1) (Val.mk 0 0 [] [] []) [])])) 3 (List.length (Ap (l ++ [(OpS.mk ((Aa x).1) ((Af false ((Aa x).2)).1) (Val.mk 0 0 [] [] []) [])])))) [.row [[pS ((Af false ((Aa x).2)).2.1), pB ((Af false ((Aa x).2)).2.2)]], .row aR1, .row (aR4 l), .spare 8 (List.length (Ap (l ++ [(OpS.mk ((Aa x).1) ((Af false ((Aa x).2)).1) (Val.mk 0 0 [] [] []) [])]))), .row [[pI ((Aa x).1), pN (Af false ((Aa x).2)).1, pI 0, pI 0, pT [], .tight [], .tight [], .tight []]]] := (Gd (o := (OpS.mk ((Aa x).1) ((Af false ((Aa x).2)).1) (Val.mk 0 0 [] [] []) [])) rfl h5)
 lO [(4, .b true), (1, .b true), (1, .b true), (1, .b true), (1, .b true), (1, .b true), (0, .b true), (1, oC q1), (4, oC h3), (6, .b true), (4, oO q2)] [_, _, _, _, _, _, _, _, _, _, _] (by kernel_rfl) ⟨cI c1, cI c1, cI c1, cI c1, cI c1, cI c1, cI c2, q1, h3, cI c4, q2, trivial⟩ hr
theorem Vv {x : Src} {c : Int} {l : List OpS} {i : Nat} (c1 : (decide ((i : Int) < c)) = true) (c2 : (!x.2) = true) (h3 : Runs lp 44 [P00] [.row [[pS ((Aa x).2.1), pB ((Aa x).2.2)]]] (pN (Af false ((Aa x).2)).1, [.row [[pS ((Af false ((Aa x).2)).2.1), pB ((Af false ((Aa x).2)).2.2)]]])) (c4 : (((Aa x).1) == 2) = false) (c5 : (((Aa x).1) == 6) = true) (h6 : Runs lp 44 [P00] [.row [[pS ((Af false ((Aa x).2)).2.1), pB ((Af false ((Aa x).2)).2.2)]]] (pN (Af false ((Af false ((Aa x).2)).2)).1, [.row [[pS ((Af false ((Af false ((Aa x).2)).2)).2.1), pB ((Af false ((Af false ((Aa x).2)).2)).2.2)]]])) (h7 : List.length l + 1 ≤ 500000000000) {r : RL} (hr : LoopN lp 1 (Ac E8 0) (tl 0 73 [(0, P00), (2, P10), (3, .ptr 2 0 0), (4, pI c), (5, pI (IntKind.wrap .i64 ((i : Int) + 1)))]) [.row [[pS ((Af false ((Af false ((Aa x).2)).2)).2.1), pB ((Af false ((Af false ((Aa x).2)).2)).2.2)]], .row aR1, .row [[pB false, pI 0, pI 0, pT [], .tight [], .tight [], .sl (Ap (l ++ [(OpS.mk ((Aa x).1) ((Af false ((Aa x).2)).1) (Val.mk 0 0 [] [] []) ((Af false ((Af false ((Aa x).2)).2)).1))])) 3 (List.length (Ap (l ++ [(OpS.mk ((Aa x).1) ((Af false ((Aa x).2)).1) (Val.mk 0 0 [] [] []) ((Af false ((Af false ((Aa x).2)).2)).1))])))]], .spare 8 (List.length (Ap (l ++ [(OpS.mk ((Aa x).1) ((Af false ((Aa x).2)).1) (Val.mk 0 0 [] [] []) ((Af false ((Af false ((Aa x).2)).2)).1))])))] r) :
  LoopN lp 1 (Ac E8 0) (tl 0 73 [(0, P00), (2, P10), (3, .ptr 2 0 0), (4, pI c), (5, pI (i : Int))]) (Lm l x) r :=
 have q1 : Runs lp 41 [P00] (aR5 x) (pI ((Aa x).1), [.row [[pS ((Aa x).2.1), pB ((Aa x).2.2)]]]) := (B9 x)
 have q2 : OpW [.row [[pS ((Af false ((Af false ((Aa x).2)).2)).2.1), pB ((Af false ((Af false ((Aa x).2)).2)).2.2)]], .row aR1, .row (aR4 l), .spare 8 (List.length (Ap l)), .row [[pI ((Aa x).1), pN (Af false ((Aa x).2)).1, pI 0, pI 0, pT [], .tight [], .tight [], pN (Af false ((Af false ((Aa x).2)).2)).1]]] (.append false 8 136 (.const (.sl (Ap l) 3 (List.length (Ap l)))) (.const (.tight [[.int .i64 ((Aa x).1), .sl (Ab (Af false ((Aa x).2)).1), .int .i64 0, .int .i64 0, .str [], .sl [], .sl [], .sl (Ab (Af false ((Af false ((Aa x).2)).2)).1)]]))) (.sl (Ap (l ++ [(OpS.mk ((Aa x).1) ((Af false ((Aa x).2)).1) (Val.mk 0 0 [] [] []) ((Af false ((Af false ((Aa x).2)).2)).1))])) 3 (List.length (Ap (l ++ [(OpS.mk ((Aa x).1) ((Af false ((Aa x).2)).1) (Val.mk 0 0 [] [] []) ((Af false ((Af false ((Aa x).2)).2)).1))])))) [.row [[pS ((Af false ((Af false ((Aa x).2)).2)).2.1), pB ((Af false ((Af false ((Aa x).2)).2)).2.2)]], .row aR1, .row (aR4 l), .spare 8 (List.length (Ap (l ++ [(OpS.mk ((Aa x).1) ((Af false ((Aa x).2)).1) (Val.mk 0 0 [] [] []) ((Af false ((Af false ((Aa x).2)).2)).1))]))), .row [[pI ((Aa x).1), pN (Af false ((Aa x).2)).1, pI 0, pI 0, pT [], .tight [], .tight [], pN (Af false ((Af false ((Aa x).2)).2)).1]]] := (Gd (o := (OpS.mk ((Aa x).1) ((Af false ((Aa x).2)).1) (Val.mk 0 0 [] [] []) ((Af false ((Af false ((Aa x).2)).2)).1))) rfl h7)
 lO [(4, .b true), (1, .b true), (1, .b true), (1, .b true), (1, .b true), (1, .b true), (0, .b true), (1, oC q1), (4, oC h3), (6, .b false), (2, .b true), (1, oC h6), (6, oO q2)] [_, _, _, _, _, _, _, _, _, _, _, _, _] (by kernel_rfl) ⟨cI c1, cI c1, cI c1, cI c1, cI c1, cI c1, cI c2, q1, h3, cI c4, cI c5, h6, q2, trivial⟩ hr
theorem Vw {k n : Int} {s : BY} {is : List Val} {ns : BL} {x x3 : Src} {c : Int} {l : List OpS} {i : Nat} (c1 : (decide ((i : Int) < c)) = true) (c2 : (!x.2) = true) (h3 : Runs lp 44 [P00] [.row [[pS ((Aa x).2.1), pB ((Aa x).2.2)]]] (pN (Af false ((Aa x).2)).1, [.row [[pS ((Af false ((Aa x).2)).2.1), pB ((Af false ((Aa x).2)).2.2)]]])) (c4 : (((Aa x).1) == 2) = false) (c5 : (((Aa x).1) == 6) = false) (h6 : Runs lp 42 [P00] [.row [[pS ((Af false ((Aa x).2)).2.1), pB ((Af false ((Aa x).2)).2.2)]]] (.agg (aR7 is k n ns s), [.row [[pS x3.1, pB x3.2]]])) (h7 : List.length l + 1 ≤ 500000000000) {r : RL} (hr : LoopN lp 1 (Ac E8 0) (tl 0 73 [(0, P00), (2, P10), (3, .ptr 2 0 0), (4, pI c), (5, pI (IntKind.wrap .i64 ((i : Int) + 1)))]) [.row [[pS x3.1, pB x3.2]], .row aR1, .row [[pB false, pI 0, pI 0, pT [], .tight [], .tight [], .sl (Ap (l ++ [(OpS.mk ((Aa x).1) ((Af false ((Aa x).2)).1) (Val.mk k n s is ns) [])])) 3 (List.length (Ap (l ++ [(OpS.mk ((Aa x).1) ((Af false ((Aa x).2)).1) (Val.mk k n s is ns) [])])))]], .spare 8 (List.length (Ap (l ++ [(OpS.mk ((Aa x).1) ((Af false ((Aa x).2)).1) (Val.mk k n s is ns) [])])))] r) :
  LoopN lp 1 (Ac E8 0) (tl 0 73 [(0, P00), (2, P10), (3, .ptr 2 0 0), (4, pI c), (5, pI (i : Int))]) (Lm l x) r :=
 have q1 : Runs lp 41 [P00] (aR5 x) (pI ((Aa x).1), [.row [[pS ((Aa x).2.1), pB ((Aa x).2.2)]]]) := (B9 x)
 have q2 : OpW [.row [[pS x3.1, pB x3.2]], .row aR1, .row (aR4 l), .spare 8 (List.length (Ap l)), .row [[pI ((Aa x).1), pN (Af false ((Aa x).2)).1, pI k, pI n, pT s, pV is, pN ns, .tight []]]] (.append false 8 136 (.const (.sl (Ap l) 3 (List.length (Ap l)))) (.const (.tight [[.int .i64 ((Aa x).1), .sl (Ab (Af false ((Aa x).2)).1), .int .i64 k, .int .i64 n, .str s, .sl (Ad is), .sl (Ab ns), .sl []]]))) (.sl (Ap (l ++ [(OpS.mk ((Aa x).1) ((Af false ((Aa x).2)).1) (Val.mk k n s is ns) [])])) 3 (List.length (Ap (l ++ [(OpS.mk ((Aa x).1) ((Af false ((Aa x).2)).1) (Val.mk k n s is ns) [])])))) [.row [[pS x3.1, pB x3.2]], .row aR1, .row (aR4 l), .spare 8 (List.length (Ap (l ++ [(OpS.mk ((Aa x).1) ((Af false ((Aa x).2)).1) (Val.mk k n s is ns) [])]))), .row [[pI ((Aa x).1), pN (Af false ((Aa x).2)).1, pI k, pI n, pT s, pV is, pN ns, .tight []]]] := (Gd (o := (OpS.mk ((Aa x).1) ((Af false ((Aa x).2)).1) (Val.mk k n s is ns) [])) rfl h7)
 lO [(4, .b true), (1, .b true), (1, .b true), (1, .b true), (1, .b true), (1, .b true), (0, .b true), (1, oC q1), (4, oC h3), (6, .b false), (2, .b false), (1, oC h6), (6, oO q2)] [_, _, _, _, _, _, _, _, _, _, _, _, _] (by kernel_rfl) ⟨cI c1, cI c1, cI c1, cI c1, cI c1, cI c1, cI c2, q1, h3, cI c4, cI c5, h6, q2, trivial⟩ hr
theorem tRdS_yn {x : Src} {c : Int} {l : List OpS} {i : Nat} (c1 : (decide ((i : Int) < c)) = true) (c2 : (!x.2) = false) :
  LoopN lp 1 (Ac E8 0) (tl 0 73 [(0, P00), (2, P10), (3, .ptr 2 0 0), (4, pI c), (5, pI (i : Int))]) (Lm l x) (.exit 1, (tl 0 73 [(0, P00), (2, P10), (3, .ptr 2 0 0)]), (Lm l x)) :=
 lX [(4, .b true), (1, .b true), (1, .b true), (1, .b true), (1, .b true), (1, .b true), (0, .b false)] [_, _, _, _, _, _, _] (by kernel_rfl) (by kernel_rfl) ⟨cI c1, cI c1, cI c1, cI c1, cI c1, cI c1, cI c2, trivial⟩
theorem tRdS_n {x : Src} {c : Int} {l : List OpS} {i : Nat} (c1 : (decide ((i : Int) < c)) = false) :
  LoopN lp 1 (Ac E8 0) (tl 0 73 [(0, P00), (2, P10), (3, .ptr 2 0 0), (4, pI c), (5, pI (i : Int))]) (Lm l x) (.exit 1, (tl 0 73 [(0, P00), (2, P10), (3, .ptr 2 0 0)]), (Lm l x)) :=
 lX [(4, .b false), (0, .b false), (0, .b false), (0, .b false), (0, .b false), (0, .b false)] [_, _, _, _, _, _] (by kernel_rfl) (by kernel_rfl) ⟨cI c1, cI c1, cI c1, cI c1, cI c1, cI c1, trivial⟩
theorem tRd0 {k n : Int} {s : BY} {is : List Val} {ns : BL} {x x2 : Src} {l : List OpS} (w1 : (((Aa x).1) == 1) = true → Runs lp 42 [P00] [.row [[pS ((Aa x).2.1), pB ((Aa x).2.2)]]] (.agg (aR7 is k n ns s), (Bf x2))) (w2 : (((Aa x).1) == 1) = true → (x2.2) = false → Runs lp 8 [.agg [pB true, pI k, pI n, pT s, pV is, pN ns, .p (.sl [])]] [] (pI (Bp true (Val.mk k n s is ns) []), [])) (w3 : (((Aa x).1) == 1) = false → (((Aa x).1) == 0) = true → (decide (l = [])) = true → LoopN lp 1 (Ac E8 0) (tl 0 73 [(0, P00), (2, P10), (3, .ptr 2 0 0), (4, pI ((Ai ((Aa x).2) 16).1)), (5, pI 0)]) [.row [[pS ((Ai ((Aa x).2) 16).2.1), pB ((Ai ((Aa x).2) 16).2.2)]], .row aR1, .row aR1] (.exit 1, (tl 0 73 [(0, P00), (2, P10), (3, .ptr 2 0 0)]), [.row [[pS x2.1, pB x2.2]], .row aR1, .row aR1])) (w4 : (((Aa x).1) == 1) = false → (((Aa x).1) == 0) = true → (decide (l = [])) = true → (x2.2) = false → Runs lp 8 [.agg E9] [] (pI (Bp false (Val.mk 0 0 [] [] []) []), [])) (w5 : (((Aa x).1) == 1) = false → (((Aa x).1) == 0) = true → (decide (l = [])) = false → LoopN lp 1 (Ac E8 0) (tl 0 73 [(0, P00), (2, P10), (3, .ptr 2 0 0), (4, pI ((Ai ((Aa x).2) 16).1)), (5, pI 0)]) [.row [[pS ((Ai ((Aa x).2) 16).2.1), pB ((Ai ((Aa x).2) 16).2.2)]], .row aR1, .row aR1] (.exit 1, (tl 0 73 [(0, P00), (2, P10), (3, .ptr 2 0 0)]), [.row [[pS x2.1, pB x2.2]], .row aR1, .row (aR4 l), .spare 8 (List.length (Ap l))])) (w6 : (((Aa x).1) == 1) = false → (((Aa x).1) == 0) = true → (decide (l = [])) = false → (x2.2) = false → Runs lp 8 [.agg [pB false, pI 0, pI 0, pT [], .p (.sl []), .p (.sl []), pO l]] [] (pI (Bp false (Val.mk 0 0 [] [] []) l), [])) :
  Runs lp 14 [P00] (aR5 x) (if (((Aa x).1) == 1) = true then (if (x2.2) = true then ((.agg E9, [.row [[pS x2.1, pB true]]])) else (if ((Bp true (Val.mk k n s is ns) []) == 0) = true then ((.agg [pB true, pI k, pI n, pT s, pV is, pN ns, .p (.sl [])], (Bf x2))) else ((.agg E9, [.row [[pS x2.1, pB true]]])))) else (if (((Aa x).1) == 0) = true then (if (decide (l = [])) = true then (if (x2.2) = true then ((.agg E9, [.row [[pS x2.1, pB true]]])) else (if ((Bp false (Val.mk 0 0 [] [] []) []) == 0) = true then ((.agg E9, (Bf x2))) else ((.agg E9, [.row [[pS x2.1, pB true]]])))) else (if (x2.2) = true then ((.agg E9, [.row [[pS x2.1, pB true]]])) else (if ((Bp false (Val.mk 0 0 [] [] []) l) == 0) = true then ((.agg [pB false, pI 0, pI 0, pT [], .p (.sl []), .p (.sl []), pO l], (Bf x2))) else ((.agg E9, [.row [[pS x2.1, pB true]]]))))) else ((.agg E9, [.row [[pS ((Aa x).2.1), pB true]]])))) := by
 by_cases k1 : (((Aa x).1) == 1) = true
 ·refine Ak k1 ?_
  by_cases k2 : (x2.2) = true
  ·refine Ak k2 ?_
   exact
    have q1 : Runs lp 41 [P00] (aR5 x) (pI ((Aa x).1), [.row [[pS ((Aa x).2.1), pB ((Aa x).2.2)]]]) := (B9 x)
    rO [(5, oC q1), (2, .b true), (3, oC (w1 k1)), (7, .b true), (0, .b true), (0, .b true), (0, .b true)] [_, _, _, _, _, _, _] (by kernel_rfl) ⟨q1, cI k1, (w1 k1), cI k2, cI k2, cI k2, cI k2, trivial⟩
  ·refine Al k2 ?_
   replace k2 := Bool.eq_false_iff.2 k2
   by_cases k3 : ((Bp true (Val.mk k n s is ns) []) == 0) = true
   ·refine Ak k3 ?_
    exact
     have q1 : Runs lp 41 [P00] (aR5 x) (pI ((Aa x).1), [.row [[pS ((Aa x).2.1), pB ((Aa x).2.2)]]]) := (B9 x)
     rO [(5, oC q1), (2, .b true), (3, oC (w1 k1)), (7, .b false), (1, .b false), (0, oC (w2 k1 k2)), (0, .b false), (1, .b false), (0, .b false)] [_, _, _, _, _, _, _, _, _] (by kernel_rfl) ⟨q1, cI k1, (w1 k1), cI k2, cI k2, (w2 k1 k2), cI k2, cI k2, (cI (Ae k3)), trivial⟩
   ·refine Al k3 ?_
    replace k3 := Bool.eq_false_iff.2 k3
    exact
     have q1 : Runs lp 41 [P00] (aR5 x) (pI ((Aa x).1), [.row [[pS ((Aa x).2.1), pB ((Aa x).2.2)]]]) := (B9 x)
     rO [(5, oC q1), (2, .b true), (3, oC (w1 k1)), (7, .b false), (1, .b false), (0, oC (w2 k1 k2)), (0, .b false), (1, .b false), (0, .b true)] [_, _, _, _, _, _, _, _, _] (by kernel_rfl) ⟨q1, cI k1, (w1 k1), cI k2, cI k2, (w2 k1 k2), cI k2, cI k2, (cI (Ae k3)), trivial⟩
 ·refine Al k1 ?_
  replace k1 := Bool.eq_false_iff.2 k1
  by_cases k2 : (((Aa x).1) == 0) = true
  ·refine Ak k2 ?_
   by_cases k3 : (decide (l = [])) = true
   ·refine Ak k3 ?_
    by_cases k4 : (x2.2) = true
    ·refine Ak k4 ?_
     exact
      have q1 : Runs lp 41 [P00] (aR5 x) (pI ((Aa x).1), [.row [[pS ((Aa x).2.1), pB ((Aa x).2.2)]]]) := (B9 x)
      have q2 : Runs lp 43 [P00, pI 16] [.row [[pS ((Aa x).2.1), pB ((Aa x).2.2)]]] (pI ((Ai ((Aa x).2) 16).1), [.row [[pS ((Ai ((Aa x).2) 16).2.1), pB ((Ai ((Aa x).2) 16).2.2)]]]) := (Dr ((Aa x).2) 16)
      rO [(5, oC q1), (2, .b false), (2, .b true), (1, oC q2), (2, oL (w3 k1 k2 k3)), (5, .b true), (0, .b true), (0, .b true), (0, .b true)] [_, _, _, _, _, _, _, _, _] (by kernel_rfl) ⟨q1, cI k1, cI k2, q2, (w3 k1 k2 k3), cI k4, cI k4, cI k4, cI k4, trivial⟩
    ·refine Al k4 ?_
     replace k4 := Bool.eq_false_iff.2 k4
     by_cases k5 : ((Bp false (Val.mk 0 0 [] [] []) []) == 0) = true
     ·refine Ak k5 ?_
      exact
       have q1 : Runs lp 41 [P00] (aR5 x) (pI ((Aa x).1), [.row [[pS ((Aa x).2.1), pB ((Aa x).2.2)]]]) := (B9 x)
       have q2 : Runs lp 43 [P00, pI 16] [.row [[pS ((Aa x).2.1), pB ((Aa x).2.2)]]] (pI ((Ai ((Aa x).2) 16).1), [.row [[pS ((Ai ((Aa x).2) 16).2.1), pB ((Ai ((Aa x).2) 16).2.2)]]]) := (Dr ((Aa x).2) 16)
       rO [(5, oC q1), (2, .b false), (2, .b true), (1, oC q2), (2, oL (w3 k1 k2 k3)), (5, .b false), (1, .b false), (0, oC (w4 k1 k2 k3 k4)), (0, .b false), (1, .b false), (0, .b false)] [_, _, _, _, _, _, _, _, _, _, _] (by kernel_rfl) ⟨q1, cI k1, cI k2, q2, (w3 k1 k2 k3), cI k4, cI k4, (w4 k1 k2 k3 k4), cI k4, cI k4, (cI (Ae k5)), trivial⟩
     ·refine Al k5 ?_
      replace k5 := Bool.eq_false_iff.2 k5
      exact
       have q1 : Runs lp 41 [P00] (aR5 x) (pI ((Aa x).1), [.row [[pS ((Aa x).2.1), pB ((Aa x).2.2)]]]) := (B9 x)
       have q2 : Runs lp 43 [P00, pI 16] [.row [[pS ((Aa x).2.1), pB ((Aa x).2.2)]]] (pI ((Ai ((Aa x).2) 16).1), [.row [[pS ((Ai ((Aa x).2) 16).2.1), pB ((Ai ((Aa x).2) 16).2.2)]]]) := (Dr ((Aa x).2) 16)
       rO [(5, oC q1), (2, .b false), (2, .b true), (1, oC q2), (2, oL (w3 k1 k2 k3)), (5, .b false), (1, .b false), (0, oC (w4 k1 k2 k3 k4)), (0, .b false), (1, .b false), (0, .b true)] [_, _, _, _, _, _, _, _, _, _, _] (by kernel_rfl) ⟨q1, cI k1, cI k2, q2, (w3 k1 k2 k3), cI k4, cI k4, (w4 k1 k2 k3 k4), cI k4, cI k4, (cI (Ae k5)), trivial⟩
   ·refine Al k3 ?_
    replace k3 := Bool.eq_false_iff.2 k3
    by_cases k4 : (x2.2) = true
    ·refine Ak k4 ?_
     exact
      have q1 : Runs lp 41 [P00] (aR5 x) (pI ((Aa x).1), [.row [[pS ((Aa x).2.1), pB ((Aa x).2.2)]]]) := (B9 x)
      have q2 : Runs lp 43 [P00, pI 16] [.row [[pS ((Aa x).2.1), pB ((Aa x).2.2)]]] (pI ((Ai ((Aa x).2) 16).1), [.row [[pS ((Ai ((Aa x).2) 16).2.1), pB ((Ai ((Aa x).2) 16).2.2)]]]) := (Dr ((Aa x).2) 16)
      rO [(5, oC q1), (2, .b false), (2, .b true), (1, oC q2), (2, oL (w5 k1 k2 k3)), (5, .b true), (0, .b true), (0, .b true), (0, .b true)] [_, _, _, _, _, _, _, _, _] (by kernel_rfl) ⟨q1, cI k1, cI k2, q2, (w5 k1 k2 k3), cI k4, cI k4, cI k4, cI k4, trivial⟩
    ·refine Al k4 ?_
     replace k4 := Bool.eq_false_iff.2 k4
     by_cases k5 : ((Bp false (Val.mk 0 0 [] [] []) l) == 0) = true
     ·refine Ak k5 ?_
      exact
       have q1 : Runs lp 41 [P00] (aR5 x) (pI ((Aa x).1), [.row [[pS ((Aa x).2.1), pB ((Aa x).2.2)]]]) := (B9 x)
       have q2 : Runs lp 43 [P00, pI 16] [.row [[pS ((Aa x).2.1), pB ((Aa x).2.2)]]] (pI ((Ai ((Aa x).2) 16).1), [.row [[pS ((Ai ((Aa x).2) 16).2.1), pB ((Ai ((Aa x).2) 16).2.2)]]]) := (Dr ((Aa x).2) 16)
       rO [(5, oC q1), (2, .b false), (2, .b true), (1, oC q2), (2, oL (w5 k1 k2 k3)), (5, .b false), (1, .b false), (0, oC (w6 k1 k2 k3 k4)), (0, .b false), (1, .b false), (0, .b false)] [_, _, _, _, _, _, _, _, _, _, _] (by kernel_rfl) ⟨q1, cI k1, cI k2, q2, (w5 k1 k2 k3), cI k4, cI k4, (w6 k1 k2 k3 k4), cI k4, cI k4, (cI (Ae k5)), trivial⟩
     ·refine Al k5 ?_
      replace k5 := Bool.eq_false_iff.2 k5
      exact
       have q1 : Runs lp 41 [P00] (aR5 x) (pI ((Aa x).1), [.row [[pS ((Aa x).2.1), pB ((Aa x).2.2)]]]) := (B9 x)
       have q2 : Runs lp 43 [P00, pI 16] [.row [[pS ((Aa x).2.1), pB ((Aa x).2.2)]]] (pI ((Ai ((Aa x).2) 16).1), [.row [[pS ((Ai ((Aa x).2) 16).2.1), pB ((Ai ((Aa x).2) 16).2.2)]]]) := (Dr ((Aa x).2) 16)
       rO [(5, oC q1), (2, .b false), (2, .b true), (1, oC q2), (2, oL (w5 k1 k2 k3)), (5, .b false), (1, .b false), (0, oC (w6 k1 k2 k3 k4)), (0, .b false), (1, .b false), (0, .b true)] [_, _, _, _, _, _, _, _, _, _, _] (by kernel_rfl) ⟨q1, cI k1, cI k2, q2, (w5 k1 k2 k3), cI k4, cI k4, (w6 k1 k2 k3 k4), cI k4, cI k4, (cI (Ae k5)), trivial⟩
  ·refine Al k2 ?_
   replace k2 := Bool.eq_false_iff.2 k2
   exact
    have q1 : Runs lp 41 [P00] (aR5 x) (pI ((Aa x).1), [.row [[pS ((Aa x).2.1), pB ((Aa x).2.2)]]]) := (B9 x)
    rO [(5, oC q1), (2, .b false), (2, .b false)] [_, _, _] (by kernel_rfl) ⟨q1, cI k1, cI k2, trivial⟩
end Go.Proofs.YtegboccilfofmaaGreat
