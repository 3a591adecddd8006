import Derived.Test.YtegboccilfofmaaGreatLsAb
import Derived.Test.YtegboccilfofmaaGreatLsSpcD
set_option linter.unusedVariables false
set_option maxRecDepth 100000
namespace Go.Proofs.YtegboccilfofmaaGreat
open Go Go.LS
theorem pRdT_y {x : Src} {c : Int} {i : Nat} (c1 : (decide ((i : Int) < c)) = true) (h2 : Runs lp 91 [P00, pI 32] (aR8 x) (pT ((Aq x 32).1), [.row [[pS ((Aq x 32).2.1), pB ((Aq x 32).2.2)]]])) {r : RL} (hr : LoopN lp 1 (Ab Lt 0) (tl 0 15 [(0, P00), (3, .sl (Aa [(Aq x 32).1]) 1 (List.length (Aa [(Aq x 32).1]))), (5, pI c), (6, pI (IntKind.wrap .i64 ((i : Int) + 1)))]) [.row [[pS ((Aq x 32).2.1), pB ((Aq x 32).2.2)]], .spare 1 (List.length (Aa [(Aq x 32).1]))] r) :
  LoopN lp 1 (Ab Lt 0) (tl 0 15 [(0, P00), (3, .tight []), (5, pI c), (6, pI (i : Int))]) (aR8 x) r :=
 have q1 : OpW [.row [[pS ((Aq x 32).2.1), pB ((Aq x 32).2.2)]]] (.append false 1 16 (.const (.tight [])) (.const (.tight [[.str ((Aq x 32).1)]]))) (.sl (Aa [(Aq x 32).1]) 1 (List.length (Aa [(Aq x 32).1]))) [.row [[pS ((Aq x 32).2.1), pB ((Aq x 32).2.2)]], .spare 1 (List.length (Aa [(Aq x 32).1]))] := (Nc)
 lO [(1, .b true), (2, oC h2), (1, oO q1)] [_, _, _] (by kernel_rfl) ⟨cI c1, h2, q1, trivial⟩ hr
theorem pRdT_n {x : Src} {c : Int} {i : Nat} (c1 : (decide ((i : Int) < c)) = false) :
  LoopN lp 1 (Ab Lt 0) (tl 0 15 [(0, P00), (3, .tight []), (5, pI c), (6, pI (i : Int))]) (aR8 x) (.exit 0, (tl 0 15 [(3, .tight [])]), (aR8 x)) :=
 lX [(1, .b false)] [_] (by kernel_rfl) (by kernel_rfl) ⟨cI c1, trivial⟩
theorem pRdS_y {x : Src} {c : Int} {ms : Pt} {i : Nat} (c1 : (decide ((i : Int) < c)) = true) (h2 : Runs lp 91 [P00, pI 32] (aR8 x) (pT ((Aq x 32).1), [.row [[pS ((Aq x 32).2.1), pB ((Aq x 32).2.2)]]])) (h3 : (List.length ms + 1) * 16 ≤ 140737488355328) {r : RL} (hr : LoopN lp 1 (Ab Lt 0) (tl 0 15 [(0, P00), (3, .sl (Aa (ms ++ [(Aq x 32).1])) 1 (List.length (Aa (ms ++ [(Aq x 32).1])))), (5, pI c), (6, pI (IntKind.wrap .i64 ((i : Int) + 1)))]) [.row [[pS ((Aq x 32).2.1), pB ((Aq x 32).2.2)]], .spare 1 (List.length (Aa (ms ++ [(Aq x 32).1])))] r) :
  LoopN lp 1 (Ab Lt 0) (tl 0 15 [(0, P00), (3, .sl (Aa ms) 1 (List.length (Aa ms))), (5, pI c), (6, pI (i : Int))]) [.row [[pS x.1, pB x.2]], .spare 1 (List.length (Aa ms))] r :=
 have q1 : OpW [.row [[pS ((Aq x 32).2.1), pB ((Aq x 32).2.2)]], .spare 1 (List.length (Aa ms))] (.append false 1 16 (.const (.sl (Aa ms) 1 (List.length (Aa ms)))) (.const (.tight [[.str ((Aq x 32).1)]]))) (.sl (Aa (ms ++ [(Aq x 32).1])) 1 (List.length (Aa (ms ++ [(Aq x 32).1])))) [.row [[pS ((Aq x 32).2.1), pB ((Aq x 32).2.2)]], .spare 1 (List.length (Aa (ms ++ [(Aq x 32).1])))] := (Nb rfl h3)
 lO [(1, .b true), (2, oC h2), (1, oO q1)] [_, _, _] (by kernel_rfl) ⟨cI c1, h2, q1, trivial⟩ hr
theorem pRdS_n {x : Src} {c : Int} {ms : Pt} {i : Nat} (c1 : (decide ((i : Int) < c)) = false) :
  LoopN lp 1 (Ab Lt 0) (tl 0 15 [(0, P00), (3, .sl (Aa ms) 1 (List.length (Aa ms))), (5, pI c), (6, pI (i : Int))]) [.row [[pS x.1, pB x.2]], .spare 1 (List.length (Aa ms))] (.exit 0, (tl 0 15 [(3, .sl (Aa ms) 1 (List.length (Aa ms)))]), [.row [[pS x.1, pB x.2]], .spare 1 (List.length (Aa ms))]) :=
 lX [(1, .b false)] [_] (by kernel_rfl) (by kernel_rfl) ⟨cI c1, trivial⟩
theorem pRd0 {x : Src} {ms : Pt} {x2 : Src} (w1 : (decide (ms = [])) = true → LoopN lp 1 (Ab Lt 0) (tl 0 15 [(0, P00), (3, .tight []), (5, pI ((Ar x 8).1)), (6, pI 0)]) [.row [[pS ((Ar x 8).2.1), pB ((Ar x 8).2.2)]]] (.exit 0, (tl 0 15 [(3, .tight [])]), (Cd x2))) (w2 : (decide (ms = [])) = false → LoopN lp 1 (Ab Lt 0) (tl 0 15 [(0, P00), (3, .tight []), (5, pI ((Ar x 8).1)), (6, pI 0)]) [.row [[pS ((Ar x 8).2.1), pB ((Ar x 8).2.2)]]] (.exit 0, (tl 0 15 [(3, .sl (Aa ms) 1 (List.length (Aa ms)))]), [.row [[pS x2.1, pB x2.2]], .spare 1 (List.length (Aa ms))])) :
  Runs lp 69 [P00] (aR8 x) (if (decide (ms = [])) = true then ((.p (.sl []), (Cd x2))) else ((pN ms, (Cd x2)))) := by
 by_cases k1 : (decide (ms = [])) = true
 ·refine Ak k1 ?_
  exact
   have q1 : Runs lp 37 [P00, pI 8] (aR8 x) (pI ((Ar x 8).1), [.row [[pS ((Ar x 8).2.1), pB ((Ar x 8).2.2)]]]) := (E7 x 8)
   rO [(3, oC q1), (1, oL (w1 k1))] [_, _] (by kernel_rfl) ⟨q1, (w1 k1), trivial⟩
 ·refine Al k1 ?_
  replace k1 := Bool.eq_false_iff.2 k1
  exact
   have q1 : Runs lp 37 [P00, pI 8] (aR8 x) (pI ((Ar x 8).1), [.row [[pS ((Ar x 8).2.1), pB ((Ar x 8).2.2)]]]) := (E7 x 8)
   rO [(3, oC q1), (1, oL (w2 k1))] [_, _] (by kernel_rfl) ⟨q1, (w2 k1), trivial⟩
theorem oRd0 {k n : Int} {s : BY} {is : List Val} {ns : BL} {x x3 : Src} (w1 : Runs lp 69 [P00] [.row [[pS ((Af x).2.1), pB ((Af x).2.2)]]] (pN (Bc true ((Af x).2)).1, [.row [[pS ((Bc true ((Af x).2)).2.1), pB ((Bc true ((Af x).2)).2.2)]]])) (w2 : (((Af x).1) == 2) = false → (((Af x).1) == 6) = true → Runs lp 69 [P00] [.row [[pS ((Bc true ((Af x).2)).2.1), pB ((Bc true ((Af x).2)).2.2)]]] (pN (Bc true ((Bc true ((Af x).2)).2)).1, [.row [[pS ((Bc true ((Bc true ((Af x).2)).2)).2.1), pB ((Bc true ((Bc true ((Af x).2)).2)).2.2)]]])) (w3 : (((Af x).1) == 2) = false → (((Af x).1) == 6) = false → Runs lp 39 [P00] [.row [[pS ((Bc true ((Af x).2)).2.1), pB ((Bc true ((Af x).2)).2.2)]]] (.agg (aR2 is k n ns s), [.row [[pS x3.1, pB x3.2]]])) :
  Runs lp 38 [P00] (aR8 x) (if (((Af x).1) == 2) = true then ((.agg [pI ((Af x).1), pN (Bc true ((Af x).2)).1, pI 0, pI 0, pT [], .p (.sl []), .p (.sl []), .p (.sl [])], [.row [[pS ((Bc true ((Af x).2)).2.1), pB ((Bc true ((Af x).2)).2.2)]]])) else (if (((Af x).1) == 6) = true then ((.agg [pI ((Af x).1), pN (Bc true ((Af x).2)).1, pI 0, pI 0, pT [], .p (.sl []), .p (.sl []), pN (Bc true ((Bc true ((Af x).2)).2)).1], [.row [[pS ((Bc true ((Bc true ((Af x).2)).2)).2.1), pB ((Bc true ((Bc true ((Af x).2)).2)).2.2)]]])) else ((.agg [pI ((Af x).1), pN (Bc true ((Af x).2)).1, pI k, pI n, pT s, pV is, pN ns, .p (.sl [])], [.row [[pS x3.1, pB x3.2]]])))) := by
 by_cases k1 : (((Af x).1) == 2) = true
 ·refine Ak k1 ?_
  exact
   have q1 : Runs lp 36 [P00] (aR8 x) (pI ((Af x).1), [.row [[pS ((Af x).2.1), pB ((Af x).2.2)]]]) := (Dd x)
   rO [(2, oC q1), (4, oC w1), (6, .b true)] [_, _, _] (by kernel_rfl) ⟨q1, w1, cI k1, trivial⟩
 ·refine Al k1 ?_
  replace k1 := Bool.eq_false_iff.2 k1
  by_cases k2 : (((Af x).1) == 6) = true
  ·refine Ak k2 ?_
   exact
    have q1 : Runs lp 36 [P00] (aR8 x) (pI ((Af x).1), [.row [[pS ((Af x).2.1), pB ((Af x).2.2)]]]) := (Dd x)
    rO [(2, oC q1), (4, oC w1), (6, .b false), (2, .b true), (1, oC (w2 k1 k2))] [_, _, _, _, _] (by kernel_rfl) ⟨q1, w1, cI k1, cI k2, (w2 k1 k2), trivial⟩
  ·refine Al k2 ?_
   replace k2 := Bool.eq_false_iff.2 k2
   exact
    have q1 : Runs lp 36 [P00] (aR8 x) (pI ((Af x).1), [.row [[pS ((Af x).2.1), pB ((Af x).2.2)]]]) := (Dd x)
    rO [(2, oC q1), (4, oC w1), (6, .b false), (2, .b false), (1, oC (w3 k1 k2))] [_, _, _, _, _] (by kernel_rfl) ⟨q1, w1, cI k1, cI k2, (w3 k1 k2), trivial⟩
theorem sRdT_yy {x : Src} {c : Int} {i : Nat} (okr vkr vnr : Int) (vsr : BY) (vir : List Val) (psr vnsr tsr : BL) (x2 : Src) (c1 : (decide ((i : Int) < c)) = true) (c2 : (!x.2) = true) (h3 : Runs lp 38 [P00] (aR8 x) (.agg [pI okr, pN psr, pI vkr, pI vnr, pT vsr, pV vir, pN vnsr, pN tsr], (Cd x2))) {r : RL} (hr : LoopN lp 1 (Ab If 0) (tl 0 42 [(0, P00), (2, P10), (3, .ptr 2 0 0), (11, pI c), (12, pI (IntKind.wrap .i64 ((i : Int) + 1)))]) [.row [[pS x2.1, pB x2.2]], .row aR4, .row [[pB false, pI 0, pI 0, pT [], .tight [], .tight [], .sl (Ai [(OpS.mk okr psr (Val.mk vkr vnr vsr vir vnsr) tsr)]) 3 (List.length (Ai [(OpS.mk okr psr (Val.mk vkr vnr vsr vir vnsr) tsr)]))]], .spare 8 (List.length (Ai [(OpS.mk okr psr (Val.mk vkr vnr vsr vir vnsr) tsr)]))] r) :
  LoopN lp 1 (Ab If 0) (tl 0 42 [(0, P00), (2, P10), (3, .ptr 2 0 0), (11, pI c), (12, pI (i : Int))]) [.row [[pS x.1, pB x.2]], .row aR4, .row aR4] r :=
 have q1 : Runs lp 15 [P00] (aR8 x) (pB x.2, (aR8 x)) := (Eo x)
 have q2 : OpW [.row [[pS x2.1, pB x2.2]], .row aR4, .row aR4] (.append false 8 136 (.const (.tight [])) (.const (.tight [[.int .i64 okr, .sl (Aa psr), .int .i64 vkr, .int .i64 vnr, .str vsr, .sl (Ac vir), .sl (Aa vnsr), .sl (Aa tsr)]]))) (.sl (Ai [(OpS.mk okr psr (Val.mk vkr vnr vsr vir vnsr) tsr)]) 3 (List.length (Ai [(OpS.mk okr psr (Val.mk vkr vnr vsr vir vnsr) tsr)]))) [.row [[pS x2.1, pB x2.2]], .row aR4, .row aR4, .spare 8 (List.length (Ai [(OpS.mk okr psr (Val.mk vkr vnr vsr vir vnsr) tsr)]))] := (S2 (o := (OpS.mk okr psr (Val.mk vkr vnr vsr vir vnsr) tsr)))
 LoopAt.on (N := 100) (os := [(1, .b true), (1, oC q1), (1, .b true), (3, oC h3), (1, oO q2)]) (ps := [_, _, _, _, Am A2 [] [.row [[pS x2.1, pB x2.2]], .row aR4, .row aR4] (.load false 1 (.const (.ptr 2 0 6))) = some (.tight [], [.row [[pS x2.1, pB x2.2]], .row aR4, .row aR4]), _]) (by kernel_rfl) ⟨cI c1, q1, cI c2, h3, (by kernel_rfl), q2, trivial⟩ hr
theorem sRdT_yn {x : Src} {c : Int} {i : Nat} (c1 : (decide ((i : Int) < c)) = true) (c2 : (!x.2) = false) {r : RL} (hr : LoopN lp 1 (Ab If 0) (tl 0 42 [(0, P00), (2, P10), (3, .ptr 2 0 0), (11, pI c), (12, pI (IntKind.wrap .i64 ((i : Int) + 1)))]) [.row [[pS x.1, pB x.2]], .row aR4, .row aR4] r) :
  LoopN lp 1 (Ab If 0) (tl 0 42 [(0, P00), (2, P10), (3, .ptr 2 0 0), (11, pI c), (12, pI (i : Int))]) [.row [[pS x.1, pB x.2]], .row aR4, .row aR4] r :=
 have q1 : Runs lp 15 [P00] (aR8 x) (pB x.2, (aR8 x)) := (Eo x)
 lO [(1, .b true), (1, oC q1), (1, .b false)] [_, _, _] (by kernel_rfl) ⟨cI c1, q1, cI c2, trivial⟩ hr
theorem sRdT_n {x : Src} {c : Int} {i : Nat} (c1 : (decide ((i : Int) < c)) = false) :
  LoopN lp 1 (Ab If 0) (tl 0 42 [(0, P00), (2, P10), (3, .ptr 2 0 0), (11, pI c), (12, pI (i : Int))]) [.row [[pS x.1, pB x.2]], .row aR4, .row aR4] (.exit 1, (tl 0 42 [(0, P00), (2, P10), (3, .ptr 2 0 0)]), [.row [[pS x.1, pB x.2]], .row aR4, .row aR4]) :=
 lX [(1, .b false)] [_] (by kernel_rfl) (by kernel_rfl) ⟨cI c1, trivial⟩
theorem sRdS_yy {x : Src} {c : Int} {l : List OpS} {i : Nat} (okr vkr vnr : Int) (vsr : BY) (vir : List Val) (psr vnsr tsr : BL) (x2 : Src) (c1 : (decide ((i : Int) < c)) = true) (c2 : (!x.2) = true) (h3 : Runs lp 38 [P00] (aR8 x) (.agg [pI okr, pN psr, pI vkr, pI vnr, pT vsr, pV vir, pN vnsr, pN tsr], (Cd x2))) (h4 : List.length l + 1 ≤ 500000000000) {r : RL} (hr : LoopN lp 1 (Ab If 0) (tl 0 42 [(0, P00), (2, P10), (3, .ptr 2 0 0), (11, pI c), (12, pI (IntKind.wrap .i64 ((i : Int) + 1)))]) [.row [[pS x2.1, pB x2.2]], .row aR4, .row [[pB false, pI 0, pI 0, pT [], .tight [], .tight [], .sl (Ai (l ++ [(OpS.mk okr psr (Val.mk vkr vnr vsr vir vnsr) tsr)])) 3 (List.length (Ai (l ++ [(OpS.mk okr psr (Val.mk vkr vnr vsr vir vnsr) tsr)])))]], .spare 8 (List.length (Ai (l ++ [(OpS.mk okr psr (Val.mk vkr vnr vsr vir vnsr) tsr)])))] r) :
  LoopN lp 1 (Ab If 0) (tl 0 42 [(0, P00), (2, P10), (3, .ptr 2 0 0), (11, pI c), (12, pI (i : Int))]) [.row [[pS x.1, pB x.2]], .row aR4, .row (N7 l), .spare 8 (List.length (Ai l))] r :=
 have q1 : Runs lp 15 [P00] (aR8 x) (pB x.2, (aR8 x)) := (Eo x)
 have q2 : OpW [.row [[pS x2.1, pB x2.2]], .row aR4, .row (N7 l), .spare 8 (List.length (Ai l))] (.append false 8 136 (.const (.sl (Ai l) 3 (List.length (Ai l)))) (.const (.tight [[.int .i64 okr, .sl (Aa psr), .int .i64 vkr, .int .i64 vnr, .str vsr, .sl (Ac vir), .sl (Aa vnsr), .sl (Aa tsr)]]))) (.sl (Ai (l ++ [(OpS.mk okr psr (Val.mk vkr vnr vsr vir vnsr) tsr)])) 3 (List.length (Ai (l ++ [(OpS.mk okr psr (Val.mk vkr vnr vsr vir vnsr) tsr)])))) [.row [[pS x2.1, pB x2.2]], .row aR4, .row (N7 l), .spare 8 (List.length (Ai (l ++ [(OpS.mk okr psr (Val.mk vkr vnr vsr vir vnsr) tsr)])))] := (S1 (o := (OpS.mk okr psr (Val.mk vkr vnr vsr vir vnsr) tsr)) rfl h4)
 LoopAt.on (N := 100) (os := [(1, .b true), (1, oC q1), (1, .b true), (3, oC h3), (1, oO q2)]) (ps := [_, _, _, _, Am A2 [] [.row [[pS x2.1, pB x2.2]], .row aR4, .row (N7 l), .spare 8 (List.length (Ai l))] (.load false 1 (.const (.ptr 2 0 6))) = some (.sl (Ai l) 3 (List.length (Ai l)), [.row [[pS x2.1, pB x2.2]], .row aR4, .row (N7 l), .spare 8 (List.length (Ai l))]), _]) (by kernel_rfl) ⟨cI c1, q1, cI c2, h3, (by kernel_rfl), q2, trivial⟩ hr
theorem sRdS_yn {x : Src} {c : Int} {l : List OpS} {i : Nat} (c1 : (decide ((i : Int) < c)) = true) (c2 : (!x.2) = false) {r : RL} (hr : LoopN lp 1 (Ab If 0) (tl 0 42 [(0, P00), (2, P10), (3, .ptr 2 0 0), (11, pI c), (12, pI (IntKind.wrap .i64 ((i : Int) + 1)))]) [.row [[pS x.1, pB x.2]], .row aR4, .row (N7 l), .spare 8 (List.length (Ai l))] r) :
  LoopN lp 1 (Ab If 0) (tl 0 42 [(0, P00), (2, P10), (3, .ptr 2 0 0), (11, pI c), (12, pI (i : Int))]) [.row [[pS x.1, pB x.2]], .row aR4, .row (N7 l), .spare 8 (List.length (Ai l))] r :=
 have q1 : Runs lp 15 [P00] (aR8 x) (pB x.2, (aR8 x)) := (Eo x)
 lO [(1, .b true), (1, oC q1), (1, .b false)] [_, _, _] (by kernel_rfl) ⟨cI c1, q1, cI c2, trivial⟩ hr
theorem sRdS_n {x : Src} {c : Int} {l : List OpS} {i : Nat} (c1 : (decide ((i : Int) < c)) = false) :
  LoopN lp 1 (Ab If 0) (tl 0 42 [(0, P00), (2, P10), (3, .ptr 2 0 0), (11, pI c), (12, pI (i : Int))]) [.row [[pS x.1, pB x.2]], .row aR4, .row (N7 l), .spare 8 (List.length (Ai l))] (.exit 1, (tl 0 42 [(0, P00), (2, P10), (3, .ptr 2 0 0)]), [.row [[pS x.1, pB x.2]], .row aR4, .row (N7 l), .spare 8 (List.length (Ai l))]) :=
 lX [(1, .b false)] [_] (by kernel_rfl) (by kernel_rfl) ⟨cI c1, trivial⟩
theorem sRd0 {k n : Int} {s : BY} {is : List Val} {ns : BL} {x x2 : Src} {l : List OpS} (w1 : (((Af x).1) == 0) = true → (decide (l = [])) = true → LoopN lp 1 (Ab If 0) (tl 0 42 [(0, P00), (2, P10), (3, .ptr 2 0 0), (11, pI ((Ar ((Af x).2) 16).1)), (12, pI 0)]) [.row [[pS ((Ar ((Af x).2) 16).2.1), pB ((Ar ((Af x).2) 16).2.2)]], .row aR4, .row aR4] (.exit 1, (tl 0 42 [(0, P00), (2, P10), (3, .ptr 2 0 0)]), [.row [[pS x2.1, pB x2.2]], .row aR4, .row aR4])) (w2 : (((Af x).1) == 0) = true → (decide (l = [])) = true → (x2.2) = false → Runs lp 20 [.agg [pB false, pI 0, pI 0, pT [], .p (.sl []), .p (.sl []), .p (.sl [])]] [] (pI (Aw false (Val.mk 0 0 [] [] []) []), [])) (w3 : (((Af x).1) == 0) = true → (decide (l = [])) = false → LoopN lp 1 (Ab If 0) (tl 0 42 [(0, P00), (2, P10), (3, .ptr 2 0 0), (11, pI ((Ar ((Af x).2) 16).1)), (12, pI 0)]) [.row [[pS ((Ar ((Af x).2) 16).2.1), pB ((Ar ((Af x).2) 16).2.2)]], .row aR4, .row aR4] (.exit 1, (tl 0 42 [(0, P00), (2, P10), (3, .ptr 2 0 0)]), [.row [[pS x2.1, pB x2.2]], .row aR4, .row (N7 l), .spare 8 (List.length (Ai l))])) (w4 : (((Af x).1) == 0) = true → (decide (l = [])) = false → (x2.2) = false → Runs lp 20 [.agg [pB false, pI 0, pI 0, pT [], .p (.sl []), .p (.sl []), pO l]] [] (pI (Aw false (Val.mk 0 0 [] [] []) l), [])) (w5 : (((Af x).1) == 0) = false → (((Af x).1) == 1) = true → Runs lp 39 [P00] [.row [[pS ((Af x).2.1), pB ((Af x).2.2)]]] (.agg (aR2 is k n ns s), (Cd x2))) (w6 : (((Af x).1) == 0) = false → (((Af x).1) == 1) = true → (x2.2) = false → Runs lp 20 [.agg [pB true, pI k, pI n, pT s, pV is, pN ns, .p (.sl [])]] [] (pI (Aw true (Val.mk k n s is ns) []), [])) :
  Runs lp 12 [P00] (aR8 x) (if (((Af x).1) == 0) = true then (if (decide (l = [])) = true then (if (x2.2) = true then ((.agg [pB false, pI 0, pI 0, pT [], .p (.sl []), .p (.sl []), .p (.sl [])], [.row [[pS x2.1, pB true]]])) else (if ((Aw false (Val.mk 0 0 [] [] []) []) == 0) = true then ((.agg [pB false, pI 0, pI 0, pT [], .p (.sl []), .p (.sl []), .p (.sl [])], (Cd x2))) else ((.agg [pB false, pI 0, pI 0, pT [], .p (.sl []), .p (.sl []), .p (.sl [])], [.row [[pS x2.1, pB true]]])))) else (if (x2.2) = true then ((.agg [pB false, pI 0, pI 0, pT [], .p (.sl []), .p (.sl []), .p (.sl [])], [.row [[pS x2.1, pB true]]])) else (if ((Aw false (Val.mk 0 0 [] [] []) l) == 0) = true then ((.agg [pB false, pI 0, pI 0, pT [], .p (.sl []), .p (.sl []), pO l], (Cd x2))) else ((.agg [pB false, pI 0, pI 0, pT [], .p (.sl []), .p (.sl []), .p (.sl [])], [.row [[pS x2.1, pB true]]]))))) else (if (((Af x).1) == 1) = true then (if (x2.2) = true then ((.agg [pB false, pI 0, pI 0, pT [], .p (.sl []), .p (.sl []), .p (.sl [])], [.row [[pS x2.1, pB true]]])) else (if ((Aw true (Val.mk k n s is ns) []) == 0) = true then ((.agg [pB true, pI k, pI n, pT s, pV is, pN ns, .p (.sl [])], (Cd x2))) else ((.agg [pB false, pI 0, pI 0, pT [], .p (.sl []), .p (.sl []), .p (.sl [])], [.row [[pS x2.1, pB true]]])))) else ((.agg [pB false, pI 0, pI 0, pT [], .p (.sl []), .p (.sl []), .p (.sl [])], [.row [[pS ((Af x).2.1), pB true]]])))) := by
 by_cases k1 : (((Af x).1) == 0) = true
 ·refine Ak k1 ?_
  by_cases k2 : (decide (l = [])) = true
  ·refine Ak k2 ?_
   by_cases k3 : (x2.2) = true
   ·refine Ak k3 ?_
    exact
     have q1 : Runs lp 36 [P00] (aR8 x) (pI ((Af x).1), [.row [[pS ((Af x).2.1), pB ((Af x).2.2)]]]) := (Dd x)
     have q2 : Runs lp 37 [P00, pI 16] [.row [[pS ((Af x).2.1), pB ((Af x).2.2)]]] (pI ((Ar ((Af x).2) 16).1), [.row [[pS ((Ar ((Af x).2) 16).2.1), pB ((Ar ((Af x).2) 16).2.2)]]]) := (E7 ((Af x).2) 16)
     have q3 : Runs lp 15 [P00] (Cd x2) (pB x2.2, (Cd x2)) := (Eo x2)
     have q4 : Runs lp 40 [P00] (Cd x2) (.tup [], [.row [[pS x2.1, pB true]]]) := (Ei x2)
     rO [(3, oC q1), (2, .b true), (1, oC q2), (1, oL (w1 k1 k2)), (1, oC q3), (1, .b true), (0, .b true), (0, .b true), (0, .b true), (2, oC q4)] [_, _, _, _, _, _, _, _, _, _] (by kernel_rfl) ⟨q1, cI k1, q2, (w1 k1 k2), q3, cI k3, cI k3, cI k3, cI k3, q4, trivial⟩
   ·refine Al k3 ?_
    replace k3 := Bool.eq_false_iff.2 k3
    by_cases k4 : ((Aw false (Val.mk 0 0 [] [] []) []) == 0) = true
    ·refine Ak k4 ?_
     exact
      have q1 : Runs lp 36 [P00] (aR8 x) (pI ((Af x).1), [.row [[pS ((Af x).2.1), pB ((Af x).2.2)]]]) := (Dd x)
      have q2 : Runs lp 37 [P00, pI 16] [.row [[pS ((Af x).2.1), pB ((Af x).2.2)]]] (pI ((Ar ((Af x).2) 16).1), [.row [[pS ((Ar ((Af x).2) 16).2.1), pB ((Ar ((Af x).2) 16).2.2)]]]) := (E7 ((Af x).2) 16)
      have q3 : Runs lp 15 [P00] (Cd x2) (pB x2.2, (Cd x2)) := (Eo x2)
      rO [(3, oC q1), (2, .b true), (1, oC q2), (1, oL (w1 k1 k2)), (1, oC q3), (1, .b false), (1, .b false), (0, oC (w2 k1 k2 k3)), (0, .b false), (1, .b false), (0, .b false)] [_, _, _, _, _, _, _, _, _, _, _] (by kernel_rfl) ⟨q1, cI k1, q2, (w1 k1 k2), q3, cI k3, cI k3, (w2 k1 k2 k3), cI k3, cI k3, (cI (Ad k4)), trivial⟩
    ·refine Al k4 ?_
     replace k4 := Bool.eq_false_iff.2 k4
     exact
      have q1 : Runs lp 36 [P00] (aR8 x) (pI ((Af x).1), [.row [[pS ((Af x).2.1), pB ((Af x).2.2)]]]) := (Dd x)
      have q2 : Runs lp 37 [P00, pI 16] [.row [[pS ((Af x).2.1), pB ((Af x).2.2)]]] (pI ((Ar ((Af x).2) 16).1), [.row [[pS ((Ar ((Af x).2) 16).2.1), pB ((Ar ((Af x).2) 16).2.2)]]]) := (E7 ((Af x).2) 16)
      have q3 : Runs lp 15 [P00] (Cd x2) (pB x2.2, (Cd x2)) := (Eo x2)
      have q4 : Runs lp 40 [P00] (Cd x2) (.tup [], [.row [[pS x2.1, pB true]]]) := (Ei x2)
      rO [(3, oC q1), (2, .b true), (1, oC q2), (1, oL (w1 k1 k2)), (1, oC q3), (1, .b false), (1, .b false), (0, oC (w2 k1 k2 k3)), (0, .b false), (1, .b false), (0, .b true), (1, oC q4)] [_, _, _, _, _, _, _, _, _, _, _, _] (by kernel_rfl) ⟨q1, cI k1, q2, (w1 k1 k2), q3, cI k3, cI k3, (w2 k1 k2 k3), cI k3, cI k3, (cI (Ad k4)), q4, trivial⟩
  ·refine Al k2 ?_
   replace k2 := Bool.eq_false_iff.2 k2
   by_cases k3 : (x2.2) = true
   ·refine Ak k3 ?_
    exact
     have q1 : Runs lp 36 [P00] (aR8 x) (pI ((Af x).1), [.row [[pS ((Af x).2.1), pB ((Af x).2.2)]]]) := (Dd x)
     have q2 : Runs lp 37 [P00, pI 16] [.row [[pS ((Af x).2.1), pB ((Af x).2.2)]]] (pI ((Ar ((Af x).2) 16).1), [.row [[pS ((Ar ((Af x).2) 16).2.1), pB ((Ar ((Af x).2) 16).2.2)]]]) := (E7 ((Af x).2) 16)
     have q3 : Runs lp 15 [P00] (Cd x2) (pB x2.2, (Cd x2)) := (Eo x2)
     have q4 : Runs lp 40 [P00] (Cd x2) (.tup [], [.row [[pS x2.1, pB true]]]) := (Ei x2)
     rO [(3, oC q1), (2, .b true), (1, oC q2), (1, oL (w3 k1 k2)), (1, oC q3), (1, .b true), (0, .b true), (0, .b true), (0, .b true), (2, oC q4)] [_, _, _, _, _, _, _, _, _, _] (by kernel_rfl) ⟨q1, cI k1, q2, (w3 k1 k2), q3, cI k3, cI k3, cI k3, cI k3, q4, trivial⟩
   ·refine Al k3 ?_
    replace k3 := Bool.eq_false_iff.2 k3
    by_cases k4 : ((Aw false (Val.mk 0 0 [] [] []) l) == 0) = true
    ·refine Ak k4 ?_
     exact
      have q1 : Runs lp 36 [P00] (aR8 x) (pI ((Af x).1), [.row [[pS ((Af x).2.1), pB ((Af x).2.2)]]]) := (Dd x)
      have q2 : Runs lp 37 [P00, pI 16] [.row [[pS ((Af x).2.1), pB ((Af x).2.2)]]] (pI ((Ar ((Af x).2) 16).1), [.row [[pS ((Ar ((Af x).2) 16).2.1), pB ((Ar ((Af x).2) 16).2.2)]]]) := (E7 ((Af x).2) 16)
      have q3 : Runs lp 15 [P00] (Cd x2) (pB x2.2, (Cd x2)) := (Eo x2)
      rO [(3, oC q1), (2, .b true), (1, oC q2), (1, oL (w3 k1 k2)), (1, oC q3), (1, .b false), (1, .b false), (0, oC (w4 k1 k2 k3)), (0, .b false), (1, .b false), (0, .b false)] [_, _, _, _, _, _, _, _, _, _, _] (by kernel_rfl) ⟨q1, cI k1, q2, (w3 k1 k2), q3, cI k3, cI k3, (w4 k1 k2 k3), cI k3, cI k3, (cI (Ad k4)), trivial⟩
    ·refine Al k4 ?_
     replace k4 := Bool.eq_false_iff.2 k4
     exact
      have q1 : Runs lp 36 [P00] (aR8 x) (pI ((Af x).1), [.row [[pS ((Af x).2.1), pB ((Af x).2.2)]]]) := (Dd x)
      have q2 : Runs lp 37 [P00, pI 16] [.row [[pS ((Af x).2.1), pB ((Af x).2.2)]]] (pI ((Ar ((Af x).2) 16).1), [.row [[pS ((Ar ((Af x).2) 16).2.1), pB ((Ar ((Af x).2) 16).2.2)]]]) := (E7 ((Af x).2) 16)
      have q3 : Runs lp 15 [P00] (Cd x2) (pB x2.2, (Cd x2)) := (Eo x2)
      have q4 : Runs lp 40 [P00] (Cd x2) (.tup [], [.row [[pS x2.1, pB true]]]) := (Ei x2)
      rO [(3, oC q1), (2, .b true), (1, oC q2), (1, oL (w3 k1 k2)), (1, oC q3), (1, .b false), (1, .b false), (0, oC (w4 k1 k2 k3)), (0, .b false), (1, .b false), (0, .b true), (1, oC q4)] [_, _, _, _, _, _, _, _, _, _, _, _] (by kernel_rfl) ⟨q1, cI k1, q2, (w3 k1 k2), q3, cI k3, cI k3, (w4 k1 k2 k3), cI k3, cI k3, (cI (Ad k4)), q4, trivial⟩
 ·refine Al k1 ?_
  replace k1 := Bool.eq_false_iff.2 k1
  by_cases k2 : (((Af x).1) == 1) = true
  ·refine Ak k2 ?_
   by_cases k3 : (x2.2) = true
   ·refine Ak k3 ?_
    exact
     have q1 : Runs lp 36 [P00] (aR8 x) (pI ((Af x).1), [.row [[pS ((Af x).2.1), pB ((Af x).2.2)]]]) := (Dd x)
     have q2 : Runs lp 15 [P00] (Cd x2) (pB x2.2, (Cd x2)) := (Eo x2)
     have q3 : Runs lp 40 [P00] (Cd x2) (.tup [], [.row [[pS x2.1, pB true]]]) := (Ei x2)
     rO [(3, oC q1), (2, .b false), (2, .b true), (1, oC (w5 k1 k2)), (5, oC q2), (1, .b true), (0, .b true), (0, .b true), (0, .b true), (2, oC q3)] [_, _, _, _, _, _, _, _, _, _] (by kernel_rfl) ⟨q1, cI k1, cI k2, (w5 k1 k2), q2, cI k3, cI k3, cI k3, cI k3, q3, trivial⟩
   ·refine Al k3 ?_
    replace k3 := Bool.eq_false_iff.2 k3
    by_cases k4 : ((Aw true (Val.mk k n s is ns) []) == 0) = true
    ·refine Ak k4 ?_
     exact
      have q1 : Runs lp 36 [P00] (aR8 x) (pI ((Af x).1), [.row [[pS ((Af x).2.1), pB ((Af x).2.2)]]]) := (Dd x)
      have q2 : Runs lp 15 [P00] (Cd x2) (pB x2.2, (Cd x2)) := (Eo x2)
      rO [(3, oC q1), (2, .b false), (2, .b true), (1, oC (w5 k1 k2)), (5, oC q2), (1, .b false), (1, .b false), (0, oC (w6 k1 k2 k3)), (0, .b false), (1, .b false), (0, .b false)] [_, _, _, _, _, _, _, _, _, _, _] (by kernel_rfl) ⟨q1, cI k1, cI k2, (w5 k1 k2), q2, cI k3, cI k3, (w6 k1 k2 k3), cI k3, cI k3, (cI (Ad k4)), trivial⟩
    ·refine Al k4 ?_
     replace k4 := Bool.eq_false_iff.2 k4
     exact
      have q1 : Runs lp 36 [P00] (aR8 x) (pI ((Af x).1), [.row [[pS ((Af x).2.1), pB ((Af x).2.2)]]]) := (Dd x)
      have q2 : Runs lp 15 [P00] (Cd x2) (pB x2.2, (Cd x2)) := (Eo x2)
      have q3 : Runs lp 40 [P00] (Cd x2) (.tup [], [.row [[pS x2.1, pB true]]]) := (Ei x2)
      rO [(3, oC q1), (2, .b false), (2, .b true), (1, oC (w5 k1 k2)), (5, oC q2), (1, .b false), (1, .b false), (0, oC (w6 k1 k2 k3)), (0, .b false), (1, .b false), (0, .b true), (1, oC q3)] [_, _, _, _, _, _, _, _, _, _, _, _] (by kernel_rfl) ⟨q1, cI k1, cI k2, (w5 k1 k2), q2, cI k3, cI k3, (w6 k1 k2 k3), cI k3, cI k3, (cI (Ad k4)), q3, trivial⟩
  ·refine Al k2 ?_
   replace k2 := Bool.eq_false_iff.2 k2
   exact
    have q1 : Runs lp 36 [P00] (aR8 x) (pI ((Af x).1), [.row [[pS ((Af x).2.1), pB ((Af x).2.2)]]]) := (Dd x)
    have q2 : Runs lp 40 [P00] [.row [[pS ((Af x).2.1), pB ((Af x).2.2)]]] (.tup [], [.row [[pS ((Af x).2.1), pB true]]]) := (Ei ((Af x).2))
    have q3 : Runs lp 15 [P00] [.row [[pS ((Af x).2.1), pB true]]] (pB true, [.row [[pS ((Af x).2.1), pB true]]]) := (Eo ((Af x).2.1, true))
    have q4 : Runs lp 40 [P00] [.row [[pS ((Af x).2.1), pB true]]] (.tup [], [.row [[pS ((Af x).2.1), pB true]]]) := (Ei ((Af x).2.1, true))
    rO [(3, oC q1), (2, .b false), (2, .b false), (1, oC q2), (1, oC q3), (1, .b true), (0, .b true), (0, .b true), (0, .b true), (2, oC q4)] [_, _, _, _, _, _, _, _, _, _] (by kernel_rfl) ⟨q1, cI k1, cI k2, q2, q3, (cI (b := true) (c := true) (by simp)), (cI (b := true) (c := true) (by simp)), (cI (b := true) (c := true) (by simp)), (cI (b := true) (c := true) (by simp)), q4, trivial⟩
end Go.Proofs.YtegboccilfofmaaGreat
