import Derived.Test.YtegboccilfofmaaGreatLsAb
import Derived.Test.YtegboccilfofmaaGreatLsCodD
set_option linter.unusedVariables false
set_option maxRecDepth 100000
namespace Go.Proofs.YtegboccilfofmaaGreat
open Go Go.LS
theorem itF_yy {x : Src} {k c d : Int} {i : Nat} (c1 : (decide ((i : Int) < c)) = true) (c2 : (x.2) = true) :
  LoopN lp 1 (Ab Fr 0) (tl 0 33 [(0, P00), (2, pI d), (4, P10), (6, .ptr 2 0 0), (8, pI c), (9, pI (i : Int))]) [.row [[pS x.1, pB x.2]], .row [[pI k, pI 0, pT [], .tight [], .tight []]], .row aR3] (.exit 0, (tl 0 33 [(4, P10), (6, .ptr 2 0 0)]), [.row [[pS x.1, pB x.2]], .row [[pI k, pI 0, pT [], .tight [], .tight []]], .row aR3]) :=
 have q1 : Runs lp 15 [P00] (aR8 x) (pB x.2, (aR8 x)) := (Eo x)
 lX [(1, .b true), (1, oC q1), (0, .b true)] [_, _, _] (by kernel_rfl) (by kernel_rfl) ⟨cI c1, q1, cI c2, trivial⟩
theorem itF_yny {x : Src} {k c d : Int} {i : Nat} (kr nr : Int) (sr : BY) (isr : List Val) (nsr : BL) (x2 : Src) (c1 : (decide ((i : Int) < c)) = true) (c2 : (x.2) = false) (c3 : (k == 7) = true) (h4 : Runs lp 91 [P00, pI 32] (aR8 x) (pT ((Aq x 32).1), [.row [[pS ((Aq x 32).2.1), pB ((Aq x 32).2.2)]]])) (h5 : Runs lp 70 [P00, pI d] [.row [[pS ((Aq x 32).2.1), pB ((Aq x 32).2.2)]]] (.agg [pI kr, pI nr, pT sr, pV isr, pN nsr], (Cd x2))) {r : RL} (hr : LoopN lp 1 (Ab Fr 0) (tl 0 33 [(0, P00), (2, pI d), (4, P10), (6, .ptr 4 0 0), (8, pI c), (9, pI (IntKind.wrap .i64 ((i : Int) + 1)))]) [.row [[pS x2.1, pB x2.2]], .row [[pI k, pI 0, pT [], .sl (Ac [(Val.mk kr nr sr isr nsr)]) 2 (List.length (Ac [(Val.mk kr nr sr isr nsr)])), .sl (Aa [(Aq x 32).1]) 3 (List.length (Aa [(Aq x 32).1]))]], .spare 5 (List.length (Ac [(Val.mk kr nr sr isr nsr)])), .spare 1 (List.length (Aa [(Aq x 32).1])), .row aR3] r) :
  LoopN lp 1 (Ab Fr 0) (tl 0 33 [(0, P00), (2, pI d), (4, P10), (6, .ptr 2 0 0), (8, pI c), (9, pI (i : Int))]) [.row [[pS x.1, pB x.2]], .row [[pI k, pI 0, pT [], .tight [], .tight []]], .row aR3] r :=
 have q1 : Runs lp 15 [P00] (aR8 x) (pB x.2, (aR8 x)) := (Eo x)
 have q2 : OpW [.row [[pS ((Aq x 32).2.1), pB ((Aq x 32).2.2)]], .row [[pI k, pI 0, pT [], .tight [], .tight []]], .row aR3] (.append false 1 16 (.const (.tight [])) (.const (.tight [[.str ((Aq x 32).1)]]))) (.sl (Aa [(Aq x 32).1]) 3 (List.length (Aa [(Aq x 32).1]))) [.row [[pS ((Aq x 32).2.1), pB ((Aq x 32).2.2)]], .row [[pI k, pI 0, pT [], .tight [], .tight []]], .row aR3, .spare 1 (List.length (Aa [(Aq x 32).1]))] := (Nc)
 have q3 : OpW [.row [[pS x2.1, pB x2.2]], .row [[pI k, pI 0, pT [], .tight [], .sl (Aa [(Aq x 32).1]) 3 (List.length (Aa [(Aq x 32).1]))]], .row aR3, .spare 1 (List.length (Aa [(Aq x 32).1]))] (.append false 5 80 (.const (.tight [])) (.const (.tight [[.int .i64 kr, .int .i64 nr, .str sr, .sl (Ac isr), .sl (Aa nsr)]]))) (.sl (Ac [(Val.mk kr nr sr isr nsr)]) 4 (List.length (Ac [(Val.mk kr nr sr isr nsr)]))) [.row [[pS x2.1, pB x2.2]], .row [[pI k, pI 0, pT [], .tight [], .sl (Aa [(Aq x 32).1]) 3 (List.length (Aa [(Aq x 32).1]))]], .row aR3, .spare 1 (List.length (Aa [(Aq x 32).1])), .spare 5 (List.length (Ac [(Val.mk kr nr sr isr nsr)]))] := (M3)
 LoopAt.on (N := 100) (os := [(1, .b true), (1, oC q1), (0, .b false), (3, .b true), (3, oC h4), (1, oO q2), (6, oC h5), (1, oO q3)]) (ps := [_, _, _, _, _, Am A2 [] [.row [[pS ((Aq x 32).2.1), pB ((Aq x 32).2.2)]], .row [[pI k, pI 0, pT [], .tight [], .tight []]], .row aR3] (.load false 1 (.const (.ptr 1 0 4))) = some (.tight [], [.row [[pS ((Aq x 32).2.1), pB ((Aq x 32).2.2)]], .row [[pI k, pI 0, pT [], .tight [], .tight []]], .row aR3]), _, _, Am A2 [] [.row [[pS x2.1, pB x2.2]], .row [[pI k, pI 0, pT [], .tight [], .sl (Aa [(Aq x 32).1]) 3 (List.length (Aa [(Aq x 32).1]))]], .row aR3, .spare 1 (List.length (Aa [(Aq x 32).1]))] (.load false 1 (.const (.ptr 1 0 3))) = some (.tight [], [.row [[pS x2.1, pB x2.2]], .row [[pI k, pI 0, pT [], .tight [], .sl (Aa [(Aq x 32).1]) 3 (List.length (Aa [(Aq x 32).1]))]], .row aR3, .spare 1 (List.length (Aa [(Aq x 32).1]))]), _]) (by kernel_rfl) ⟨cI c1, q1, cI c2, cI c3, h4, (by kernel_rfl), q2, h5, (by kernel_rfl), q3, trivial⟩ hr
theorem itF_ynn {x : Src} {k c d : Int} {i : Nat} (kr nr : Int) (sr : BY) (isr : List Val) (nsr : BL) (x2 : Src) (c1 : (decide ((i : Int) < c)) = true) (c2 : (x.2) = false) (c3 : (k == 7) = false) (h4 : Runs lp 70 [P00, pI d] (aR8 x) (.agg [pI kr, pI nr, pT sr, pV isr, pN nsr], (Cd x2))) {r : RL} (hr : LoopN lp 1 (Ab Fr 0) (tl 0 33 [(0, P00), (2, pI d), (4, P10), (6, .ptr 3 0 0), (8, pI c), (9, pI (IntKind.wrap .i64 ((i : Int) + 1)))]) [.row [[pS x2.1, pB x2.2]], .row [[pI k, pI 0, pT [], .sl (Ac [(Val.mk kr nr sr isr nsr)]) 2 (List.length (Ac [(Val.mk kr nr sr isr nsr)])), .tight []]], .spare 5 (List.length (Ac [(Val.mk kr nr sr isr nsr)])), .row aR3] r) :
  LoopN lp 1 (Ab Fr 0) (tl 0 33 [(0, P00), (2, pI d), (4, P10), (6, .ptr 2 0 0), (8, pI c), (9, pI (i : Int))]) [.row [[pS x.1, pB x.2]], .row [[pI k, pI 0, pT [], .tight [], .tight []]], .row aR3] r :=
 have q1 : Runs lp 15 [P00] (aR8 x) (pB x.2, (aR8 x)) := (Eo x)
 have q2 : OpW [.row [[pS x2.1, pB x2.2]], .row [[pI k, pI 0, pT [], .tight [], .tight []]], .row aR3] (.append false 5 80 (.const (.tight [])) (.const (.tight [[.int .i64 kr, .int .i64 nr, .str sr, .sl (Ac isr), .sl (Aa nsr)]]))) (.sl (Ac [(Val.mk kr nr sr isr nsr)]) 3 (List.length (Ac [(Val.mk kr nr sr isr nsr)]))) [.row [[pS x2.1, pB x2.2]], .row [[pI k, pI 0, pT [], .tight [], .tight []]], .row aR3, .spare 5 (List.length (Ac [(Val.mk kr nr sr isr nsr)]))] := (M3)
 LoopAt.on (N := 100) (os := [(1, .b true), (1, oC q1), (0, .b false), (3, .b false), (4, oC h4), (1, oO q2)]) (ps := [_, _, _, _, _, Am A2 [] [.row [[pS x2.1, pB x2.2]], .row [[pI k, pI 0, pT [], .tight [], .tight []]], .row aR3] (.load false 1 (.const (.ptr 1 0 3))) = some (.tight [], [.row [[pS x2.1, pB x2.2]], .row [[pI k, pI 0, pT [], .tight [], .tight []]], .row aR3]), _]) (by kernel_rfl) ⟨cI c1, q1, cI c2, cI c3, h4, (by kernel_rfl), q2, trivial⟩ hr
theorem itF_n {x : Src} {k c d : Int} {i : Nat} (c1 : (decide ((i : Int) < c)) = false) :
  LoopN lp 1 (Ab Fr 0) (tl 0 33 [(0, P00), (2, pI d), (4, P10), (6, .ptr 2 0 0), (8, pI c), (9, pI (i : Int))]) [.row [[pS x.1, pB x.2]], .row [[pI k, pI 0, pT [], .tight [], .tight []]], .row aR3] (.exit 0, (tl 0 33 [(4, P10), (6, .ptr 2 0 0)]), [.row [[pS x.1, pB x.2]], .row [[pI k, pI 0, pT [], .tight [], .tight []]], .row aR3]) :=
 lX [(1, .b false)] [_] (by kernel_rfl) (by kernel_rfl) ⟨cI c1, trivial⟩
theorem itA_yy {x : Src} {k c d : Int} {es : List Val} {i : Nat} (c1 : (decide ((i : Int) < c)) = true) (c2 : (x.2) = true) :
  LoopN lp 1 (Ab Fr 0) (tl 0 33 [(0, P00), (2, pI d), (4, P10), (6, .ptr 3 0 0), (8, pI c), (9, pI (i : Int))]) [.row [[pS x.1, pB x.2]], .row [[pI k, pI 0, pT [], .sl (Ac es) 2 (List.length (Ac es)), .tight []]], .spare 5 (List.length (Ac es)), .row aR3] (.exit 0, (tl 0 33 [(4, P10), (6, .ptr 3 0 0)]), [.row [[pS x.1, pB x.2]], .row [[pI k, pI 0, pT [], .sl (Ac es) 2 (List.length (Ac es)), .tight []]], .spare 5 (List.length (Ac es)), .row aR3]) :=
 have q1 : Runs lp 15 [P00] (aR8 x) (pB x.2, (aR8 x)) := (Eo x)
 lX [(1, .b true), (1, oC q1), (0, .b true)] [_, _, _] (by kernel_rfl) (by kernel_rfl) ⟨cI c1, q1, cI c2, trivial⟩
theorem itA_ynn {x : Src} {k c d : Int} {es : List Val} {i : Nat} (kr nr : Int) (sr : BY) (isr : List Val) (nsr : BL) (x2 : Src) (c1 : (decide ((i : Int) < c)) = true) (c2 : (x.2) = false) (c3 : (k == 7) = false) (h4 : Runs lp 70 [P00, pI d] (aR8 x) (.agg [pI kr, pI nr, pT sr, pV isr, pN nsr], (Cd x2))) (h5 : (List.length es + 1) * 80 ≤ 140737488355328) {r : RL} (hr : LoopN lp 1 (Ab Fr 0) (tl 0 33 [(0, P00), (2, pI d), (4, P10), (6, .ptr 3 0 0), (8, pI c), (9, pI (IntKind.wrap .i64 ((i : Int) + 1)))]) [.row [[pS x2.1, pB x2.2]], .row [[pI k, pI 0, pT [], .sl (Ac (es ++ [(Val.mk kr nr sr isr nsr)])) 2 (List.length (Ac (es ++ [(Val.mk kr nr sr isr nsr)]))), .tight []]], .spare 5 (List.length (Ac (es ++ [(Val.mk kr nr sr isr nsr)]))), .row aR3] r) :
  LoopN lp 1 (Ab Fr 0) (tl 0 33 [(0, P00), (2, pI d), (4, P10), (6, .ptr 3 0 0), (8, pI c), (9, pI (i : Int))]) [.row [[pS x.1, pB x.2]], .row [[pI k, pI 0, pT [], .sl (Ac es) 2 (List.length (Ac es)), .tight []]], .spare 5 (List.length (Ac es)), .row aR3] r :=
 have q1 : Runs lp 15 [P00] (aR8 x) (pB x.2, (aR8 x)) := (Eo x)
 have q2 : OpW [.row [[pS x2.1, pB x2.2]], .row [[pI k, pI 0, pT [], .sl (Ac es) 2 (List.length (Ac es)), .tight []]], .spare 5 (List.length (Ac es)), .row aR3] (.append false 5 80 (.const (.sl (Ac es) 2 (List.length (Ac es)))) (.const (.tight [[.int .i64 kr, .int .i64 nr, .str sr, .sl (Ac isr), .sl (Aa nsr)]]))) (.sl (Ac (es ++ [(Val.mk kr nr sr isr nsr)])) 2 (List.length (Ac (es ++ [(Val.mk kr nr sr isr nsr)])))) [.row [[pS x2.1, pB x2.2]], .row [[pI k, pI 0, pT [], .sl (Ac es) 2 (List.length (Ac es)), .tight []]], .spare 5 (List.length (Ac (es ++ [(Val.mk kr nr sr isr nsr)]))), .row aR3] := (M2 rfl h5)
 LoopAt.on (N := 100) (os := [(1, .b true), (1, oC q1), (0, .b false), (3, .b false), (4, oC h4), (1, oO q2)]) (ps := [_, _, _, _, _, Am A2 [] [.row [[pS x2.1, pB x2.2]], .row [[pI k, pI 0, pT [], .sl (Ac es) 2 (List.length (Ac es)), .tight []]], .spare 5 (List.length (Ac es)), .row aR3] (.load false 1 (.const (.ptr 1 0 3))) = some (.sl (Ac es) 2 (List.length (Ac es)), [.row [[pS x2.1, pB x2.2]], .row [[pI k, pI 0, pT [], .sl (Ac es) 2 (List.length (Ac es)), .tight []]], .spare 5 (List.length (Ac es)), .row aR3]), _]) (by kernel_rfl) ⟨cI c1, q1, cI c2, cI c3, h4, (by kernel_rfl), q2, trivial⟩ hr
theorem itA_n {x : Src} {k c d : Int} {es : List Val} {i : Nat} (c1 : (decide ((i : Int) < c)) = false) :
  LoopN lp 1 (Ab Fr 0) (tl 0 33 [(0, P00), (2, pI d), (4, P10), (6, .ptr 3 0 0), (8, pI c), (9, pI (i : Int))]) [.row [[pS x.1, pB x.2]], .row [[pI k, pI 0, pT [], .sl (Ac es) 2 (List.length (Ac es)), .tight []]], .spare 5 (List.length (Ac es)), .row aR3] (.exit 0, (tl 0 33 [(4, P10), (6, .ptr 3 0 0)]), [.row [[pS x.1, pB x.2]], .row [[pI k, pI 0, pT [], .sl (Ac es) 2 (List.length (Ac es)), .tight []]], .spare 5 (List.length (Ac es)), .row aR3]) :=
 lX [(1, .b false)] [_] (by kernel_rfl) (by kernel_rfl) ⟨cI c1, trivial⟩
theorem itD_yy {x : Src} {k c d : Int} {es : List Val} {ms : BL} {i : Nat} (c1 : (decide ((i : Int) < c)) = true) (c2 : (x.2) = true) :
  LoopN lp 1 (Ab Fr 0) (tl 0 33 [(0, P00), (2, pI d), (4, P10), (6, .ptr 4 0 0), (8, pI c), (9, pI (i : Int))]) (aR10 es k ms x) (.exit 0, (tl 0 33 [(4, P10), (6, .ptr 4 0 0)]), (aR10 es k ms x)) :=
 have q1 : Runs lp 15 [P00] (aR8 x) (pB x.2, (aR8 x)) := (Eo x)
 lX [(1, .b true), (1, oC q1), (0, .b true)] [_, _, _] (by kernel_rfl) (by kernel_rfl) ⟨cI c1, q1, cI c2, trivial⟩
theorem itD_yny {x : Src} {k c d : Int} {es : List Val} {ms : BL} {i : Nat} (kr nr : Int) (sr : BY) (isr : List Val) (nsr : BL) (x2 : Src) (c1 : (decide ((i : Int) < c)) = true) (c2 : (x.2) = false) (c3 : (k == 7) = true) (h4 : Runs lp 91 [P00, pI 32] (aR8 x) (pT ((Aq x 32).1), [.row [[pS ((Aq x 32).2.1), pB ((Aq x 32).2.2)]]])) (h5 : (List.length ms + 1) * 16 ≤ 140737488355328) (h6 : Runs lp 70 [P00, pI d] [.row [[pS ((Aq x 32).2.1), pB ((Aq x 32).2.2)]]] (.agg [pI kr, pI nr, pT sr, pV isr, pN nsr], (Cd x2))) (h7 : (List.length es + 1) * 80 ≤ 140737488355328) {r : RL} (hr : LoopN lp 1 (Ab Fr 0) (tl 0 33 [(0, P00), (2, pI d), (4, P10), (6, .ptr 4 0 0), (8, pI c), (9, pI (IntKind.wrap .i64 ((i : Int) + 1)))]) [.row [[pS x2.1, pB x2.2]], .row [[pI k, pI 0, pT [], .sl (Ac (es ++ [(Val.mk kr nr sr isr nsr)])) 2 (List.length (Ac (es ++ [(Val.mk kr nr sr isr nsr)]))), .sl (Aa (ms ++ [(Aq x 32).1])) 3 (List.length (Aa (ms ++ [(Aq x 32).1])))]], .spare 5 (List.length (Ac (es ++ [(Val.mk kr nr sr isr nsr)]))), .spare 1 (List.length (Aa (ms ++ [(Aq x 32).1]))), .row aR3] r) :
  LoopN lp 1 (Ab Fr 0) (tl 0 33 [(0, P00), (2, pI d), (4, P10), (6, .ptr 4 0 0), (8, pI c), (9, pI (i : Int))]) (aR10 es k ms x) r :=
 have q1 : Runs lp 15 [P00] (aR8 x) (pB x.2, (aR8 x)) := (Eo x)
 have q2 : OpW [.row [[pS ((Aq x 32).2.1), pB ((Aq x 32).2.2)]], .row [[pI k, pI 0, pT [], .sl (Ac es) 2 (List.length (Ac es)), .sl (Aa ms) 3 (List.length (Aa ms))]], .spare 5 (List.length (Ac es)), .spare 1 (List.length (Aa ms)), .row aR3] (.append false 1 16 (.const (.sl (Aa ms) 3 (List.length (Aa ms)))) (.const (.tight [[.str ((Aq x 32).1)]]))) (.sl (Aa (ms ++ [(Aq x 32).1])) 3 (List.length (Aa (ms ++ [(Aq x 32).1])))) [.row [[pS ((Aq x 32).2.1), pB ((Aq x 32).2.2)]], .row [[pI k, pI 0, pT [], .sl (Ac es) 2 (List.length (Ac es)), .sl (Aa ms) 3 (List.length (Aa ms))]], .spare 5 (List.length (Ac es)), .spare 1 (List.length (Aa (ms ++ [(Aq x 32).1]))), .row aR3] := (Nb rfl h5)
 have q3 : OpW [.row [[pS x2.1, pB x2.2]], .row [[pI k, pI 0, pT [], .sl (Ac es) 2 (List.length (Ac es)), .sl (Aa (ms ++ [(Aq x 32).1])) 3 (List.length (Aa (ms ++ [(Aq x 32).1])))]], .spare 5 (List.length (Ac es)), .spare 1 (List.length (Aa (ms ++ [(Aq x 32).1]))), .row aR3] (.append false 5 80 (.const (.sl (Ac es) 2 (List.length (Ac es)))) (.const (.tight [[.int .i64 kr, .int .i64 nr, .str sr, .sl (Ac isr), .sl (Aa nsr)]]))) (.sl (Ac (es ++ [(Val.mk kr nr sr isr nsr)])) 2 (List.length (Ac (es ++ [(Val.mk kr nr sr isr nsr)])))) [.row [[pS x2.1, pB x2.2]], .row [[pI k, pI 0, pT [], .sl (Ac es) 2 (List.length (Ac es)), .sl (Aa (ms ++ [(Aq x 32).1])) 3 (List.length (Aa (ms ++ [(Aq x 32).1])))]], .spare 5 (List.length (Ac (es ++ [(Val.mk kr nr sr isr nsr)]))), .spare 1 (List.length (Aa (ms ++ [(Aq x 32).1]))), .row aR3] := (M2 rfl h7)
 LoopAt.on (N := 100) (os := [(1, .b true), (1, oC q1), (0, .b false), (3, .b true), (3, oC h4), (1, oO q2), (6, oC h6), (1, oO q3)]) (ps := [_, _, _, _, _, Am A2 [] [.row [[pS ((Aq x 32).2.1), pB ((Aq x 32).2.2)]], .row [[pI k, pI 0, pT [], .sl (Ac es) 2 (List.length (Ac es)), .sl (Aa ms) 3 (List.length (Aa ms))]], .spare 5 (List.length (Ac es)), .spare 1 (List.length (Aa ms)), .row aR3] (.load false 1 (.const (.ptr 1 0 4))) = some (.sl (Aa ms) 3 (List.length (Aa ms)), [.row [[pS ((Aq x 32).2.1), pB ((Aq x 32).2.2)]], .row [[pI k, pI 0, pT [], .sl (Ac es) 2 (List.length (Ac es)), .sl (Aa ms) 3 (List.length (Aa ms))]], .spare 5 (List.length (Ac es)), .spare 1 (List.length (Aa ms)), .row aR3]), _, _, Am A2 [] [.row [[pS x2.1, pB x2.2]], .row [[pI k, pI 0, pT [], .sl (Ac es) 2 (List.length (Ac es)), .sl (Aa (ms ++ [(Aq x 32).1])) 3 (List.length (Aa (ms ++ [(Aq x 32).1])))]], .spare 5 (List.length (Ac es)), .spare 1 (List.length (Aa (ms ++ [(Aq x 32).1]))), .row aR3] (.load false 1 (.const (.ptr 1 0 3))) = some (.sl (Ac es) 2 (List.length (Ac es)), [.row [[pS x2.1, pB x2.2]], .row [[pI k, pI 0, pT [], .sl (Ac es) 2 (List.length (Ac es)), .sl (Aa (ms ++ [(Aq x 32).1])) 3 (List.length (Aa (ms ++ [(Aq x 32).1])))]], .spare 5 (List.length (Ac es)), .spare 1 (List.length (Aa (ms ++ [(Aq x 32).1]))), .row aR3]), _]) (by kernel_rfl) ⟨cI c1, q1, cI c2, cI c3, h4, (by kernel_rfl), q2, h6, (by kernel_rfl), q3, trivial⟩ hr
theorem itD_n {x : Src} {k c d : Int} {es : List Val} {ms : BL} {i : Nat} (c1 : (decide ((i : Int) < c)) = false) :
  LoopN lp 1 (Ab Fr 0) (tl 0 33 [(0, P00), (2, pI d), (4, P10), (6, .ptr 4 0 0), (8, pI c), (9, pI (i : Int))]) (aR10 es k ms x) (.exit 0, (tl 0 33 [(4, P10), (6, .ptr 4 0 0)]), (aR10 es k ms x)) :=
 lX [(1, .b false)] [_] (by kernel_rfl) (by kernel_rfl) ⟨cI c1, trivial⟩
theorem vIt0 {x x2 : Src} {k d : Int} {es : List Val} {ms : BL} (w1 : (decide (es = [])) = true → LoopN lp 1 (Ab Fr 0) (tl 0 33 [(0, P00), (2, pI d), (4, P10), (6, .ptr 2 0 0), (8, pI ((Ar x 4096).1)), (9, pI 0)]) [.row [[pS ((Ar x 4096).2.1), pB ((Ar x 4096).2.2)]], .row [[pI k, pI 0, pT [], .tight [], .tight []]], .row aR3] (.exit 0, (tl 0 33 [(4, P10), (6, .ptr 2 0 0)]), [.row [[pS x2.1, pB x2.2]], .row [[pI k, pI 0, pT [], .tight [], .tight []]], .row aR3])) (w2 : (decide (es = [])) = false → (k == 7) = true → LoopN lp 1 (Ab Fr 0) (tl 0 33 [(0, P00), (2, pI d), (4, P10), (6, .ptr 2 0 0), (8, pI ((Ar x 4096).1)), (9, pI 0)]) [.row [[pS ((Ar x 4096).2.1), pB ((Ar x 4096).2.2)]], .row [[pI k, pI 0, pT [], .tight [], .tight []]], .row aR3] (.exit 0, (tl 0 33 [(4, P10), (6, .ptr 4 0 0)]), [.row [[pS x2.1, pB x2.2]], .row [[pI k, pI 0, pT [], .sl (Ac es) 2 (List.length (Ac es)), .sl (Aa ms) 3 (List.length (Aa ms))]], .spare 5 (List.length (Ac es)), .spare 1 (List.length (Aa ms)), .row aR3])) (w3 : (decide (es = [])) = false → (k == 7) = false → LoopN lp 1 (Ab Fr 0) (tl 0 33 [(0, P00), (2, pI d), (4, P10), (6, .ptr 2 0 0), (8, pI ((Ar x 4096).1)), (9, pI 0)]) [.row [[pS ((Ar x 4096).2.1), pB ((Ar x 4096).2.2)]], .row [[pI k, pI 0, pT [], .tight [], .tight []]], .row aR3] (.exit 0, (tl 0 33 [(4, P10), (6, .ptr 3 0 0)]), [.row [[pS x2.1, pB x2.2]], .row [[pI k, pI 0, pT [], .sl (Ac es) 2 (List.length (Ac es)), .tight []]], .spare 5 (List.length (Ac es)), .row aR3])) :
  Runs lp 93 [P00, .agg [pI k, pI 0, pT [], .tight [], .tight []], pI d] (aR8 x) (if (decide (es = [])) = true then ((.agg [pI k, pI 0, pT [], .p (.sl []), .p (.sl [])], (Cd x2))) else (if (k == 7) = true then ((.agg [pI k, pI 0, pT [], pV es, pN ms], (Cd x2))) else ((.agg [pI k, pI 0, pT [], pV es, .p (.sl [])], (Cd x2))))) := by
 by_cases k1 : (decide (es = [])) = true
 ·refine Ak k1 ?_
  exact
   have q1 : Runs lp 37 [P00, pI 4096] (aR8 x) (pI ((Ar x 4096).1), [.row [[pS ((Ar x 4096).2.1), pB ((Ar x 4096).2.2)]]]) := (E7 x 4096)
   rO [(3, oC q1), (1, oL (w1 k1))] [_, _] (by kernel_rfl) ⟨q1, (w1 k1), trivial⟩
 ·refine Al k1 ?_
  replace k1 := Bool.eq_false_iff.2 k1
  by_cases k2 : (k == 7) = true
  ·refine Ak k2 ?_
   exact
    have q1 : Runs lp 37 [P00, pI 4096] (aR8 x) (pI ((Ar x 4096).1), [.row [[pS ((Ar x 4096).2.1), pB ((Ar x 4096).2.2)]]]) := (E7 x 4096)
    rO [(3, oC q1), (1, oL (w2 k1 k2))] [_, _] (by kernel_rfl) ⟨q1, (w2 k1 k2), trivial⟩
  ·refine Al k2 ?_
   replace k2 := Bool.eq_false_iff.2 k2
   exact
    have q1 : Runs lp 37 [P00, pI 4096] (aR8 x) (pI ((Ar x 4096).1), [.row [[pS ((Ar x 4096).2.1), pB ((Ar x 4096).2.2)]]]) := (E7 x 4096)
    rO [(3, oC q1), (1, oL (w3 k1 k2))] [_, _] (by kernel_rfl) ⟨q1, (w3 k1 k2), trivial⟩
theorem vRd0 {x x2 : Src} {d : Int} {es : List Val} {ms : BL} (w1 : (d == 0) = false → (((Af x).1) == 1) = false → (((Af x).1) == 2) = false → (((Af x).1) == 3) = false → (((Af x).1) == 4) = true → Runs lp 91 [P00, pI 4096] [.row [[pS ((Af x).2.1), pB ((Af x).2.2)]]] (pT ((Aq ((Af x).2) 4096).1), [.row [[pS ((Aq ((Af x).2) 4096).2.1), pB ((Aq ((Af x).2) 4096).2.2)]]])) (w2 : (d == 0) = false → (((Af x).1) == 1) = false → (((Af x).1) == 2) = false → (((Af x).1) == 3) = false → (((Af x).1) == 4) = false → (((Af x).1) == 5) = true → Runs lp 91 [P00, pI 4096] [.row [[pS ((Af x).2.1), pB ((Af x).2.2)]]] (pT ((Aq ((Af x).2) 4096).1), [.row [[pS ((Aq ((Af x).2) 4096).2.1), pB ((Aq ((Af x).2) 4096).2.2)]]])) (w3 : (d == 0) = false → (((Af x).1) == 1) = false → (((Af x).1) == 2) = false → (((Af x).1) == 3) = false → (((Af x).1) == 4) = false → (((Af x).1) == 5) = false → (((Af x).1) == 6) = true → Runs lp 93 [P00, .agg [pI ((Af x).1), pI 0, pT [], .tight [], .tight []], pI (IntKind.wrap .i64 (d - 1))] [.row [[pS ((Af x).2.1), pB ((Af x).2.2)]]] (.agg [pI ((Af x).1), pI 0, pT [], pV es, pN ms], (Cd x2))) (w4 : (d == 0) = false → (((Af x).1) == 1) = false → (((Af x).1) == 2) = false → (((Af x).1) == 3) = false → (((Af x).1) == 4) = false → (((Af x).1) == 5) = false → (((Af x).1) == 6) = false → (((Af x).1) == 7) = true → Runs lp 93 [P00, .agg [pI ((Af x).1), pI 0, pT [], .tight [], .tight []], pI (IntKind.wrap .i64 (d - 1))] [.row [[pS ((Af x).2.1), pB ((Af x).2.2)]]] (.agg [pI ((Af x).1), pI 0, pT [], pV es, pN ms], (Cd x2))) :
  Runs lp 70 [P00, pI d] (aR8 x) (if (d == 0) = true then ((.agg [pI ((Af x).1), pI 0, pT [], .p (.sl []), .p (.sl [])], [.row [[pS ((Af x).2.1), pB true]]])) else (if (((Af x).1) == 1) = true then ((.agg [pI ((Af x).1), pI 0, pT [], .p (.sl []), .p (.sl [])], [.row [[pS ((Af x).2.1), pB ((Af x).2.2)]]])) else (if (((Af x).1) == 2) = true then ((.agg [pI ((Af x).1), pI ((Af ((Af x).2)).1), pT [], .p (.sl []), .p (.sl [])], [.row [[pS ((Af ((Af x).2)).2.1), pB ((Af ((Af x).2)).2.2)]]])) else (if (((Af x).1) == 3) = true then ((.agg [pI ((Af x).1), pI ((F4 ((Af x).2)).1), pT [], .p (.sl []), .p (.sl [])], [.row [[pS ((F4 ((Af x).2)).2.1), pB ((F4 ((Af x).2)).2.2)]]])) else (if (((Af x).1) == 4) = true then ((.agg [pI ((Af x).1), pI 0, pT ((Aq ((Af x).2) 4096).1), .p (.sl []), .p (.sl [])], [.row [[pS ((Aq ((Af x).2) 4096).2.1), pB ((Aq ((Af x).2) 4096).2.2)]]])) else (if (((Af x).1) == 5) = true then ((.agg [pI ((Af x).1), pI 0, pT ((Aq ((Af x).2) 4096).1), .p (.sl []), .p (.sl [])], [.row [[pS ((Aq ((Af x).2) 4096).2.1), pB ((Aq ((Af x).2) 4096).2.2)]]])) else (if (((Af x).1) == 6) = true then ((.agg [pI ((Af x).1), pI 0, pT [], pV es, pN ms], (Cd x2))) else (if (((Af x).1) == 7) = true then ((.agg [pI ((Af x).1), pI 0, pT [], pV es, pN ms], (Cd x2))) else ((.agg [pI ((Af x).1), pI 0, pT [], .p (.sl []), .p (.sl [])], [.row [[pS ((Af x).2.1), pB true]]])))))))))) := by
 by_cases k1 : (d == 0) = true
 ·refine Ak k1 ?_
  exact
   have q1 : Runs lp 36 [P00] (aR8 x) (pI ((Af x).1), [.row [[pS ((Af x).2.1), pB ((Af x).2.2)]]]) := (Dd x)
   have q2 : Runs lp 40 [P00] [.row [[pS ((Af x).2.1), pB ((Af x).2.2)]]] (.tup [], [.row [[pS ((Af x).2.1), pB true]]]) := (Ei ((Af x).2))
   rO [(2, oC q1), (5, .b true), (1, oC q2)] [_, _, _] (by kernel_rfl) ⟨q1, cI k1, q2, trivial⟩
 ·refine Al k1 ?_
  replace k1 := Bool.eq_false_iff.2 k1
  by_cases k2 : (((Af x).1) == 1) = true
  ·refine Ak k2 ?_
   exact
    have q1 : Runs lp 36 [P00] (aR8 x) (pI ((Af x).1), [.row [[pS ((Af x).2.1), pB ((Af x).2.2)]]]) := (Dd x)
    rO [(2, oC q1), (5, .b false), (4, .b true)] [_, _, _] (by kernel_rfl) ⟨q1, cI k1, cI k2, trivial⟩
  ·refine Al k2 ?_
   replace k2 := Bool.eq_false_iff.2 k2
   by_cases k3 : (((Af x).1) == 2) = true
   ·refine Ak k3 ?_
    exact
     have q1 : Runs lp 36 [P00] (aR8 x) (pI ((Af x).1), [.row [[pS ((Af x).2.1), pB ((Af x).2.2)]]]) := (Dd x)
     have q2 : Runs lp 36 [P00] [.row [[pS ((Af x).2.1), pB ((Af x).2.2)]]] (pI ((Af ((Af x).2)).1), [.row [[pS ((Af ((Af x).2)).2.1), pB ((Af ((Af x).2)).2.2)]]]) := (Dd ((Af x).2))
     rO [(2, oC q1), (5, .b false), (4, .b false), (2, .b true), (1, oC q2)] [_, _, _, _, _] (by kernel_rfl) ⟨q1, cI k1, cI k2, cI k3, q2, trivial⟩
   ·refine Al k3 ?_
    replace k3 := Bool.eq_false_iff.2 k3
    by_cases k4 : (((Af x).1) == 3) = true
    ·refine Ak k4 ?_
     exact
      have q1 : Runs lp 36 [P00] (aR8 x) (pI ((Af x).1), [.row [[pS ((Af x).2.1), pB ((Af x).2.2)]]]) := (Dd x)
      have q2 : Runs lp 92 [P00] [.row [[pS ((Af x).2.1), pB ((Af x).2.2)]]] (pI ((F4 ((Af x).2)).1), [.row [[pS ((F4 ((Af x).2)).2.1), pB ((F4 ((Af x).2)).2.2)]]]) := (vInt ((Af x).2))
      rO [(2, oC q1), (5, .b false), (4, .b false), (2, .b false), (2, .b true), (1, oC q2)] [_, _, _, _, _, _] (by kernel_rfl) ⟨q1, cI k1, cI k2, cI k3, cI k4, q2, trivial⟩
    ·refine Al k4 ?_
     replace k4 := Bool.eq_false_iff.2 k4
     by_cases k5 : (((Af x).1) == 4) = true
     ·refine Ak k5 ?_
      exact
       have q1 : Runs lp 36 [P00] (aR8 x) (pI ((Af x).1), [.row [[pS ((Af x).2.1), pB ((Af x).2.2)]]]) := (Dd x)
       rO [(2, oC q1), (5, .b false), (4, .b false), (2, .b false), (2, .b false), (2, .b true), (0, .b true), (1, oC (w1 k1 k2 k3 k4 k5))] [_, _, _, _, _, _, _, _] (by kernel_rfl) ⟨q1, cI k1, cI k2, cI k3, cI k4, cI k5, cI k5, (w1 k1 k2 k3 k4 k5), trivial⟩
     ·refine Al k5 ?_
      replace k5 := Bool.eq_false_iff.2 k5
      by_cases k6 : (((Af x).1) == 5) = true
      ·refine Ak k6 ?_
       exact
        have q1 : Runs lp 36 [P00] (aR8 x) (pI ((Af x).1), [.row [[pS ((Af x).2.1), pB ((Af x).2.2)]]]) := (Dd x)
        rO [(2, oC q1), (5, .b false), (4, .b false), (2, .b false), (2, .b false), (2, .b false), (2, .b true), (1, oC (w2 k1 k2 k3 k4 k5 k6))] [_, _, _, _, _, _, _, _] (by kernel_rfl) ⟨q1, cI k1, cI k2, cI k3, cI k4, cI k5, cI k6, (w2 k1 k2 k3 k4 k5 k6), trivial⟩
      ·refine Al k6 ?_
       replace k6 := Bool.eq_false_iff.2 k6
       by_cases k7 : (((Af x).1) == 6) = true
       ·refine Ak k7 ?_
        exact
         have q1 : Runs lp 36 [P00] (aR8 x) (pI ((Af x).1), [.row [[pS ((Af x).2.1), pB ((Af x).2.2)]]]) := (Dd x)
         rO [(2, oC q1), (5, .b false), (4, .b false), (2, .b false), (2, .b false), (2, .b false), (2, .b false), (2, .b true), (0, .b true), (4, oC (w3 k1 k2 k3 k4 k5 k6 k7))] [_, _, _, _, _, _, _, _, _, _] (by kernel_rfl) ⟨q1, cI k1, cI k2, cI k3, cI k4, cI k5, cI k6, cI k7, cI k7, (w3 k1 k2 k3 k4 k5 k6 k7), trivial⟩
       ·refine Al k7 ?_
        replace k7 := Bool.eq_false_iff.2 k7
        by_cases k8 : (((Af x).1) == 7) = true
        ·refine Ak k8 ?_
         exact
          have q1 : Runs lp 36 [P00] (aR8 x) (pI ((Af x).1), [.row [[pS ((Af x).2.1), pB ((Af x).2.2)]]]) := (Dd x)
          rO [(2, oC q1), (5, .b false), (4, .b false), (2, .b false), (2, .b false), (2, .b false), (2, .b false), (2, .b false), (2, .b true), (4, oC (w4 k1 k2 k3 k4 k5 k6 k7 k8))] [_, _, _, _, _, _, _, _, _, _] (by kernel_rfl) ⟨q1, cI k1, cI k2, cI k3, cI k4, cI k5, cI k6, cI k7, cI k8, (w4 k1 k2 k3 k4 k5 k6 k7 k8), trivial⟩
        ·refine Al k8 ?_
         replace k8 := Bool.eq_false_iff.2 k8
         exact
          have q1 : Runs lp 36 [P00] (aR8 x) (pI ((Af x).1), [.row [[pS ((Af x).2.1), pB ((Af x).2.2)]]]) := (Dd x)
          have q2 : Runs lp 40 [P00] [.row [[pS ((Af x).2.1), pB ((Af x).2.2)]]] (.tup [], [.row [[pS ((Af x).2.1), pB true]]]) := (Ei ((Af x).2))
          rO [(2, oC q1), (5, .b false), (4, .b false), (2, .b false), (2, .b false), (2, .b false), (2, .b false), (2, .b false), (2, .b false), (1, oC q2)] [_, _, _, _, _, _, _, _, _, _] (by kernel_rfl) ⟨q1, cI k1, cI k2, cI k3, cI k4, cI k5, cI k6, cI k7, cI k8, q2, trivial⟩
end Go.Proofs.YtegboccilfofmaaGreat
