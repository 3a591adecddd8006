import Derived.Test.YtmbjojnldbeicaaLsAb
import Derived.Test.YtmbjojnldbeicaaLsCodD
set_option linter.unusedVariables false
set_option linter.unusedSimpArgs false
set_option maxRecDepth 100000
namespace Go.Proofs.Ytmbjojnldbeicaa
open Go Go.LS
theorem itF_yy {x : Src} {k c d : Int} {i : Nat} (c1 : (decide ((i : Int) < c)) = true) (c2 : (x.2) = true) :
  LoopN lp 1 (Ae Gf 0) (tl 0 33 [(0, P00), (2, pI d), (4, P10), (6, .ptr 2 0 0), (8, pI c), (9, pI (i : Int))]) [.row [[pS x.1, pB x.2]], .row [[pI k, pI 0, pT [], .tight [], .tight []]], .row aR0] (.exit 0, (tl 0 33 [(4, P10), (6, .ptr 2 0 0)]), [.row [[pS x.1, pB x.2]], .row [[pI k, pI 0, pT [], .tight [], .tight []]], .row aR0]) :=
 have q1 : Runs lp 23 [P00] [.row [[pS x.1, pB x.2]]] (pB x.2, [.row [[pS x.1, pB x.2]]]) := (Ko x)
 lX [(1, .b true), (1, oC q1), (0, .b true)] [_, _, _] (by kernel_rfl) (by kernel_rfl) ⟨cI c1, q1, cI c2, trivial⟩
theorem itF_yny {x : Src} {k c d : Int} {i : Nat} (kr nr : Int) (sr : BY) (isr : List Val) (nsr : BL) (x2 : Src) (c1 : (decide ((i : Int) < c)) = true) (c2 : (x.2) = false) (c3 : (k == 7) = true) (h4 : Runs lp 84 [P00, pI 32] [.row [[pS x.1, pB x.2]]] (pT ((Ba x 32).1), [.row [[pS ((Ba x 32).2.1), pB ((Ba x 32).2.2)]]])) (h5 : Runs lp 77 [P00, pI d] [.row [[pS ((Ba x 32).2.1), pB ((Ba x 32).2.2)]]] (.agg [pI kr, pI nr, pT sr, pV isr, pN nsr], [.row [[pS x2.1, pB x2.2]]])) {r : RL} (hr : LoopN lp 1 (Ae Gf 0) (tl 0 33 [(0, P00), (2, pI d), (4, P10), (6, .ptr 4 0 0), (8, pI c), (9, pI (IntKind.wrap .i64 ((i : Int) + 1)))]) [.row [[pS x2.1, pB x2.2]], .row [[pI k, pI 0, pT [], .sl (Ad [(Val.mk kr nr sr isr nsr)]) 2 (List.length (Ad [(Val.mk kr nr sr isr nsr)])), .sl (Ak [(Ba x 32).1]) 3 (List.length (Ak [(Ba x 32).1]))]], .spare 5 (List.length (Ad [(Val.mk kr nr sr isr nsr)])), .spare 1 (List.length (Ak [(Ba x 32).1])), .row aR0] r) :
  LoopN lp 1 (Ae Gf 0) (tl 0 33 [(0, P00), (2, pI d), (4, P10), (6, .ptr 2 0 0), (8, pI c), (9, pI (i : Int))]) [.row [[pS x.1, pB x.2]], .row [[pI k, pI 0, pT [], .tight [], .tight []]], .row aR0] r :=
 have q1 : Runs lp 23 [P00] [.row [[pS x.1, pB x.2]]] (pB x.2, [.row [[pS x.1, pB x.2]]]) := (Ko x)
 have q2 : OpW [.row [[pS ((Ba x 32).2.1), pB ((Ba x 32).2.2)]], .row [[pI k, pI 0, pT [], .tight [], .tight []]], .row aR0] (.append false 1 16 (.const (.tight [])) (.const (.tight [[.str ((Ba x 32).1)]]))) (.sl (Ak [(Ba x 32).1]) 3 (List.length (Ak [(Ba x 32).1]))) [.row [[pS ((Ba x 32).2.1), pB ((Ba x 32).2.2)]], .row [[pI k, pI 0, pT [], .tight [], .tight []]], .row aR0, .spare 1 (List.length (Ak [(Ba x 32).1]))] := (U6)
 have q3 : OpW [.row [[pS x2.1, pB x2.2]], .row [[pI k, pI 0, pT [], .tight [], .sl (Ak [(Ba x 32).1]) 3 (List.length (Ak [(Ba x 32).1]))]], .row aR0, .spare 1 (List.length (Ak [(Ba x 32).1]))] (.append false 5 80 (.const (.tight [])) (.const (.tight [[.int .i64 kr, .int .i64 nr, .str sr, .sl (Ad isr), .sl (Ak nsr)]]))) (.sl (Ad [(Val.mk kr nr sr isr nsr)]) 4 (List.length (Ad [(Val.mk kr nr sr isr nsr)]))) [.row [[pS x2.1, pB x2.2]], .row [[pI k, pI 0, pT [], .tight [], .sl (Ak [(Ba x 32).1]) 3 (List.length (Ak [(Ba x 32).1]))]], .row aR0, .spare 1 (List.length (Ak [(Ba x 32).1])), .spare 5 (List.length (Ad [(Val.mk kr nr sr isr nsr)]))] := (Ji)
 LoopAt.on (N := 100) (os := [(1, .b true), (1, oC q1), (0, .b false), (3, .b true), (3, oC h4), (1, oO q2), (6, oC h5), (1, oO q3)]) (ps := [_, _, _, _, _, Ao A0 [] [.row [[pS ((Ba x 32).2.1), pB ((Ba x 32).2.2)]], .row [[pI k, pI 0, pT [], .tight [], .tight []]], .row aR0] (.load false 1 (.const (.ptr 1 0 4))) = some (.tight [], [.row [[pS ((Ba x 32).2.1), pB ((Ba x 32).2.2)]], .row [[pI k, pI 0, pT [], .tight [], .tight []]], .row aR0]), _, _, Ao A0 [] [.row [[pS x2.1, pB x2.2]], .row [[pI k, pI 0, pT [], .tight [], .sl (Ak [(Ba x 32).1]) 3 (List.length (Ak [(Ba x 32).1]))]], .row aR0, .spare 1 (List.length (Ak [(Ba x 32).1]))] (.load false 1 (.const (.ptr 1 0 3))) = some (.tight [], [.row [[pS x2.1, pB x2.2]], .row [[pI k, pI 0, pT [], .tight [], .sl (Ak [(Ba x 32).1]) 3 (List.length (Ak [(Ba x 32).1]))]], .row aR0, .spare 1 (List.length (Ak [(Ba x 32).1]))]), _]) (by kernel_rfl) ⟨cI c1, q1, cI c2, cI c3, h4, (by kernel_rfl), q2, h5, (by kernel_rfl), q3, trivial⟩ hr
theorem itF_ynn {x : Src} {k c d : Int} {i : Nat} (kr nr : Int) (sr : BY) (isr : List Val) (nsr : BL) (x2 : Src) (c1 : (decide ((i : Int) < c)) = true) (c2 : (x.2) = false) (c3 : (k == 7) = false) (h4 : Runs lp 77 [P00, pI d] [.row [[pS x.1, pB x.2]]] (.agg [pI kr, pI nr, pT sr, pV isr, pN nsr], [.row [[pS x2.1, pB x2.2]]])) {r : RL} (hr : LoopN lp 1 (Ae Gf 0) (tl 0 33 [(0, P00), (2, pI d), (4, P10), (6, .ptr 3 0 0), (8, pI c), (9, pI (IntKind.wrap .i64 ((i : Int) + 1)))]) [.row [[pS x2.1, pB x2.2]], .row [[pI k, pI 0, pT [], .sl (Ad [(Val.mk kr nr sr isr nsr)]) 2 (List.length (Ad [(Val.mk kr nr sr isr nsr)])), .tight []]], .spare 5 (List.length (Ad [(Val.mk kr nr sr isr nsr)])), .row aR0] r) :
  LoopN lp 1 (Ae Gf 0) (tl 0 33 [(0, P00), (2, pI d), (4, P10), (6, .ptr 2 0 0), (8, pI c), (9, pI (i : Int))]) [.row [[pS x.1, pB x.2]], .row [[pI k, pI 0, pT [], .tight [], .tight []]], .row aR0] r :=
 have q1 : Runs lp 23 [P00] [.row [[pS x.1, pB x.2]]] (pB x.2, [.row [[pS x.1, pB x.2]]]) := (Ko x)
 have q2 : OpW [.row [[pS x2.1, pB x2.2]], .row [[pI k, pI 0, pT [], .tight [], .tight []]], .row aR0] (.append false 5 80 (.const (.tight [])) (.const (.tight [[.int .i64 kr, .int .i64 nr, .str sr, .sl (Ad isr), .sl (Ak nsr)]]))) (.sl (Ad [(Val.mk kr nr sr isr nsr)]) 3 (List.length (Ad [(Val.mk kr nr sr isr nsr)]))) [.row [[pS x2.1, pB x2.2]], .row [[pI k, pI 0, pT [], .tight [], .tight []]], .row aR0, .spare 5 (List.length (Ad [(Val.mk kr nr sr isr nsr)]))] := (Ji)
 LoopAt.on (N := 100) (os := [(1, .b true), (1, oC q1), (0, .b false), (3, .b false), (4, oC h4), (1, oO q2)]) (ps := [_, _, _, _, _, Ao A0 [] [.row [[pS x2.1, pB x2.2]], .row [[pI k, pI 0, pT [], .tight [], .tight []]], .row aR0] (.load false 1 (.const (.ptr 1 0 3))) = some (.tight [], [.row [[pS x2.1, pB x2.2]], .row [[pI k, pI 0, pT [], .tight [], .tight []]], .row aR0]), _]) (by kernel_rfl) ⟨cI c1, q1, cI c2, cI c3, h4, (by kernel_rfl), q2, trivial⟩ hr
theorem itF_n {x : Src} {k c d : Int} {i : Nat} (c1 : (decide ((i : Int) < c)) = false) :
  LoopN lp 1 (Ae Gf 0) (tl 0 33 [(0, P00), (2, pI d), (4, P10), (6, .ptr 2 0 0), (8, pI c), (9, pI (i : Int))]) [.row [[pS x.1, pB x.2]], .row [[pI k, pI 0, pT [], .tight [], .tight []]], .row aR0] (.exit 0, (tl 0 33 [(4, P10), (6, .ptr 2 0 0)]), [.row [[pS x.1, pB x.2]], .row [[pI k, pI 0, pT [], .tight [], .tight []]], .row aR0]) :=
 lX [(1, .b false)] [_] (by kernel_rfl) (by kernel_rfl) ⟨cI c1, trivial⟩
theorem itA_yy {x : Src} {k c d : Int} {es : List Val} {i : Nat} (c1 : (decide ((i : Int) < c)) = true) (c2 : (x.2) = true) :
  LoopN lp 1 (Ae Gf 0) (tl 0 33 [(0, P00), (2, pI d), (4, P10), (6, .ptr 3 0 0), (8, pI c), (9, pI (i : Int))]) [.row [[pS x.1, pB x.2]], .row [[pI k, pI 0, pT [], .sl (Ad es) 2 (List.length (Ad es)), .tight []]], .spare 5 (List.length (Ad es)), .row aR0] (.exit 0, (tl 0 33 [(4, P10), (6, .ptr 3 0 0)]), [.row [[pS x.1, pB x.2]], .row [[pI k, pI 0, pT [], .sl (Ad es) 2 (List.length (Ad es)), .tight []]], .spare 5 (List.length (Ad es)), .row aR0]) :=
 have q1 : Runs lp 23 [P00] [.row [[pS x.1, pB x.2]]] (pB x.2, [.row [[pS x.1, pB x.2]]]) := (Ko x)
 lX [(1, .b true), (1, oC q1), (0, .b true)] [_, _, _] (by kernel_rfl) (by kernel_rfl) ⟨cI c1, q1, cI c2, trivial⟩
theorem itA_ynn {x : Src} {k c d : Int} {es : List Val} {i : Nat} (kr nr : Int) (sr : BY) (isr : List Val) (nsr : BL) (x2 : Src) (c1 : (decide ((i : Int) < c)) = true) (c2 : (x.2) = false) (c3 : (k == 7) = false) (h4 : Runs lp 77 [P00, pI d] [.row [[pS x.1, pB x.2]]] (.agg [pI kr, pI nr, pT sr, pV isr, pN nsr], [.row [[pS x2.1, pB x2.2]]])) (h5 : (List.length es + 1) * 80 ≤ 140737488355328) {r : RL} (hr : LoopN lp 1 (Ae Gf 0) (tl 0 33 [(0, P00), (2, pI d), (4, P10), (6, .ptr 3 0 0), (8, pI c), (9, pI (IntKind.wrap .i64 ((i : Int) + 1)))]) [.row [[pS x2.1, pB x2.2]], .row [[pI k, pI 0, pT [], .sl (Ad (es ++ [(Val.mk kr nr sr isr nsr)])) 2 (List.length (Ad (es ++ [(Val.mk kr nr sr isr nsr)]))), .tight []]], .spare 5 (List.length (Ad (es ++ [(Val.mk kr nr sr isr nsr)]))), .row aR0] r) :
  LoopN lp 1 (Ae Gf 0) (tl 0 33 [(0, P00), (2, pI d), (4, P10), (6, .ptr 3 0 0), (8, pI c), (9, pI (i : Int))]) [.row [[pS x.1, pB x.2]], .row [[pI k, pI 0, pT [], .sl (Ad es) 2 (List.length (Ad es)), .tight []]], .spare 5 (List.length (Ad es)), .row aR0] r :=
 have q1 : Runs lp 23 [P00] [.row [[pS x.1, pB x.2]]] (pB x.2, [.row [[pS x.1, pB x.2]]]) := (Ko x)
 have q2 : OpW [.row [[pS x2.1, pB x2.2]], .row [[pI k, pI 0, pT [], .sl (Ad es) 2 (List.length (Ad es)), .tight []]], .spare 5 (List.length (Ad es)), .row aR0] (.append false 5 80 (.const (.sl (Ad es) 2 (List.length (Ad es)))) (.const (.tight [[.int .i64 kr, .int .i64 nr, .str sr, .sl (Ad isr), .sl (Ak nsr)]]))) (.sl (Ad (es ++ [(Val.mk kr nr sr isr nsr)])) 2 (List.length (Ad (es ++ [(Val.mk kr nr sr isr nsr)])))) [.row [[pS x2.1, pB x2.2]], .row [[pI k, pI 0, pT [], .sl (Ad es) 2 (List.length (Ad es)), .tight []]], .spare 5 (List.length (Ad (es ++ [(Val.mk kr nr sr isr nsr)]))), .row aR0] := (Jh rfl h5)
 LoopAt.on (N := 100) (os := [(1, .b true), (1, oC q1), (0, .b false), (3, .b false), (4, oC h4), (1, oO q2)]) (ps := [_, _, _, _, _, Ao A0 [] [.row [[pS x2.1, pB x2.2]], .row [[pI k, pI 0, pT [], .sl (Ad es) 2 (List.length (Ad es)), .tight []]], .spare 5 (List.length (Ad es)), .row aR0] (.load false 1 (.const (.ptr 1 0 3))) = some (.sl (Ad es) 2 (List.length (Ad es)), [.row [[pS x2.1, pB x2.2]], .row [[pI k, pI 0, pT [], .sl (Ad es) 2 (List.length (Ad es)), .tight []]], .spare 5 (List.length (Ad es)), .row aR0]), _]) (by kernel_rfl) ⟨cI c1, q1, cI c2, cI c3, h4, (by kernel_rfl), q2, trivial⟩ hr
theorem itA_n {x : Src} {k c d : Int} {es : List Val} {i : Nat} (c1 : (decide ((i : Int) < c)) = false) :
  LoopN lp 1 (Ae Gf 0) (tl 0 33 [(0, P00), (2, pI d), (4, P10), (6, .ptr 3 0 0), (8, pI c), (9, pI (i : Int))]) [.row [[pS x.1, pB x.2]], .row [[pI k, pI 0, pT [], .sl (Ad es) 2 (List.length (Ad es)), .tight []]], .spare 5 (List.length (Ad es)), .row aR0] (.exit 0, (tl 0 33 [(4, P10), (6, .ptr 3 0 0)]), [.row [[pS x.1, pB x.2]], .row [[pI k, pI 0, pT [], .sl (Ad es) 2 (List.length (Ad es)), .tight []]], .spare 5 (List.length (Ad es)), .row aR0]) :=
 lX [(1, .b false)] [_] (by kernel_rfl) (by kernel_rfl) ⟨cI c1, trivial⟩
theorem itD_yy {x : Src} {k c d : Int} {es : List Val} {ms : BL} {i : Nat} (c1 : (decide ((i : Int) < c)) = true) (c2 : (x.2) = true) :
  LoopN lp 1 (Ae Gf 0) (tl 0 33 [(0, P00), (2, pI d), (4, P10), (6, .ptr 4 0 0), (8, pI c), (9, pI (i : Int))]) (aR5 es k ms x) (.exit 0, (tl 0 33 [(4, P10), (6, .ptr 4 0 0)]), (aR5 es k ms x)) :=
 have q1 : Runs lp 23 [P00] [.row [[pS x.1, pB x.2]]] (pB x.2, [.row [[pS x.1, pB x.2]]]) := (Ko x)
 lX [(1, .b true), (1, oC q1), (0, .b true)] [_, _, _] (by kernel_rfl) (by kernel_rfl) ⟨cI c1, q1, cI c2, trivial⟩
theorem itD_yny {x : Src} {k c d : Int} {es : List Val} {ms : BL} {i : Nat} (kr nr : Int) (sr : BY) (isr : List Val) (nsr : BL) (x2 : Src) (c1 : (decide ((i : Int) < c)) = true) (c2 : (x.2) = false) (c3 : (k == 7) = true) (h4 : Runs lp 84 [P00, pI 32] [.row [[pS x.1, pB x.2]]] (pT ((Ba x 32).1), [.row [[pS ((Ba x 32).2.1), pB ((Ba x 32).2.2)]]])) (h5 : (List.length ms + 1) * 16 ≤ 140737488355328) (h6 : Runs lp 77 [P00, pI d] [.row [[pS ((Ba x 32).2.1), pB ((Ba x 32).2.2)]]] (.agg [pI kr, pI nr, pT sr, pV isr, pN nsr], [.row [[pS x2.1, pB x2.2]]])) (h7 : (List.length es + 1) * 80 ≤ 140737488355328) {r : RL} (hr : LoopN lp 1 (Ae Gf 0) (tl 0 33 [(0, P00), (2, pI d), (4, P10), (6, .ptr 4 0 0), (8, pI c), (9, pI (IntKind.wrap .i64 ((i : Int) + 1)))]) [.row [[pS x2.1, pB x2.2]], .row [[pI k, pI 0, pT [], .sl (Ad (es ++ [(Val.mk kr nr sr isr nsr)])) 2 (List.length (Ad (es ++ [(Val.mk kr nr sr isr nsr)]))), .sl (Ak (ms ++ [(Ba x 32).1])) 3 (List.length (Ak (ms ++ [(Ba x 32).1])))]], .spare 5 (List.length (Ad (es ++ [(Val.mk kr nr sr isr nsr)]))), .spare 1 (List.length (Ak (ms ++ [(Ba x 32).1]))), .row aR0] r) :
  LoopN lp 1 (Ae Gf 0) (tl 0 33 [(0, P00), (2, pI d), (4, P10), (6, .ptr 4 0 0), (8, pI c), (9, pI (i : Int))]) (aR5 es k ms x) r :=
 have q1 : Runs lp 23 [P00] [.row [[pS x.1, pB x.2]]] (pB x.2, [.row [[pS x.1, pB x.2]]]) := (Ko x)
 have q2 : OpW [.row [[pS ((Ba x 32).2.1), pB ((Ba x 32).2.2)]], .row [[pI k, pI 0, pT [], .sl (Ad es) 2 (List.length (Ad es)), .sl (Ak ms) 3 (List.length (Ak ms))]], .spare 5 (List.length (Ad es)), .spare 1 (List.length (Ak ms)), .row aR0] (.append false 1 16 (.const (.sl (Ak ms) 3 (List.length (Ak ms)))) (.const (.tight [[.str ((Ba x 32).1)]]))) (.sl (Ak (ms ++ [(Ba x 32).1])) 3 (List.length (Ak (ms ++ [(Ba x 32).1])))) [.row [[pS ((Ba x 32).2.1), pB ((Ba x 32).2.2)]], .row [[pI k, pI 0, pT [], .sl (Ad es) 2 (List.length (Ad es)), .sl (Ak ms) 3 (List.length (Ak ms))]], .spare 5 (List.length (Ad es)), .spare 1 (List.length (Ak (ms ++ [(Ba x 32).1]))), .row aR0] := (U5 rfl h5)
 have q3 : OpW [.row [[pS x2.1, pB x2.2]], .row [[pI k, pI 0, pT [], .sl (Ad es) 2 (List.length (Ad es)), .sl (Ak (ms ++ [(Ba x 32).1])) 3 (List.length (Ak (ms ++ [(Ba x 32).1])))]], .spare 5 (List.length (Ad es)), .spare 1 (List.length (Ak (ms ++ [(Ba x 32).1]))), .row aR0] (.append false 5 80 (.const (.sl (Ad es) 2 (List.length (Ad es)))) (.const (.tight [[.int .i64 kr, .int .i64 nr, .str sr, .sl (Ad isr), .sl (Ak nsr)]]))) (.sl (Ad (es ++ [(Val.mk kr nr sr isr nsr)])) 2 (List.length (Ad (es ++ [(Val.mk kr nr sr isr nsr)])))) [.row [[pS x2.1, pB x2.2]], .row [[pI k, pI 0, pT [], .sl (Ad es) 2 (List.length (Ad es)), .sl (Ak (ms ++ [(Ba x 32).1])) 3 (List.length (Ak (ms ++ [(Ba x 32).1])))]], .spare 5 (List.length (Ad (es ++ [(Val.mk kr nr sr isr nsr)]))), .spare 1 (List.length (Ak (ms ++ [(Ba x 32).1]))), .row aR0] := (Jh rfl h7)
 LoopAt.on (N := 100) (os := [(1, .b true), (1, oC q1), (0, .b false), (3, .b true), (3, oC h4), (1, oO q2), (6, oC h6), (1, oO q3)]) (ps := [_, _, _, _, _, Ao A0 [] [.row [[pS ((Ba x 32).2.1), pB ((Ba x 32).2.2)]], .row [[pI k, pI 0, pT [], .sl (Ad es) 2 (List.length (Ad es)), .sl (Ak ms) 3 (List.length (Ak ms))]], .spare 5 (List.length (Ad es)), .spare 1 (List.length (Ak ms)), .row aR0] (.load false 1 (.const (.ptr 1 0 4))) = some (.sl (Ak ms) 3 (List.length (Ak ms)), [.row [[pS ((Ba x 32).2.1), pB ((Ba x 32).2.2)]], .row [[pI k, pI 0, pT [], .sl (Ad es) 2 (List.length (Ad es)), .sl (Ak ms) 3 (List.length (Ak ms))]], .spare 5 (List.length (Ad es)), .spare 1 (List.length (Ak ms)), .row aR0]), _, _, Ao A0 [] [.row [[pS x2.1, pB x2.2]], .row [[pI k, pI 0, pT [], .sl (Ad es) 2 (List.length (Ad es)), .sl (Ak (ms ++ [(Ba x 32).1])) 3 (List.length (Ak (ms ++ [(Ba x 32).1])))]], .spare 5 (List.length (Ad es)), .spare 1 (List.length (Ak (ms ++ [(Ba x 32).1]))), .row aR0] (.load false 1 (.const (.ptr 1 0 3))) = some (.sl (Ad es) 2 (List.length (Ad es)), [.row [[pS x2.1, pB x2.2]], .row [[pI k, pI 0, pT [], .sl (Ad es) 2 (List.length (Ad es)), .sl (Ak (ms ++ [(Ba x 32).1])) 3 (List.length (Ak (ms ++ [(Ba x 32).1])))]], .spare 5 (List.length (Ad es)), .spare 1 (List.length (Ak (ms ++ [(Ba x 32).1]))), .row aR0]), _]) (by kernel_rfl) ⟨cI c1, q1, cI c2, cI c3, h4, (by kernel_rfl), q2, h6, (by kernel_rfl), q3, trivial⟩ hr
theorem itD_n {x : Src} {k c d : Int} {es : List Val} {ms : BL} {i : Nat} (c1 : (decide ((i : Int) < c)) = false) :
  LoopN lp 1 (Ae Gf 0) (tl 0 33 [(0, P00), (2, pI d), (4, P10), (6, .ptr 4 0 0), (8, pI c), (9, pI (i : Int))]) (aR5 es k ms x) (.exit 0, (tl 0 33 [(4, P10), (6, .ptr 4 0 0)]), (aR5 es k ms x)) :=
 lX [(1, .b false)] [_] (by kernel_rfl) (by kernel_rfl) ⟨cI c1, trivial⟩
theorem vIt0 {x x2 : Src} {k d : Int} {es : List Val} {ms : BL} (w1 : (decide (es = [])) = true → LoopN lp 1 (Ae Gf 0) (tl 0 33 [(0, P00), (2, pI d), (4, P10), (6, .ptr 2 0 0), (8, pI ((Ac x 4096).1)), (9, pI 0)]) [.row [[pS ((Ac x 4096).2.1), pB ((Ac x 4096).2.2)]], .row [[pI k, pI 0, pT [], .tight [], .tight []]], .row aR0] (.exit 0, (tl 0 33 [(4, P10), (6, .ptr 2 0 0)]), [.row [[pS x2.1, pB x2.2]], .row [[pI k, pI 0, pT [], .tight [], .tight []]], .row aR0])) (w2 : (decide (es = [])) = false → (k == 7) = true → LoopN lp 1 (Ae Gf 0) (tl 0 33 [(0, P00), (2, pI d), (4, P10), (6, .ptr 2 0 0), (8, pI ((Ac x 4096).1)), (9, pI 0)]) [.row [[pS ((Ac x 4096).2.1), pB ((Ac x 4096).2.2)]], .row [[pI k, pI 0, pT [], .tight [], .tight []]], .row aR0] (.exit 0, (tl 0 33 [(4, P10), (6, .ptr 4 0 0)]), [.row [[pS x2.1, pB x2.2]], .row [[pI k, pI 0, pT [], .sl (Ad es) 2 (List.length (Ad es)), .sl (Ak ms) 3 (List.length (Ak ms))]], .spare 5 (List.length (Ad es)), .spare 1 (List.length (Ak ms)), .row aR0])) (w3 : (decide (es = [])) = false → (k == 7) = false → LoopN lp 1 (Ae Gf 0) (tl 0 33 [(0, P00), (2, pI d), (4, P10), (6, .ptr 2 0 0), (8, pI ((Ac x 4096).1)), (9, pI 0)]) [.row [[pS ((Ac x 4096).2.1), pB ((Ac x 4096).2.2)]], .row [[pI k, pI 0, pT [], .tight [], .tight []]], .row aR0] (.exit 0, (tl 0 33 [(4, P10), (6, .ptr 3 0 0)]), [.row [[pS x2.1, pB x2.2]], .row [[pI k, pI 0, pT [], .sl (Ad es) 2 (List.length (Ad es)), .tight []]], .spare 5 (List.length (Ad es)), .row aR0])) :
  Runs lp 85 [P00, .agg [pI k, pI 0, pT [], .tight [], .tight []], pI d] [.row [[pS x.1, pB x.2]]] (if (decide (es = [])) = true then ((.agg [pI k, pI 0, pT [], .p (.sl []), .p (.sl [])], [.row [[pS x2.1, pB x2.2]]])) else (if (k == 7) = true then ((.agg [pI k, pI 0, pT [], pV es, pN ms], [.row [[pS x2.1, pB x2.2]]])) else ((.agg [pI k, pI 0, pT [], pV es, .p (.sl [])], [.row [[pS x2.1, pB x2.2]]])))) := by
 by_cases k1 : (decide (es = [])) = true
 ·refine Aw k1 ?_
  exact
   have q1 : Runs lp 39 [P00, pI 4096] [.row [[pS x.1, pB x.2]]] (pI ((Ac x 4096).1), [.row [[pS ((Ac x 4096).2.1), pB ((Ac x 4096).2.2)]]]) := (Lm x 4096)
   rO [(3, oC q1), (1, oL (w1 k1))] [_, _] (by kernel_rfl) ⟨q1, (w1 k1), trivial⟩
 ·refine Ax k1 ?_
  replace k1 := Bool.eq_false_iff.2 k1
  by_cases k2 : (k == 7) = true
  ·refine Aw k2 ?_
   exact
    have q1 : Runs lp 39 [P00, pI 4096] [.row [[pS x.1, pB x.2]]] (pI ((Ac x 4096).1), [.row [[pS ((Ac x 4096).2.1), pB ((Ac x 4096).2.2)]]]) := (Lm x 4096)
    rO [(3, oC q1), (1, oL (w2 k1 k2))] [_, _] (by kernel_rfl) ⟨q1, (w2 k1 k2), trivial⟩
  ·refine Ax k2 ?_
   replace k2 := Bool.eq_false_iff.2 k2
   exact
    have q1 : Runs lp 39 [P00, pI 4096] [.row [[pS x.1, pB x.2]]] (pI ((Ac x 4096).1), [.row [[pS ((Ac x 4096).2.1), pB ((Ac x 4096).2.2)]]]) := (Lm x 4096)
    rO [(3, oC q1), (1, oL (w3 k1 k2))] [_, _] (by kernel_rfl) ⟨q1, (w3 k1 k2), trivial⟩
theorem vRd0 {x x2 : Src} {d : Int} {es : List Val} {ms : BL} (w1 : (d == 0) = false → (((Aq x).1) == 1) = false → (((Aq x).1) == 2) = false → (((Aq x).1) == 3) = false → (((Aq x).1) == 4) = true → Runs lp 84 [P00, pI 4096] [.row [[pS ((Aq x).2.1), pB ((Aq x).2.2)]]] (pT ((Ba ((Aq x).2) 4096).1), [.row [[pS ((Ba ((Aq x).2) 4096).2.1), pB ((Ba ((Aq x).2) 4096).2.2)]]])) (w2 : (d == 0) = false → (((Aq x).1) == 1) = false → (((Aq x).1) == 2) = false → (((Aq x).1) == 3) = false → (((Aq x).1) == 4) = false → (((Aq x).1) == 5) = true → Runs lp 84 [P00, pI 4096] [.row [[pS ((Aq x).2.1), pB ((Aq x).2.2)]]] (pT ((Ba ((Aq x).2) 4096).1), [.row [[pS ((Ba ((Aq x).2) 4096).2.1), pB ((Ba ((Aq x).2) 4096).2.2)]]])) (w3 : (d == 0) = false → (((Aq x).1) == 1) = false → (((Aq x).1) == 2) = false → (((Aq x).1) == 3) = false → (((Aq x).1) == 4) = false → (((Aq x).1) == 5) = false → (((Aq x).1) == 6) = true → Runs lp 85 [P00, .agg [pI ((Aq x).1), pI 0, pT [], .tight [], .tight []], pI (IntKind.wrap .i64 (d - 1))] [.row [[pS ((Aq x).2.1), pB ((Aq x).2.2)]]] (.agg [pI ((Aq x).1), pI 0, pT [], pV es, pN ms], [.row [[pS x2.1, pB x2.2]]])) (w4 : (d == 0) = false → (((Aq x).1) == 1) = false → (((Aq x).1) == 2) = false → (((Aq x).1) == 3) = false → (((Aq x).1) == 4) = false → (((Aq x).1) == 5) = false → (((Aq x).1) == 6) = false → (((Aq x).1) == 7) = true → Runs lp 85 [P00, .agg [pI ((Aq x).1), pI 0, pT [], .tight [], .tight []], pI (IntKind.wrap .i64 (d - 1))] [.row [[pS ((Aq x).2.1), pB ((Aq x).2.2)]]] (.agg [pI ((Aq x).1), pI 0, pT [], pV es, pN ms], [.row [[pS x2.1, pB x2.2]]])) :
  Runs lp 77 [P00, pI d] [.row [[pS x.1, pB x.2]]] (if (d == 0) = true then ((.agg [pI ((Aq x).1), pI 0, pT [], .p (.sl []), .p (.sl [])], [.row [[pS ((Aq x).2.1), pB true]]])) else (if (((Aq x).1) == 1) = true then ((.agg [pI ((Aq x).1), pI 0, pT [], .p (.sl []), .p (.sl [])], [.row [[pS ((Aq x).2.1), pB ((Aq x).2.2)]]])) else (if (((Aq x).1) == 2) = true then ((.agg [pI ((Aq x).1), pI ((Aq ((Aq x).2)).1), pT [], .p (.sl []), .p (.sl [])], [.row [[pS ((Aq ((Aq x).2)).2.1), pB ((Aq ((Aq x).2)).2.2)]]])) else (if (((Aq x).1) == 3) = true then ((.agg [pI ((Aq x).1), pI ((Gt ((Aq x).2)).1), pT [], .p (.sl []), .p (.sl [])], [.row [[pS ((Gt ((Aq x).2)).2.1), pB ((Gt ((Aq x).2)).2.2)]]])) else (if (((Aq x).1) == 4) = true then ((.agg [pI ((Aq x).1), pI 0, pT ((Ba ((Aq x).2) 4096).1), .p (.sl []), .p (.sl [])], [.row [[pS ((Ba ((Aq x).2) 4096).2.1), pB ((Ba ((Aq x).2) 4096).2.2)]]])) else (if (((Aq x).1) == 5) = true then ((.agg [pI ((Aq x).1), pI 0, pT ((Ba ((Aq x).2) 4096).1), .p (.sl []), .p (.sl [])], [.row [[pS ((Ba ((Aq x).2) 4096).2.1), pB ((Ba ((Aq x).2) 4096).2.2)]]])) else (if (((Aq x).1) == 6) = true then ((.agg [pI ((Aq x).1), pI 0, pT [], pV es, pN ms], [.row [[pS x2.1, pB x2.2]]])) else (if (((Aq x).1) == 7) = true then ((.agg [pI ((Aq x).1), pI 0, pT [], pV es, pN ms], [.row [[pS x2.1, pB x2.2]]])) else ((.agg [pI ((Aq x).1), pI 0, pT [], .p (.sl []), .p (.sl [])], [.row [[pS ((Aq x).2.1), pB true]]])))))))))) := by
 by_cases k1 : (d == 0) = true
 ·refine Aw k1 ?_
  exact
   have q1 : Runs lp 61 [P00] [.row [[pS x.1, pB x.2]]] (pI ((Aq x).1), [.row [[pS ((Aq x).2.1), pB ((Aq x).2.2)]]]) := (Ib x)
   have q2 : Runs lp 40 [P00] [.row [[pS ((Aq x).2.1), pB ((Aq x).2.2)]]] (.tup [], [.row [[pS ((Aq x).2.1), pB true]]]) := (Ln ((Aq x).2))
   rO [(2, oC q1), (5, .b true), (1, oC q2)] [_, _, _] (by kernel_rfl) ⟨q1, cI k1, q2, trivial⟩
 ·refine Ax k1 ?_
  replace k1 := Bool.eq_false_iff.2 k1
  by_cases k2 : (((Aq x).1) == 1) = true
  ·refine Aw k2 ?_
   exact
    have q1 : Runs lp 61 [P00] [.row [[pS x.1, pB x.2]]] (pI ((Aq x).1), [.row [[pS ((Aq x).2.1), pB ((Aq x).2.2)]]]) := (Ib x)
    rO [(2, oC q1), (5, .b false), (4, .b true)] [_, _, _] (by kernel_rfl) ⟨q1, cI k1, cI k2, trivial⟩
  ·refine Ax k2 ?_
   replace k2 := Bool.eq_false_iff.2 k2
   by_cases k3 : (((Aq x).1) == 2) = true
   ·refine Aw k3 ?_
    exact
     have q1 : Runs lp 61 [P00] [.row [[pS x.1, pB x.2]]] (pI ((Aq x).1), [.row [[pS ((Aq x).2.1), pB ((Aq x).2.2)]]]) := (Ib x)
     have q2 : Runs lp 61 [P00] [.row [[pS ((Aq x).2.1), pB ((Aq x).2.2)]]] (pI ((Aq ((Aq x).2)).1), [.row [[pS ((Aq ((Aq x).2)).2.1), pB ((Aq ((Aq x).2)).2.2)]]]) := (Ib ((Aq x).2))
     rO [(2, oC q1), (5, .b false), (4, .b false), (2, .b true), (1, oC q2)] [_, _, _, _, _] (by kernel_rfl) ⟨q1, cI k1, cI k2, cI k3, q2, trivial⟩
   ·refine Ax k3 ?_
    replace k3 := Bool.eq_false_iff.2 k3
    by_cases k4 : (((Aq x).1) == 3) = true
    ·refine Aw k4 ?_
     exact
      have q1 : Runs lp 61 [P00] [.row [[pS x.1, pB x.2]]] (pI ((Aq x).1), [.row [[pS ((Aq x).2.1), pB ((Aq x).2.2)]]]) := (Ib x)
      have q2 : Runs lp 83 [P00] [.row [[pS ((Aq x).2.1), pB ((Aq x).2.2)]]] (pI ((Gt ((Aq x).2)).1), [.row [[pS ((Gt ((Aq x).2)).2.1), pB ((Gt ((Aq x).2)).2.2)]]]) := (vInt ((Aq x).2))
      rO [(2, oC q1), (5, .b false), (4, .b false), (2, .b false), (2, .b true), (1, oC q2)] [_, _, _, _, _, _] (by kernel_rfl) ⟨q1, cI k1, cI k2, cI k3, cI k4, q2, trivial⟩
    ·refine Ax k4 ?_
     replace k4 := Bool.eq_false_iff.2 k4
     by_cases k5 : (((Aq x).1) == 4) = true
     ·refine Aw k5 ?_
      exact
       have q1 : Runs lp 61 [P00] [.row [[pS x.1, pB x.2]]] (pI ((Aq x).1), [.row [[pS ((Aq x).2.1), pB ((Aq x).2.2)]]]) := (Ib x)
       rO [(2, oC q1), (5, .b false), (4, .b false), (2, .b false), (2, .b false), (2, .b true), (0, .b true), (1, oC (w1 k1 k2 k3 k4 k5))] [_, _, _, _, _, _, _, _] (by kernel_rfl) ⟨q1, cI k1, cI k2, cI k3, cI k4, cI k5, cI k5, (w1 k1 k2 k3 k4 k5), trivial⟩
     ·refine Ax k5 ?_
      replace k5 := Bool.eq_false_iff.2 k5
      by_cases k6 : (((Aq x).1) == 5) = true
      ·refine Aw k6 ?_
       exact
        have q1 : Runs lp 61 [P00] [.row [[pS x.1, pB x.2]]] (pI ((Aq x).1), [.row [[pS ((Aq x).2.1), pB ((Aq x).2.2)]]]) := (Ib x)
        rO [(2, oC q1), (5, .b false), (4, .b false), (2, .b false), (2, .b false), (2, .b false), (2, .b true), (1, oC (w2 k1 k2 k3 k4 k5 k6))] [_, _, _, _, _, _, _, _] (by kernel_rfl) ⟨q1, cI k1, cI k2, cI k3, cI k4, cI k5, cI k6, (w2 k1 k2 k3 k4 k5 k6), trivial⟩
      ·refine Ax k6 ?_
       replace k6 := Bool.eq_false_iff.2 k6
       by_cases k7 : (((Aq x).1) == 6) = true
       ·refine Aw k7 ?_
        exact
         have q1 : Runs lp 61 [P00] [.row [[pS x.1, pB x.2]]] (pI ((Aq x).1), [.row [[pS ((Aq x).2.1), pB ((Aq x).2.2)]]]) := (Ib x)
         rO [(2, oC q1), (5, .b false), (4, .b false), (2, .b false), (2, .b false), (2, .b false), (2, .b false), (2, .b true), (0, .b true), (4, oC (w3 k1 k2 k3 k4 k5 k6 k7))] [_, _, _, _, _, _, _, _, _, _] (by kernel_rfl) ⟨q1, cI k1, cI k2, cI k3, cI k4, cI k5, cI k6, cI k7, cI k7, (w3 k1 k2 k3 k4 k5 k6 k7), trivial⟩
       ·refine Ax k7 ?_
        replace k7 := Bool.eq_false_iff.2 k7
        by_cases k8 : (((Aq x).1) == 7) = true
        ·refine Aw k8 ?_
         exact
          have q1 : Runs lp 61 [P00] [.row [[pS x.1, pB x.2]]] (pI ((Aq x).1), [.row [[pS ((Aq x).2.1), pB ((Aq x).2.2)]]]) := (Ib x)
          rO [(2, oC q1), (5, .b false), (4, .b false), (2, .b false), (2, .b false), (2, .b false), (2, .b false), (2, .b false), (2, .b true), (4, oC (w4 k1 k2 k3 k4 k5 k6 k7 k8))] [_, _, _, _, _, _, _, _, _, _] (by kernel_rfl) ⟨q1, cI k1, cI k2, cI k3, cI k4, cI k5, cI k6, cI k7, cI k8, (w4 k1 k2 k3 k4 k5 k6 k7 k8), trivial⟩
        ·refine Ax k8 ?_
         replace k8 := Bool.eq_false_iff.2 k8
         exact
          have q1 : Runs lp 61 [P00] [.row [[pS x.1, pB x.2]]] (pI ((Aq x).1), [.row [[pS ((Aq x).2.1), pB ((Aq x).2.2)]]]) := (Ib x)
          have q2 : Runs lp 40 [P00] [.row [[pS ((Aq x).2.1), pB ((Aq x).2.2)]]] (.tup [], [.row [[pS ((Aq x).2.1), pB true]]]) := (Ln ((Aq x).2))
          rO [(2, oC q1), (5, .b false), (4, .b false), (2, .b false), (2, .b false), (2, .b false), (2, .b false), (2, .b false), (2, .b false), (1, oC q2)] [_, _, _, _, _, _, _, _, _, _] (by kernel_rfl) ⟨q1, cI k1, cI k2, cI k3, cI k4, cI k5, cI k6, cI k7, cI k8, q2, trivial⟩
end Go.Proofs.Ytmbjojnldbeicaa
