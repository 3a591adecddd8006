import Derived.Test.YtegboccilfofmaaGreatLsAb
import Derived.Test.YtegboccilfofmaaGreatLsSpc
import Derived.Test.YtegboccilfofmaaGreatLsG5
set_option linter.unusedVariables false
set_option maxRecDepth 100000
namespace Go.Proofs.YtegboccilfofmaaGreat
open Go Go.LS
theorem sWr0 {ok vk vn : Int} {vs : BY} {vi : List Val} {ps vns ts : BL} (w1 : Runs lp 21 [.agg [pI ok, pN ps, pI vk, pI vn, pT vs, pV vi, pN vns, pN ts]] [] (pB (B0 (OpS.mk ok ps (Val.mk vk vn vs vi vns) ts)), [])) :
  Runs lp 49 [.agg [pI ok, pN ps, pI vk, pI vn, pT vs, pV vi, pN vns, pN ts]] [] ((pB (!(B0 (OpS.mk ok ps (Val.mk vk vn vs vi vns) ts))), [])) := by
 exact
  rO [(3, oC w1)] [_] (by kernel_rfl) ⟨w1, trivial⟩
theorem Yn {ops : List OpS} {i : Nat} (oke vke vne : Int) (vse : BY) (vie : List Val) (pse vnse tse : BL) (c1 : (decide ((i : Int) < ((List.length (Ap ops) : Nat) : Int))) = true) (h2 : ops[i]? = some (OpS.mk oke pse (Val.mk vke vne vse vie vnse) tse)) (h3 : Runs lp 49 [.agg [pI oke, pN pse, pI vke, pI vne, pT vse, pV vie, pN vnse, pN tse]] [] (pB (!(B0 (OpS.mk oke pse (Val.mk vke vne vse vie vnse) tse))), [])) (c4 : (B0 (OpS.mk oke pse (Val.mk vke vne vse vie vnse) tse)) = true) {r : RL} (hr : LoopN lp 0 (Ac Ng 0) (tl 0 19 [(0, pO ops), (1, .fn (.func 49) [] []), (7, pI ((List.length (Ap ops) : Nat) : Int)), (8, pI (IntKind.wrap .i64 ((i : Int) + 1)))]) [] r) :
  LoopN lp 0 (Ac Ng 0) (tl 0 19 [(0, pO ops), (1, .fn (.func 49) [] []), (7, pI ((List.length (Ap ops) : Nat) : Int)), (8, pI (i : Int))]) [] r :=
 have q1 : OpE [] (.indexAddr 8 (.const (pO ops)) (.const (pI (i : Int)))) (.pin [.int .i64 oke, .sl (Ab pse), .int .i64 vke, .int .i64 vne, .str vse, .sl (Ad vie), .sl (Ab vnse), .sl (Ab tse)] 0) := (Ao rfl rfl (Bj h2) rfl)
 lO [(1, .b true), (5, oO q1), (1, oC h3), (0, .b false)] [_, _, _, _] (by kernel_rfl) ⟨cI c1, q1, h3, (cI (Ae c4)), trivial⟩ hr
theorem Yo {ops : List OpS} {i : Nat} (oke vke vne : Int) (vse : BY) (vie : List Val) (pse vnse tse : BL) (c1 : (decide ((i : Int) < ((List.length (Ap ops) : Nat) : Int))) = true) (h2 : ops[i]? = some (OpS.mk oke pse (Val.mk vke vne vse vie vnse) tse)) (h3 : Runs lp 49 [.agg [pI oke, pN pse, pI vke, pI vne, pT vse, pV vie, pN vnse, pN tse]] [] (pB (!(B0 (OpS.mk oke pse (Val.mk vke vne vse vie vnse) tse))), [])) (c4 : (B0 (OpS.mk oke pse (Val.mk vke vne vse vie vnse) tse)) = false) :
  LoopN lp 0 (Ac Ng 0) (tl 0 19 [(0, pO ops), (1, .fn (.func 49) [] []), (7, pI ((List.length (Ap ops) : Nat) : Int)), (8, pI (i : Int))]) [] (.ret, (tl 0 19 [(4, pI (i : Int))]), []) :=
 have q1 : OpE [] (.indexAddr 8 (.const (pO ops)) (.const (pI (i : Int)))) (.pin [.int .i64 oke, .sl (Ab pse), .int .i64 vke, .int .i64 vne, .str vse, .sl (Ad vie), .sl (Ab vnse), .sl (Ab tse)] 0) := (Ao rfl rfl (Bj h2) rfl)
 lX [(1, .b true), (5, oO q1), (1, oC h3), (0, .b true)] [_, _, _, _] (by kernel_rfl) (by kernel_rfl) ⟨cI c1, q1, h3, (cI (Ae c4)), trivial⟩
theorem oIdxR_n {ops : List OpS} {i : Nat} (c1 : (decide ((i : Int) < ((List.length (Ap ops) : Nat) : Int))) = false) :
  LoopN lp 0 (Ac Ng 0) (tl 0 19 [(0, pO ops), (1, .fn (.func 49) [] []), (7, pI ((List.length (Ap ops) : Nat) : Int)), (8, pI (i : Int))]) [] (.exit 0, (tl 0 19 []), []) :=
 lX [(1, .b false)] [_] (by kernel_rfl) (by kernel_rfl) ⟨cI c1, trivial⟩
theorem oIdx0 {ops : List OpS} {i : Nat} (w1 : (ops.all B0) = true → LoopN lp 0 (Ac Ng 0) (tl 0 19 [(0, pO ops), (1, .fn (.func 49) [] []), (7, pI ((List.length (Ap ops) : Nat) : Int)), (8, pI 0)]) [] (.exit 0, (tl 0 19 []), [])) (w2 : (ops.all B0) = false → LoopN lp 0 (Ac Ng 0) (tl 0 19 [(0, pO ops), (1, .fn (.func 49) [] []), (7, pI ((List.length (Ap ops) : Nat) : Int)), (8, pI 0)]) [] (.ret, (tl 0 19 [(4, pI (i : Int))]), [])) :
  Runs lp 75 [pO ops, .fn (.func 49) [] []] [] (if (ops.all B0) = true then ((pI (-1), [])) else ((pI (i : Int), []))) := by
 by_cases k1 : (ops.all B0) = true
 ·refine Ak k1 ?_
  exact
   rO [(4, oL (w1 k1))] [_] (by kernel_rfl) ⟨(w1 k1), trivial⟩
 ·refine Al k1 ?_
  replace k1 := Bool.eq_false_iff.2 k1
  exact
   rO [(4, oL (w2 k1))] [_] (by kernel_rfl) ⟨(w2 k1), trivial⟩
theorem oCon0 {ops : List OpS} {i : Nat} (w1 : (ops.all B0) = true → Runs lp 75 [pO ops, .fn (.func 49) [] []] [] (pI (-1), [])) (w2 : (ops.all B0) = false → Runs lp 75 [pO ops, .fn (.func 49) [] []] [] (pI (i : Int), [])) :
  Runs lp 48 [pO ops, .fn (.func 49) [] []] [] (if (ops.all B0) = true then ((pB false, [])) else ((pB (decide ((i : Int) ≥ 0)), []))) := by
 by_cases k1 : (ops.all B0) = true
 ·refine Ak k1 ?_
  exact
   rO [(3, oC (w1 k1))] [_] (by kernel_rfl) ⟨(w1 k1), trivial⟩
 ·refine Al k1 ?_
  replace k1 := Bool.eq_false_iff.2 k1
  exact
   rO [(3, oC (w2 k1))] [_] (by kernel_rfl) ⟨(w2 k1), trivial⟩
theorem Yp {ops : List OpS} {i : Nat} (oke vke vne : Int) (vse : BY) (vie : List Val) (pse vnse tse : BL) (c1 : (decide ((i : Int) < ((List.length (Ap ops) : Nat) : Int))) = true) (h2 : ops[i]? = some (OpS.mk oke pse (Val.mk vke vne vse vie vnse) tse)) (h3 : Runs lp 56 [pN pse] [] (pN pse, [])) (c4 : (oke == 6) = true) (h5 : Runs lp 56 [pN tse] [] (pN tse, [])) (h6 : List.length (α := Pt) [pse] + 1 ≤ 5000000000000) {r : RL} (hr : LoopN lp 0 (Ac H4 0) (tl 0 33 [(3, .sl (Ah ([pse] ++ [tse])) 0 (List.length (Ah ([pse] ++ [tse])))), (10, pO ops), (11, pI ((List.length (Ap ops) : Nat) : Int)), (12, pI (IntKind.wrap .i64 ((i : Int) + 1)))]) [.spare 1 (List.length (Ah ([pse] ++ [tse])))] r) :
  LoopN lp 0 (Ac H4 0) (tl 0 33 [(3, .tight []), (10, pO ops), (11, pI ((List.length (Ap ops) : Nat) : Int)), (12, pI (i : Int))]) [] r :=
 have q1 : OpE [] (.indexAddr 8 (.const (pO ops)) (.const (pI (i : Int)))) (.pin [.int .i64 oke, .sl (Ab pse), .int .i64 vke, .int .i64 vne, .str vse, .sl (Ad vie), .sl (Ab vnse), .sl (Ab tse)] 0) := (Ao rfl rfl (Bj h2) rfl)
 have q2 : OpW [.row [[pI oke, pN pse, pI vke, pI vne, pT vse, pV vie, pN vnse, pN tse]]] (.append false 1 24 (.const (.tight [])) (.const (.tight [[.sl (Ab pse)]]))) (.sl (Ah [pse]) 1 (List.length (Ah [pse]))) [.row [[pI oke, pN pse, pI vke, pI vne, pT vse, pV vie, pN vnse, pN tse]], .spare 1 (List.length (Ah [pse]))] := Gc
 have q3 : OpW [.row [[pI oke, pN pse, pI vke, pI vne, pT vse, pV vie, pN vnse, pN tse]], .spare 1 (List.length (Ah [pse]))] (.append false 1 24 (.const (.sl (Ah [pse]) 1 (List.length (Ah [pse])))) (.const (.tight [[.sl (Ab tse)]]))) (.sl (Ah ([pse] ++ [tse])) 1 (List.length (Ah ([pse] ++ [tse])))) [.row [[pI oke, pN pse, pI vke, pI vne, pT vse, pV vie, pN vnse, pN tse]], .spare 1 (List.length (Ah ([pse] ++ [tse])))] := (C0 rfl h6)
 lO [(1, .b true), (0, oO q1), (6, oC h3), (1, oO q2), (4, .b true), (3, oC h5), (1, oO q3)] [_, _, _, _, _, _, _] (by kernel_rfl) ⟨cI c1, q1, h3, q2, cI c4, h5, q3, trivial⟩ hr
theorem Yq {ops : List OpS} {i : Nat} (oke vke vne : Int) (vse : BY) (vie : List Val) (pse vnse tse : BL) (c1 : (decide ((i : Int) < ((List.length (Ap ops) : Nat) : Int))) = true) (h2 : ops[i]? = some (OpS.mk oke pse (Val.mk vke vne vse vie vnse) tse)) (h3 : Runs lp 56 [pN pse] [] (pN pse, [])) (c4 : (oke == 6) = false) {r : RL} (hr : LoopN lp 0 (Ac H4 0) (tl 0 33 [(3, .sl (Ah [pse]) 0 (List.length (Ah [pse]))), (10, pO ops), (11, pI ((List.length (Ap ops) : Nat) : Int)), (12, pI (IntKind.wrap .i64 ((i : Int) + 1)))]) [.spare 1 (List.length (Ah [pse]))] r) :
  LoopN lp 0 (Ac H4 0) (tl 0 33 [(3, .tight []), (10, pO ops), (11, pI ((List.length (Ap ops) : Nat) : Int)), (12, pI (i : Int))]) [] r :=
 have q1 : OpE [] (.indexAddr 8 (.const (pO ops)) (.const (pI (i : Int)))) (.pin [.int .i64 oke, .sl (Ab pse), .int .i64 vke, .int .i64 vne, .str vse, .sl (Ad vie), .sl (Ab vnse), .sl (Ab tse)] 0) := (Ao rfl rfl (Bj h2) rfl)
 have q2 : OpW [.row [[pI oke, pN pse, pI vke, pI vne, pT vse, pV vie, pN vnse, pN tse]]] (.append false 1 24 (.const (.tight [])) (.const (.tight [[.sl (Ab pse)]]))) (.sl (Ah [pse]) 1 (List.length (Ah [pse]))) [.row [[pI oke, pN pse, pI vke, pI vne, pT vse, pV vie, pN vnse, pN tse]], .spare 1 (List.length (Ah [pse]))] := Gc
 lO [(1, .b true), (0, oO q1), (6, oC h3), (1, oO q2), (4, .b false)] [_, _, _, _, _] (by kernel_rfl) ⟨cI c1, q1, h3, q2, cI c4, trivial⟩ hr
theorem sPlR0_n {ops : List OpS} {i : Nat} (c1 : (decide ((i : Int) < ((List.length (Ap ops) : Nat) : Int))) = false) :
  LoopN lp 0 (Ac H4 0) (tl 0 33 [(3, .tight []), (10, pO ops), (11, pI ((List.length (Ap ops) : Nat) : Int)), (12, pI (i : Int))]) [] (.exit 0, (tl 0 33 [(3, .tight [])]), []) :=
 lX [(1, .b false)] [_] (by kernel_rfl) (by kernel_rfl) ⟨cI c1, trivial⟩
theorem Yr {ops : List OpS} {i : Nat} {l : List Pt} (oke vke vne : Int) (vse : BY) (vie : List Val) (pse vnse tse : BL) (c1 : (decide ((i : Int) < ((List.length (Ap ops) : Nat) : Int))) = true) (h2 : ops[i]? = some (OpS.mk oke pse (Val.mk vke vne vse vie vnse) tse)) (h3 : Runs lp 56 [pN pse] [] (pN pse, [])) (h4 : List.length l + 1 ≤ 5000000000000) (c5 : (oke == 6) = true) (h6 : Runs lp 56 [pN tse] [] (pN tse, [])) (h7 : List.length (α := Pt) (l ++ [pse]) + 1 ≤ 5000000000000) {r : RL} (hr : LoopN lp 0 (Ac H4 0) (tl 0 33 [(3, .sl (Ah (l ++ [pse] ++ [tse])) 0 (List.length (Ah (l ++ [pse] ++ [tse])))), (10, pO ops), (11, pI ((List.length (Ap ops) : Nat) : Int)), (12, pI (IntKind.wrap .i64 ((i : Int) + 1)))]) [.spare 1 (List.length (Ah (l ++ [pse] ++ [tse])))] r) :
  LoopN lp 0 (Ac H4 0) (tl 0 33 [(3, .sl (Ah l) 0 (List.length (Ah l))), (10, pO ops), (11, pI ((List.length (Ap ops) : Nat) : Int)), (12, pI (i : Int))]) [.spare 1 (List.length (Ah l))] r :=
 have q1 : OpE [.spare 1 (List.length (Ah l))] (.indexAddr 8 (.const (pO ops)) (.const (pI (i : Int)))) (.pin [.int .i64 oke, .sl (Ab pse), .int .i64 vke, .int .i64 vne, .str vse, .sl (Ad vie), .sl (Ab vnse), .sl (Ab tse)] 0) := (Ao rfl rfl (Bj h2) rfl)
 have q2 : OpW [.spare 1 (List.length (Ah l)), .row [[pI oke, pN pse, pI vke, pI vne, pT vse, pV vie, pN vnse, pN tse]]] (.append false 1 24 (.const (.sl (Ah l) 0 (List.length (Ah l)))) (.const (.tight [[.sl (Ab pse)]]))) (.sl (Ah (l ++ [pse])) 0 (List.length (Ah (l ++ [pse])))) [.spare 1 (List.length (Ah (l ++ [pse]))), .row [[pI oke, pN pse, pI vke, pI vne, pT vse, pV vie, pN vnse, pN tse]]] := (C0 rfl h4)
 have q3 : OpW [.spare 1 (List.length (Ah (l ++ [pse]))), .row [[pI oke, pN pse, pI vke, pI vne, pT vse, pV vie, pN vnse, pN tse]]] (.append false 1 24 (.const (.sl (Ah (l ++ [pse])) 0 (List.length (Ah (l ++ [pse]))))) (.const (.tight [[.sl (Ab tse)]]))) (.sl (Ah (l ++ [pse] ++ [tse])) 0 (List.length (Ah (l ++ [pse] ++ [tse])))) [.spare 1 (List.length (Ah (l ++ [pse] ++ [tse]))), .row [[pI oke, pN pse, pI vke, pI vne, pT vse, pV vie, pN vnse, pN tse]]] := (C0 rfl h7)
 lO [(1, .b true), (0, oO q1), (6, oC h3), (1, oO q2), (4, .b true), (3, oC h6), (1, oO q3)] [_, _, _, _, _, _, _] (by kernel_rfl) ⟨cI c1, q1, h3, q2, cI c5, h6, q3, trivial⟩ hr
theorem Ys {ops : List OpS} {i : Nat} {l : List Pt} (oke vke vne : Int) (vse : BY) (vie : List Val) (pse vnse tse : BL) (c1 : (decide ((i : Int) < ((List.length (Ap ops) : Nat) : Int))) = true) (h2 : ops[i]? = some (OpS.mk oke pse (Val.mk vke vne vse vie vnse) tse)) (h3 : Runs lp 56 [pN pse] [] (pN pse, [])) (h4 : List.length l + 1 ≤ 5000000000000) (c5 : (oke == 6) = false) {r : RL} (hr : LoopN lp 0 (Ac H4 0) (tl 0 33 [(3, .sl (Ah (l ++ [pse])) 0 (List.length (Ah (l ++ [pse])))), (10, pO ops), (11, pI ((List.length (Ap ops) : Nat) : Int)), (12, pI (IntKind.wrap .i64 ((i : Int) + 1)))]) [.spare 1 (List.length (Ah (l ++ [pse])))] r) :
  LoopN lp 0 (Ac H4 0) (tl 0 33 [(3, .sl (Ah l) 0 (List.length (Ah l))), (10, pO ops), (11, pI ((List.length (Ap ops) : Nat) : Int)), (12, pI (i : Int))]) [.spare 1 (List.length (Ah l))] r :=
 have q1 : OpE [.spare 1 (List.length (Ah l))] (.indexAddr 8 (.const (pO ops)) (.const (pI (i : Int)))) (.pin [.int .i64 oke, .sl (Ab pse), .int .i64 vke, .int .i64 vne, .str vse, .sl (Ad vie), .sl (Ab vnse), .sl (Ab tse)] 0) := (Ao rfl rfl (Bj h2) rfl)
 have q2 : OpW [.spare 1 (List.length (Ah l)), .row [[pI oke, pN pse, pI vke, pI vne, pT vse, pV vie, pN vnse, pN tse]]] (.append false 1 24 (.const (.sl (Ah l) 0 (List.length (Ah l)))) (.const (.tight [[.sl (Ab pse)]]))) (.sl (Ah (l ++ [pse])) 0 (List.length (Ah (l ++ [pse])))) [.spare 1 (List.length (Ah (l ++ [pse]))), .row [[pI oke, pN pse, pI vke, pI vne, pT vse, pV vie, pN vnse, pN tse]]] := (C0 rfl h4)
 lO [(1, .b true), (0, oO q1), (6, oC h3), (1, oO q2), (4, .b false)] [_, _, _, _, _] (by kernel_rfl) ⟨cI c1, q1, h3, q2, cI c5, trivial⟩ hr
theorem sPlR1_n {ops : List OpS} {i : Nat} {l : List Pt} (c1 : (decide ((i : Int) < ((List.length (Ap ops) : Nat) : Int))) = false) :
  LoopN lp 0 (Ac H4 0) (tl 0 33 [(3, .sl (Ah l) 0 (List.length (Ah l))), (10, pO ops), (11, pI ((List.length (Ap ops) : Nat) : Int)), (12, pI (i : Int))]) [.spare 1 (List.length (Ah l))] (.exit 0, (tl 0 33 [(3, .sl (Ah l) 0 (List.length (Ah l)))]), [.spare 1 (List.length (Ah l))]) :=
 lX [(1, .b false)] [_] (by kernel_rfl) (by kernel_rfl) ⟨cI c1, trivial⟩
theorem sPl0 {rb : Bool} {k n : Int} {s : BY} {is : List Val} {ns : BL} {ops : List OpS} {l : List Pt} (w1 : Runs lp 48 [pO ops, .fn (.func 49) [] []] [] (pB (!(List.all ops B0)), [])) (w2 : (List.all ops B0) = true → (decide (l = [])) = true → LoopN lp 0 (Ac H4 0) (tl 0 33 [(3, .tight []), (10, pO ops), (11, pI ((List.length (Ap ops) : Nat) : Int)), (12, pI 0)]) [] (.exit 0, (tl 0 33 [(3, .tight [])]), [])) (w3 : (List.all ops B0) = true → (decide (l = [])) = false → LoopN lp 0 (Ac H4 0) (tl 0 33 [(3, .tight []), (10, pO ops), (11, pI ((List.length (Ap ops) : Nat) : Int)), (12, pI 0)]) [] (.exit 0, (tl 0 33 [(3, .sl (Ah l) 0 (List.length (Ah l)))]), [.spare 1 (List.length (Ah l))])) :
  Runs lp 22 [.agg (aR3 is k n ns ops rb s)] [] (if (List.all ops B0) = true then (if (decide (l = [])) = true then ((.p (.sl []), [])) else ((.p (.sl (Ah l)), []))) else ((.p (.sl []), []))) := by
 by_cases k1 : (List.all ops B0) = true
 ·refine Ak k1 ?_
  by_cases k2 : (decide (l = [])) = true
  ·refine Ak k2 ?_
   exact
    rO [(4, oC w1), (0, .b false), (5, oL (w2 k1 k2))] [_, _, _] (by kernel_rfl) ⟨w1, (cI (Ae k1)), (w2 k1 k2), trivial⟩
  ·refine Al k2 ?_
   replace k2 := Bool.eq_false_iff.2 k2
   exact
    rO [(4, oC w1), (0, .b false), (5, oL (w3 k1 k2))] [_, _, _] (by kernel_rfl) ⟨w1, (cI (Ae k1)), (w3 k1 k2), trivial⟩
 ·refine Al k1 ?_
  replace k1 := Bool.eq_false_iff.2 k1
  exact
   rO [(4, oC w1), (0, .b true)] [_, _] (by kernel_rfl) ⟨w1, (cI (Ae k1)), trivial⟩
theorem Yt {rb : Bool} {k n : Int} {s : BY} {is : List Val} {ns : BL} {ops : List OpS} {i : Nat} (oke vke vne : Int) (vse : BY) (vie : List Val) (pse vnse tse : BL) (c1 : (decide ((i : Int) < ((List.length (Ap ops) : Nat) : Int))) = true) (h2 : ops[i]? = some (OpS.mk oke pse (Val.mk vke vne vse vie vnse) tse)) (c3 : (oke == 6) = true) (h4 : List.length (α := Pt) [pse] + 1 ≤ 5000000000000) {r : RL} (hr : LoopN lp 0 (Ac H5 0) (tl 0 38 [(1, P00), (3, .sl (Ah ([pse] ++ [tse])) 1 (List.length (Ah ([pse] ++ [tse])))), (4, pI (IntKind.wrap .i64 ((i : Int) + 1)))]) [.row [(aR3 is k n ns ops rb s)], .spare 1 (List.length (Ah ([pse] ++ [tse])))] r) :
  LoopN lp 0 (Ac H5 0) (tl 0 38 [(1, P00), (3, .tight []), (4, pI (i : Int))]) [.row [(aR3 is k n ns ops rb s)]] r :=
 have q1 : OpE [.row [(aR3 is k n ns ops rb s)]] (.indexAddr 8 (.const (pO ops)) (.const (pI (i : Int)))) (.pin [.int .i64 oke, .sl (Ab pse), .int .i64 vke, .int .i64 vne, .str vse, .sl (Ad vie), .sl (Ab vnse), .sl (Ab tse)] 0) := (Ao rfl rfl (Bj h2) rfl)
 have q2 : OpW [.row [(aR3 is k n ns ops rb s)]] (.append false 1 24 (.const (.tight [])) (.const (.tight [[.sl (Ab pse)]]))) (.sl (Ah [pse]) 1 (List.length (Ah [pse]))) [.row [(aR3 is k n ns ops rb s)], .spare 1 (List.length (Ah [pse]))] := Gc
 have q3 : OpE [.row [(aR3 is k n ns ops rb s)], .spare 1 (List.length (Ah [pse]))] (.indexAddr 8 (.const (pO ops)) (.const (pI (i : Int)))) (.pin [.int .i64 oke, .sl (Ab pse), .int .i64 vke, .int .i64 vne, .str vse, .sl (Ad vie), .sl (Ab vnse), .sl (Ab tse)] 0) := (Ao rfl rfl (Bj h2) rfl)
 have q4 : OpE [.row [(aR3 is k n ns ops rb s)], .spare 1 (List.length (Ah [pse]))] (.indexAddr 8 (.const (pO ops)) (.const (pI (i : Int)))) (.pin [.int .i64 oke, .sl (Ab pse), .int .i64 vke, .int .i64 vne, .str vse, .sl (Ad vie), .sl (Ab vnse), .sl (Ab tse)] 0) := (Ao rfl rfl (Bj h2) rfl)
 have q5 : OpW [.row [(aR3 is k n ns ops rb s)], .spare 1 (List.length (Ah [pse]))] (.append false 1 24 (.const (.sl (Ah [pse]) 1 (List.length (Ah [pse])))) (.const (.tight [[.sl (Ab tse)]]))) (.sl (Ah ([pse] ++ [tse])) 1 (List.length (Ah ([pse] ++ [tse])))) [.row [(aR3 is k n ns ops rb s)], .spare 1 (List.length (Ah ([pse] ++ [tse])))] := (C0 rfl h4)
 lO [(5, .b true), (4, oO q1), (3, oO q2), (4, oO q3), (3, .b true), (4, oO q4), (3, oO q5)] [_, _, _, _, _, _, _] (by kernel_rfl) ⟨cI c1, q1, q2, q3, cI c3, q4, q5, trivial⟩ hr
theorem Yu {rb : Bool} {k n : Int} {s : BY} {is : List Val} {ns : BL} {ops : List OpS} {i : Nat} (oke vke vne : Int) (vse : BY) (vie : List Val) (pse vnse tse : BL) (c1 : (decide ((i : Int) < ((List.length (Ap ops) : Nat) : Int))) = true) (h2 : ops[i]? = some (OpS.mk oke pse (Val.mk vke vne vse vie vnse) tse)) (c3 : (oke == 6) = false) {r : RL} (hr : LoopN lp 0 (Ac H5 0) (tl 0 38 [(1, P00), (3, .sl (Ah [pse]) 1 (List.length (Ah [pse]))), (4, pI (IntKind.wrap .i64 ((i : Int) + 1)))]) [.row [(aR3 is k n ns ops rb s)], .spare 1 (List.length (Ah [pse]))] r) :
  LoopN lp 0 (Ac H5 0) (tl 0 38 [(1, P00), (3, .tight []), (4, pI (i : Int))]) [.row [(aR3 is k n ns ops rb s)]] r :=
 have q1 : OpE [.row [(aR3 is k n ns ops rb s)]] (.indexAddr 8 (.const (pO ops)) (.const (pI (i : Int)))) (.pin [.int .i64 oke, .sl (Ab pse), .int .i64 vke, .int .i64 vne, .str vse, .sl (Ad vie), .sl (Ab vnse), .sl (Ab tse)] 0) := (Ao rfl rfl (Bj h2) rfl)
 have q2 : OpW [.row [(aR3 is k n ns ops rb s)]] (.append false 1 24 (.const (.tight [])) (.const (.tight [[.sl (Ab pse)]]))) (.sl (Ah [pse]) 1 (List.length (Ah [pse]))) [.row [(aR3 is k n ns ops rb s)], .spare 1 (List.length (Ah [pse]))] := Gc
 have q3 : OpE [.row [(aR3 is k n ns ops rb s)], .spare 1 (List.length (Ah [pse]))] (.indexAddr 8 (.const (pO ops)) (.const (pI (i : Int)))) (.pin [.int .i64 oke, .sl (Ab pse), .int .i64 vke, .int .i64 vne, .str vse, .sl (Ad vie), .sl (Ab vnse), .sl (Ab tse)] 0) := (Ao rfl rfl (Bj h2) rfl)
 lO [(5, .b true), (4, oO q1), (3, oO q2), (4, oO q3), (3, .b false)] [_, _, _, _, _] (by kernel_rfl) ⟨cI c1, q1, q2, q3, cI c3, trivial⟩ hr
theorem rPlR0_n {rb : Bool} {k n : Int} {s : BY} {is : List Val} {ns : BL} {ops : List OpS} {i : Nat} (c1 : (decide ((i : Int) < ((List.length (Ap ops) : Nat) : Int))) = false) :
  LoopN lp 0 (Ac H5 0) (tl 0 38 [(1, P00), (3, .tight []), (4, pI (i : Int))]) [.row [(aR3 is k n ns ops rb s)]] (.exit 0, (tl 0 38 [(3, .tight [])]), [.row [(aR3 is k n ns ops rb s)]]) :=
 lX [(5, .b false)] [_] (by kernel_rfl) (by kernel_rfl) ⟨cI c1, trivial⟩
theorem Yv {rb : Bool} {k n : Int} {s : BY} {is : List Val} {ns : BL} {ops : List OpS} {i : Nat} {l : List Pt} (oke vke vne : Int) (vse : BY) (vie : List Val) (pse vnse tse : BL) (c1 : (decide ((i : Int) < ((List.length (Ap ops) : Nat) : Int))) = true) (h2 : ops[i]? = some (OpS.mk oke pse (Val.mk vke vne vse vie vnse) tse)) (h3 : List.length l + 1 ≤ 5000000000000) (c4 : (oke == 6) = true) (h5 : List.length (α := Pt) (l ++ [pse]) + 1 ≤ 5000000000000) {r : RL} (hr : LoopN lp 0 (Ac H5 0) (tl 0 38 [(1, P00), (3, .sl (Ah (l ++ [pse] ++ [tse])) 1 (List.length (Ah (l ++ [pse] ++ [tse])))), (4, pI (IntKind.wrap .i64 ((i : Int) + 1)))]) [.row [(aR3 is k n ns ops rb s)], .spare 1 (List.length (Ah (l ++ [pse] ++ [tse])))] r) :
  LoopN lp 0 (Ac H5 0) (tl 0 38 [(1, P00), (3, .sl (Ah l) 1 (List.length (Ah l))), (4, pI (i : Int))]) [.row [(aR3 is k n ns ops rb s)], .spare 1 (List.length (Ah l))] r :=
 have q1 : OpE [.row [(aR3 is k n ns ops rb s)], .spare 1 (List.length (Ah l))] (.indexAddr 8 (.const (pO ops)) (.const (pI (i : Int)))) (.pin [.int .i64 oke, .sl (Ab pse), .int .i64 vke, .int .i64 vne, .str vse, .sl (Ad vie), .sl (Ab vnse), .sl (Ab tse)] 0) := (Ao rfl rfl (Bj h2) rfl)
 have q2 : OpW [.row [(aR3 is k n ns ops rb s)], .spare 1 (List.length (Ah l))] (.append false 1 24 (.const (.sl (Ah l) 1 (List.length (Ah l)))) (.const (.tight [[.sl (Ab pse)]]))) (.sl (Ah (l ++ [pse])) 1 (List.length (Ah (l ++ [pse])))) [.row [(aR3 is k n ns ops rb s)], .spare 1 (List.length (Ah (l ++ [pse])))] := (C0 rfl h3)
 have q3 : OpE [.row [(aR3 is k n ns ops rb s)], .spare 1 (List.length (Ah (l ++ [pse])))] (.indexAddr 8 (.const (pO ops)) (.const (pI (i : Int)))) (.pin [.int .i64 oke, .sl (Ab pse), .int .i64 vke, .int .i64 vne, .str vse, .sl (Ad vie), .sl (Ab vnse), .sl (Ab tse)] 0) := (Ao rfl rfl (Bj h2) rfl)
 have q4 : OpE [.row [(aR3 is k n ns ops rb s)], .spare 1 (List.length (Ah (l ++ [pse])))] (.indexAddr 8 (.const (pO ops)) (.const (pI (i : Int)))) (.pin [.int .i64 oke, .sl (Ab pse), .int .i64 vke, .int .i64 vne, .str vse, .sl (Ad vie), .sl (Ab vnse), .sl (Ab tse)] 0) := (Ao rfl rfl (Bj h2) rfl)
 have q5 : OpW [.row [(aR3 is k n ns ops rb s)], .spare 1 (List.length (Ah (l ++ [pse])))] (.append false 1 24 (.const (.sl (Ah (l ++ [pse])) 1 (List.length (Ah (l ++ [pse]))))) (.const (.tight [[.sl (Ab tse)]]))) (.sl (Ah (l ++ [pse] ++ [tse])) 1 (List.length (Ah (l ++ [pse] ++ [tse])))) [.row [(aR3 is k n ns ops rb s)], .spare 1 (List.length (Ah (l ++ [pse] ++ [tse])))] := (C0 rfl h5)
 lO [(5, .b true), (4, oO q1), (3, oO q2), (4, oO q3), (3, .b true), (4, oO q4), (3, oO q5)] [_, _, _, _, _, _, _] (by kernel_rfl) ⟨cI c1, q1, q2, q3, cI c4, q4, q5, trivial⟩ hr
theorem Yw {rb : Bool} {k n : Int} {s : BY} {is : List Val} {ns : BL} {ops : List OpS} {i : Nat} {l : List Pt} (oke vke vne : Int) (vse : BY) (vie : List Val) (pse vnse tse : BL) (c1 : (decide ((i : Int) < ((List.length (Ap ops) : Nat) : Int))) = true) (h2 : ops[i]? = some (OpS.mk oke pse (Val.mk vke vne vse vie vnse) tse)) (h3 : List.length l + 1 ≤ 5000000000000) (c4 : (oke == 6) = false) {r : RL} (hr : LoopN lp 0 (Ac H5 0) (tl 0 38 [(1, P00), (3, .sl (Ah (l ++ [pse])) 1 (List.length (Ah (l ++ [pse])))), (4, pI (IntKind.wrap .i64 ((i : Int) + 1)))]) [.row [(aR3 is k n ns ops rb s)], .spare 1 (List.length (Ah (l ++ [pse])))] r) :
  LoopN lp 0 (Ac H5 0) (tl 0 38 [(1, P00), (3, .sl (Ah l) 1 (List.length (Ah l))), (4, pI (i : Int))]) [.row [(aR3 is k n ns ops rb s)], .spare 1 (List.length (Ah l))] r :=
 have q1 : OpE [.row [(aR3 is k n ns ops rb s)], .spare 1 (List.length (Ah l))] (.indexAddr 8 (.const (pO ops)) (.const (pI (i : Int)))) (.pin [.int .i64 oke, .sl (Ab pse), .int .i64 vke, .int .i64 vne, .str vse, .sl (Ad vie), .sl (Ab vnse), .sl (Ab tse)] 0) := (Ao rfl rfl (Bj h2) rfl)
 have q2 : OpW [.row [(aR3 is k n ns ops rb s)], .spare 1 (List.length (Ah l))] (.append false 1 24 (.const (.sl (Ah l) 1 (List.length (Ah l)))) (.const (.tight [[.sl (Ab pse)]]))) (.sl (Ah (l ++ [pse])) 1 (List.length (Ah (l ++ [pse])))) [.row [(aR3 is k n ns ops rb s)], .spare 1 (List.length (Ah (l ++ [pse])))] := (C0 rfl h3)
 have q3 : OpE [.row [(aR3 is k n ns ops rb s)], .spare 1 (List.length (Ah (l ++ [pse])))] (.indexAddr 8 (.const (pO ops)) (.const (pI (i : Int)))) (.pin [.int .i64 oke, .sl (Ab pse), .int .i64 vke, .int .i64 vne, .str vse, .sl (Ad vie), .sl (Ab vnse), .sl (Ab tse)] 0) := (Ao rfl rfl (Bj h2) rfl)
 lO [(5, .b true), (4, oO q1), (3, oO q2), (4, oO q3), (3, .b false)] [_, _, _, _, _] (by kernel_rfl) ⟨cI c1, q1, q2, q3, cI c4, trivial⟩ hr
theorem rPlR1_n {rb : Bool} {k n : Int} {s : BY} {is : List Val} {ns : BL} {ops : List OpS} {i : Nat} {l : List Pt} (c1 : (decide ((i : Int) < ((List.length (Ap ops) : Nat) : Int))) = false) :
  LoopN lp 0 (Ac H5 0) (tl 0 38 [(1, P00), (3, .sl (Ah l) 1 (List.length (Ah l))), (4, pI (i : Int))]) [.row [(aR3 is k n ns ops rb s)], .spare 1 (List.length (Ah l))] (.exit 0, (tl 0 38 [(3, .sl (Ah l) 1 (List.length (Ah l)))]), [.row [(aR3 is k n ns ops rb s)], .spare 1 (List.length (Ah l))]) :=
 lX [(5, .b false)] [_] (by kernel_rfl) (by kernel_rfl) ⟨cI c1, trivial⟩
theorem rPl0 {rb : Bool} {k n : Int} {s : BY} {is : List Val} {ns : BL} {ops : List OpS} {l : List Pt} (w1 : (decide (l = [])) = true → LoopN lp 0 (Ac H5 0) (tl 0 38 [(1, P00), (3, .tight []), (4, pI 0)]) [.row [(aR3 is k n ns ops rb s)]] (.exit 0, (tl 0 38 [(3, .tight [])]), [.row [(aR3 is k n ns ops rb s)]])) (w2 : (decide (l = [])) = false → LoopN lp 0 (Ac H5 0) (tl 0 38 [(1, P00), (3, .tight []), (4, pI 0)]) [.row [(aR3 is k n ns ops rb s)]] (.exit 0, (tl 0 38 [(3, .sl (Ah l) 1 (List.length (Ah l)))]), [.row [(aR3 is k n ns ops rb s)], .spare 1 (List.length (Ah l))])) :
  Runs lp 29 [.agg (aR3 is k n ns ops rb s)] [] (if (decide (l = [])) = true then ((.p (.sl []), [])) else ((.p (.sl (Ah l)), []))) := by
 by_cases k1 : (decide (l = [])) = true
 ·refine Ak k1 ?_
  exact
   rO [(4, oL (w1 k1))] [_] (by kernel_rfl) ⟨(w1 k1), trivial⟩
 ·refine Al k1 ?_
  replace k1 := Bool.eq_false_iff.2 k1
  exact
   rO [(4, oL (w2 k1))] [_] (by kernel_rfl) ⟨(w2 k1), trivial⟩
theorem sId0 {q : Pt} (w1 : 0 < List.length q) :
  Runs lp 51 [pN q] [] ((pB ((List.getD (α := BY) q 0 []) == [95, 105, 100]), [])) := by
 exact
  have q1 : OpE [] (.indexAddr 1 (.const (pN q)) (.const (pI 0))) (.pin [.str (List.getD (α := BY) q 0 [])] 0) := (Ao rfl rfl (A1 w1) rfl)
  rO [(2, oO q1)] [_] (by kernel_rfl) ⟨q1, trivial⟩
theorem Yx {l : List Pt} {i : Nat} (c1 : (decide ((i : Int) < ((List.length (Ah l) : Nat) : Int))) = true) (h2 : i < List.length l) (h3 : Runs lp 51 [pN (List.getD (α := Pt) l i [])] [] (pB (List.getD (List.getD (α := Pt) l i []) 0 [] == [95, 105, 100]), [])) (c4 : (List.getD (List.getD (α := Pt) l i []) 0 [] == [95, 105, 100]) = true) :
  LoopN lp 0 (Ac Hb 0) (tl 0 19 [(0, .p (.sl (Ah l))), (1, .fn (.func 51) [] []), (7, pI ((List.length (Ah l) : Nat) : Int)), (8, pI (i : Int))]) [] (.ret, (tl 0 19 [(4, pI (i : Int))]), []) :=
 have q1 : OpE [] (.indexAddr 1 (.const (.p (.sl (Ah l)))) (.const (pI (i : Int)))) (.pin [.sl (Ab (List.getD (α := Pt) l i []))] 0) := (Ao rfl rfl (Br h2) rfl)
 lX [(1, .b true), (5, oO q1), (1, oC h3), (0, .b true)] [_, _, _, _] (by kernel_rfl) (by kernel_rfl) ⟨cI c1, q1, h3, cI c4, trivial⟩
theorem Yy {l : List Pt} {i : Nat} (c1 : (decide ((i : Int) < ((List.length (Ah l) : Nat) : Int))) = true) (h2 : i < List.length l) (h3 : Runs lp 51 [pN (List.getD (α := Pt) l i [])] [] (pB (List.getD (List.getD (α := Pt) l i []) 0 [] == [95, 105, 100]), [])) (c4 : (List.getD (List.getD (α := Pt) l i []) 0 [] == [95, 105, 100]) = false) {r : RL} (hr : LoopN lp 0 (Ac Hb 0) (tl 0 19 [(0, .p (.sl (Ah l))), (1, .fn (.func 51) [] []), (7, pI ((List.length (Ah l) : Nat) : Int)), (8, pI (IntKind.wrap .i64 ((i : Int) + 1)))]) [] r) :
  LoopN lp 0 (Ac Hb 0) (tl 0 19 [(0, .p (.sl (Ah l))), (1, .fn (.func 51) [] []), (7, pI ((List.length (Ah l) : Nat) : Int)), (8, pI (i : Int))]) [] r :=
 have q1 : OpE [] (.indexAddr 1 (.const (.p (.sl (Ah l)))) (.const (pI (i : Int)))) (.pin [.sl (Ab (List.getD (α := Pt) l i []))] 0) := (Ao rfl rfl (Br h2) rfl)
 lO [(1, .b true), (5, oO q1), (1, oC h3), (0, .b false)] [_, _, _, _] (by kernel_rfl) ⟨cI c1, q1, h3, cI c4, trivial⟩ hr
theorem iIdxR_n {l : List Pt} {i : Nat} (c1 : (decide ((i : Int) < ((List.length (Ah l) : Nat) : Int))) = false) :
  LoopN lp 0 (Ac Hb 0) (tl 0 19 [(0, .p (.sl (Ah l))), (1, .fn (.func 51) [] []), (7, pI ((List.length (Ah l) : Nat) : Int)), (8, pI (i : Int))]) [] (.exit 0, (tl 0 19 []), []) :=
 lX [(1, .b false)] [_] (by kernel_rfl) (by kernel_rfl) ⟨cI c1, trivial⟩
theorem iIdx0 {l : List Pt} {i : Nat} {bb : Bool} (w1 : (bb) = true → LoopN lp 0 (Ac Hb 0) (tl 0 19 [(0, .p (.sl (Ah l))), (1, .fn (.func 51) [] []), (7, pI ((List.length (Ah l) : Nat) : Int)), (8, pI 0)]) [] (.exit 0, (tl 0 19 []), [])) (w2 : (bb) = false → LoopN lp 0 (Ac Hb 0) (tl 0 19 [(0, .p (.sl (Ah l))), (1, .fn (.func 51) [] []), (7, pI ((List.length (Ah l) : Nat) : Int)), (8, pI 0)]) [] (.ret, (tl 0 19 [(4, pI (i : Int))]), [])) :
  Runs lp 76 [.p (.sl (Ah l)), .fn (.func 51) [] []] [] (if (bb) = true then ((pI (-1), [])) else ((pI (i : Int), []))) := by
 by_cases k1 : (bb) = true
 ·refine Ak k1 ?_
  exact
   rO [(4, oL (w1 k1))] [_] (by kernel_rfl) ⟨(w1 k1), trivial⟩
 ·refine Al k1 ?_
  replace k1 := Bool.eq_false_iff.2 k1
  exact
   rO [(4, oL (w2 k1))] [_] (by kernel_rfl) ⟨(w2 k1), trivial⟩
theorem iCon0 {l : List Pt} {i : Nat} {bb : Bool} (w1 : (bb) = true → Runs lp 76 [.p (.sl (Ah l)), .fn (.func 51) [] []] [] (pI (-1), [])) (w2 : (bb) = false → Runs lp 76 [.p (.sl (Ah l)), .fn (.func 51) [] []] [] (pI (i : Int), [])) :
  Runs lp 50 [.p (.sl (Ah l)), .fn (.func 51) [] []] [] (if (bb) = true then ((pB false, [])) else ((pB (decide ((i : Int) ≥ 0)), []))) := by
 by_cases k1 : (bb) = true
 ·refine Ak k1 ?_
  exact
   rO [(3, oC (w1 k1))] [_] (by kernel_rfl) ⟨(w1 k1), trivial⟩
 ·refine Al k1 ?_
  replace k1 := Bool.eq_false_iff.2 k1
  exact
   rO [(3, oC (w2 k1))] [_] (by kernel_rfl) ⟨(w2 k1), trivial⟩
theorem sC10 {q p : Pt} (w1 : Runs lp 53 [pN p, pN q] [] (pB (C6 p q), [])) :
  Runs lp 52 [pN q, P00] [.row [[pN p]]] ((pB (C6 p q), [.row [[pN p]]])) := by
 exact
  rO [(3, oC w1)] [_] (by kernel_rfl) ⟨w1, trivial⟩
theorem Yz {l : List Pt} {i : Nat} {p : Pt} (c1 : (decide ((i : Int) < ((List.length (Ah l) : Nat) : Int))) = true) (h2 : i < List.length l) (h3 : Runs lp 52 [pN (List.getD (α := Pt) l i []), P00] [.row [[pN p]]] (pB (C6 p (List.getD (α := Pt) l i [])), [.row [[pN p]]])) (c4 : (C6 p (List.getD (α := Pt) l i [])) = true) :
  LoopN lp 1 (Ac Hb 0) (tl 0 19 [(0, .p (.sl (Ah l))), (1, .fn (.func 52) [] [P00]), (7, pI ((List.length (Ah l) : Nat) : Int)), (8, pI (i : Int))]) [.row [[pN p]]] (.ret, (tl 0 19 [(4, pI (i : Int))]), [.row [[pN p]]]) :=
 have q1 : OpE [.row [[pN p]]] (.indexAddr 1 (.const (.p (.sl (Ah l)))) (.const (pI (i : Int)))) (.pin [.sl (Ab (List.getD (α := Pt) l i []))] 0) := (Ao rfl rfl (Br h2) rfl)
 lX [(1, .b true), (5, oO q1), (1, oC h3), (0, .b true)] [_, _, _, _] (by kernel_rfl) (by kernel_rfl) ⟨cI c1, q1, h3, cI c4, trivial⟩
theorem Y0 {l : List Pt} {i : Nat} {p : Pt} (c1 : (decide ((i : Int) < ((List.length (Ah l) : Nat) : Int))) = true) (h2 : i < List.length l) (h3 : Runs lp 52 [pN (List.getD (α := Pt) l i []), P00] [.row [[pN p]]] (pB (C6 p (List.getD (α := Pt) l i [])), [.row [[pN p]]])) (c4 : (C6 p (List.getD (α := Pt) l i [])) = false) {r : RL} (hr : LoopN lp 1 (Ac Hb 0) (tl 0 19 [(0, .p (.sl (Ah l))), (1, .fn (.func 52) [] [P00]), (7, pI ((List.length (Ah l) : Nat) : Int)), (8, pI (IntKind.wrap .i64 ((i : Int) + 1)))]) [.row [[pN p]]] r) :
  LoopN lp 1 (Ac Hb 0) (tl 0 19 [(0, .p (.sl (Ah l))), (1, .fn (.func 52) [] [P00]), (7, pI ((List.length (Ah l) : Nat) : Int)), (8, pI (i : Int))]) [.row [[pN p]]] r :=
 have q1 : OpE [.row [[pN p]]] (.indexAddr 1 (.const (.p (.sl (Ah l)))) (.const (pI (i : Int)))) (.pin [.sl (Ab (List.getD (α := Pt) l i []))] 0) := (Ao rfl rfl (Br h2) rfl)
 lO [(1, .b true), (5, oO q1), (1, oC h3), (0, .b false)] [_, _, _, _] (by kernel_rfl) ⟨cI c1, q1, h3, cI c4, trivial⟩ hr
theorem mIdxR_n {l : List Pt} {i : Nat} {p : Pt} (c1 : (decide ((i : Int) < ((List.length (Ah l) : Nat) : Int))) = false) :
  LoopN lp 1 (Ac Hb 0) (tl 0 19 [(0, .p (.sl (Ah l))), (1, .fn (.func 52) [] [P00]), (7, pI ((List.length (Ah l) : Nat) : Int)), (8, pI (i : Int))]) [.row [[pN p]]] (.exit 0, (tl 0 19 []), [.row [[pN p]]]) :=
 lX [(1, .b false)] [_] (by kernel_rfl) (by kernel_rfl) ⟨cI c1, trivial⟩
theorem mIdx0 {l : List Pt} {i : Nat} {bb : Bool} {p : Pt} (w1 : (bb) = true → LoopN lp 1 (Ac Hb 0) (tl 0 19 [(0, .p (.sl (Ah l))), (1, .fn (.func 52) [] [P00]), (7, pI ((List.length (Ah l) : Nat) : Int)), (8, pI 0)]) [.row [[pN p]]] (.exit 0, (tl 0 19 []), [.row [[pN p]]])) (w2 : (bb) = false → LoopN lp 1 (Ac Hb 0) (tl 0 19 [(0, .p (.sl (Ah l))), (1, .fn (.func 52) [] [P00]), (7, pI ((List.length (Ah l) : Nat) : Int)), (8, pI 0)]) [.row [[pN p]]] (.ret, (tl 0 19 [(4, pI (i : Int))]), [.row [[pN p]]])) :
  Runs lp 76 [.p (.sl (Ah l)), .fn (.func 52) [] [P00]] [.row [[pN p]]] (if (bb) = true then ((pI (-1), [.row [[pN p]]])) else ((pI (i : Int), [.row [[pN p]]]))) := by
 by_cases k1 : (bb) = true
 ·refine Ak k1 ?_
  exact
   rO [(4, oL (w1 k1))] [_] (by kernel_rfl) ⟨(w1 k1), trivial⟩
 ·refine Al k1 ?_
  replace k1 := Bool.eq_false_iff.2 k1
  exact
   rO [(4, oL (w2 k1))] [_] (by kernel_rfl) ⟨(w2 k1), trivial⟩
theorem mCon0 {l : List Pt} {i : Nat} {bb : Bool} {p : Pt} (w1 : (bb) = true → Runs lp 76 [.p (.sl (Ah l)), .fn (.func 52) [] [P00]] [.row [[pN p]]] (pI (-1), [.row [[pN p]]])) (w2 : (bb) = false → Runs lp 76 [.p (.sl (Ah l)), .fn (.func 52) [] [P00]] [.row [[pN p]]] (pI (i : Int), [.row [[pN p]]])) :
  Runs lp 50 [.p (.sl (Ah l)), .fn (.func 52) [] [P00]] [.row [[pN p]]] (if (bb) = true then ((pB false, [.row [[pN p]]])) else ((pB (decide ((i : Int) ≥ 0)), [.row [[pN p]]]))) := by
 by_cases k1 : (bb) = true
 ·refine Ak k1 ?_
  exact
   rO [(3, oC (w1 k1))] [_] (by kernel_rfl) ⟨(w1 k1), trivial⟩
 ·refine Al k1 ?_
  replace k1 := Bool.eq_false_iff.2 k1
  exact
   rO [(3, oC (w2 k1))] [_] (by kernel_rfl) ⟨(w2 k1), trivial⟩
theorem Y1 {ns : BL} {s : BY} {i : Nat} (c1 : (decide ((i : Int) < ((List.length (Ab ns) : Nat) : Int))) = true) (h2 : i < List.length ns) (c3 : (s == (List.getD (α := BY) ns i [])) = true) :
  LoopN lp 0 (Ac Nj 0) (tl 0 19 [(0, pN ns), (1, pT s), (7, pI ((List.length (Ab ns) : Nat) : Int)), (8, pI (i : Int))]) [] (.ret, (tl 0 19 [(4, pI (i : Int))]), []) :=
 have q1 : OpE [] (.indexAddr 1 (.const (pN ns)) (.const (pI (i : Int)))) (.pin [.str (List.getD (α := BY) ns i [])] 0) := (Ao rfl rfl (A1 h2) rfl)
 lX [(1, .b true), (5, oO q1), (2, .b true)] [_, _, _] (by kernel_rfl) (by kernel_rfl) ⟨cI c1, q1, cI c3, trivial⟩
theorem Y2 {ns : BL} {s : BY} {i : Nat} (c1 : (decide ((i : Int) < ((List.length (Ab ns) : Nat) : Int))) = true) (h2 : i < List.length ns) (c3 : (s == (List.getD (α := BY) ns i [])) = false) {r : RL} (hr : LoopN lp 0 (Ac Nj 0) (tl 0 19 [(0, pN ns), (1, pT s), (7, pI ((List.length (Ab ns) : Nat) : Int)), (8, pI (IntKind.wrap .i64 ((i : Int) + 1)))]) [] r) :
  LoopN lp 0 (Ac Nj 0) (tl 0 19 [(0, pN ns), (1, pT s), (7, pI ((List.length (Ab ns) : Nat) : Int)), (8, pI (i : Int))]) [] r :=
 have q1 : OpE [] (.indexAddr 1 (.const (pN ns)) (.const (pI (i : Int)))) (.pin [.str (List.getD (α := BY) ns i [])] 0) := (Ao rfl rfl (A1 h2) rfl)
 lO [(1, .b true), (5, oO q1), (2, .b false)] [_, _, _] (by kernel_rfl) ⟨cI c1, q1, cI c3, trivial⟩ hr
theorem nIdxR_n {ns : BL} {s : BY} {i : Nat} (c1 : (decide ((i : Int) < ((List.length (Ab ns) : Nat) : Int))) = false) :
  LoopN lp 0 (Ac Nj 0) (tl 0 19 [(0, pN ns), (1, pT s), (7, pI ((List.length (Ab ns) : Nat) : Int)), (8, pI (i : Int))]) [] (.exit 0, (tl 0 19 []), []) :=
 lX [(1, .b false)] [_] (by kernel_rfl) (by kernel_rfl) ⟨cI c1, trivial⟩
theorem nIdx0 {ns : BL} {s : BY} {i : Nat} {bb : Bool} (w1 : (bb) = true → LoopN lp 0 (Ac Nj 0) (tl 0 19 [(0, pN ns), (1, pT s), (7, pI ((List.length (Ab ns) : Nat) : Int)), (8, pI 0)]) [] (.exit 0, (tl 0 19 []), [])) (w2 : (bb) = false → LoopN lp 0 (Ac Nj 0) (tl 0 19 [(0, pN ns), (1, pT s), (7, pI ((List.length (Ab ns) : Nat) : Int)), (8, pI 0)]) [] (.ret, (tl 0 19 [(4, pI (i : Int))]), [])) :
  Runs lp 95 [pN ns, pT s] [] (if (bb) = true then ((pI (-1), [])) else ((pI (i : Int), []))) := by
 by_cases k1 : (bb) = true
 ·refine Ak k1 ?_
  exact
   rO [(4, oL (w1 k1))] [_] (by kernel_rfl) ⟨(w1 k1), trivial⟩
 ·refine Al k1 ?_
  replace k1 := Bool.eq_false_iff.2 k1
  exact
   rO [(4, oL (w2 k1))] [_] (by kernel_rfl) ⟨(w2 k1), trivial⟩
theorem nCon0 {ns : BL} {s : BY} {i : Nat} {bb : Bool} (w1 : (bb) = true → Runs lp 95 [pN ns, pT s] [] (pI (-1), [])) (w2 : (bb) = false → Runs lp 95 [pN ns, pT s] [] (pI (i : Int), [])) :
  Runs lp 74 [pN ns, pT s] [] (if (bb) = true then ((pB false, [])) else ((pB (decide ((i : Int) ≥ 0)), []))) := by
 by_cases k1 : (bb) = true
 ·refine Ak k1 ?_
  exact
   rO [(3, oC (w1 k1))] [_] (by kernel_rfl) ⟨(w1 k1), trivial⟩
 ·refine Al k1 ?_
  replace k1 := Bool.eq_false_iff.2 k1
  exact
   rO [(3, oC (w2 k1))] [_] (by kernel_rfl) ⟨(w2 k1), trivial⟩
theorem sRep0 {rb : Bool} {k n : Int} {s : BY} {is : List Val} {ns : BL} {ops : List OpS} (w1 : (decide (((List.length (Ap ops) : Nat) : Int) > 0)) = false → (k == 7) = true → Runs lp 55 [.agg (aR7 is k n ns s)] [] (pI (Av (Val.mk k n s is ns)), [])) (w2 : (decide (((List.length (Ap ops) : Nat) : Int) > 0)) = false → (k == 7) = true → ((Av (Val.mk k n s is ns)) == 0) = true → Runs lp 74 [pN ns, pT [95, 105, 100]] [] (pB (List.contains ns ([95, 105, 100] : BY)), [])) :
  Runs lp 46 [.agg (aR3 is k n ns ops rb s)] [] (if (decide (((List.length (Ap ops) : Nat) : Int) > 0)) = true then ((pI 72, [])) else (if (k == 7) = true then (if ((Av (Val.mk k n s is ns)) == 0) = true then (if (List.contains ns ([95, 105, 100] : BY)) = true then ((pI 70, [])) else ((pI 0, []))) else ((pI 72, []))) else ((pI 72, [])))) := by
 by_cases k1 : (decide (((List.length (Ap ops) : Nat) : Int) > 0)) = true
 ·refine Ak k1 ?_
  exact
   rO [(7, .b true), (0, .b true), (0, .b true), (0, .b true), (0, .b true)] [_, _, _, _, _] (by kernel_rfl) ⟨cI k1, cI k1, cI k1, cI k1, cI k1, trivial⟩
 ·refine Al k1 ?_
  replace k1 := Bool.eq_false_iff.2 k1
  by_cases k2 : (k == 7) = true
  ·refine Ak k2 ?_
   by_cases k3 : ((Av (Val.mk k n s is ns)) == 0) = true
   ·refine Ak k3 ?_
    by_cases k4 : (List.contains ns ([95, 105, 100] : BY)) = true
    ·refine Ak k4 ?_
     exact
      rO [(7, .b false), (1, .b false), (1, .b false), (1, .b false), (1, .b false), (1, .b false), (1, .b false), (1, .b false), (0, oC (w1 k1 k2)), (0, .b false), (1, .b false), (1, .b false), (3, oC (w2 k1 k2 k3)), (1, .b true)] [_, _, _, _, _, _, _, _, _, _, _, _, _, _] (by kernel_rfl) ⟨cI k1, cI k1, cI k1, cI k1, cI k1, (cI (Ae k2)), (cI (Ae k2)), (cI (Ae k2)), (w1 k1 k2), (cI (Ae k2)), (cI (Ae k2)), (cI (Ae k3)), (w2 k1 k2 k3), cI k4, trivial⟩
    ·refine Al k4 ?_
     replace k4 := Bool.eq_false_iff.2 k4
     exact
      rO [(7, .b false), (1, .b false), (1, .b false), (1, .b false), (1, .b false), (1, .b false), (1, .b false), (1, .b false), (0, oC (w1 k1 k2)), (0, .b false), (1, .b false), (1, .b false), (3, oC (w2 k1 k2 k3)), (1, .b false)] [_, _, _, _, _, _, _, _, _, _, _, _, _, _] (by kernel_rfl) ⟨cI k1, cI k1, cI k1, cI k1, cI k1, (cI (Ae k2)), (cI (Ae k2)), (cI (Ae k2)), (w1 k1 k2), (cI (Ae k2)), (cI (Ae k2)), (cI (Ae k3)), (w2 k1 k2 k3), cI k4, trivial⟩
   ·refine Al k3 ?_
    replace k3 := Bool.eq_false_iff.2 k3
    exact
     rO [(7, .b false), (1, .b false), (1, .b false), (1, .b false), (1, .b false), (1, .b false), (1, .b false), (1, .b false), (0, oC (w1 k1 k2)), (0, .b false), (1, .b false), (1, .b true)] [_, _, _, _, _, _, _, _, _, _, _, _] (by kernel_rfl) ⟨cI k1, cI k1, cI k1, cI k1, cI k1, (cI (Ae k2)), (cI (Ae k2)), (cI (Ae k2)), (w1 k1 k2), (cI (Ae k2)), (cI (Ae k2)), (cI (Ae k3)), trivial⟩
  ·refine Al k2 ?_
   replace k2 := Bool.eq_false_iff.2 k2
   exact
    rO [(7, .b false), (1, .b false), (1, .b false), (1, .b false), (1, .b false), (1, .b true), (0, .b true), (0, .b true), (0, .b true), (0, .b true)] [_, _, _, _, _, _, _, _, _, _] (by kernel_rfl) ⟨cI k1, cI k1, cI k1, cI k1, cI k1, (cI (Ae k2)), (cI (Ae k2)), (cI (Ae k2)), (cI (Ae k2)), (cI (Ae k2)), trivial⟩
theorem sCkR_yy {l : List Pt} {i : Nat} (c1 : (decide ((i : Int) < ((List.length (Ah l) : Nat) : Int))) = true) (h2 : i < List.length l) (h3 : i ≤ List.length l) (h4 : Runs lp 50 [.p (.sl (Ah (List.take i l))), .fn (.func 52) [] [P00]] [.row [[pN (List.getD (α := Pt) l i [])]]] (pB (List.any (List.take i l) (C6 (List.getD (α := Pt) l i []))), [.row [[pN (List.getD (α := Pt) l i [])]]])) (c5 : (List.any (List.take i l) (C6 (List.getD (α := Pt) l i []))) = true) :
  LoopN lp 0 (Ac Nc 0) (tl 0 48 [(3, .p (.sl (Ah l))), (35, .p (.sl (Ah l))), (36, pI ((List.length (Ah l) : Nat) : Int)), (37, pI (i : Int))]) [] (.ret, (tl 0 48 [(2, pI 71)]), [.row [[pN (List.getD (α := Pt) l i [])]]]) :=
 have q1 : OpE [] (.indexAddr 1 (.const (.p (.sl (Ah l)))) (.const (pI (i : Int)))) (.pin [.sl (Ab (List.getD (α := Pt) l i []))] 0) := (Ao rfl rfl (Br h2) rfl)
 have q2 : OpE [.row [[pN (List.getD (α := Pt) l i [])]]] (.slice 1 (.const (.p (.sl (Ah l)))) none (some (.const (pI (i : Int)))) none) (.p (.sl (Ah (List.take i l)))) := (K9 h3)
 lX [(1, .b true), (1, oO q1), (6, oO q2), (1, oC h4), (0, .b true)] [_, _, _, _, _] (by kernel_rfl) (by kernel_rfl) ⟨cI c1, q1, q2, h4, cI c5, trivial⟩
theorem sCkR_yn {l : List Pt} {i : Nat} (c1 : (decide ((i : Int) < ((List.length (Ah l) : Nat) : Int))) = true) (h2 : i < List.length l) (h3 : i ≤ List.length l) (h4 : Runs lp 50 [.p (.sl (Ah (List.take i l))), .fn (.func 52) [] [P00]] [.row [[pN (List.getD (α := Pt) l i [])]]] (pB (List.any (List.take i l) (C6 (List.getD (α := Pt) l i []))), [.row [[pN (List.getD (α := Pt) l i [])]]])) (c5 : (List.any (List.take i l) (C6 (List.getD (α := Pt) l i []))) = false) {r : RL} (hr : LoopN lp 0 (Ac Nc 0) (tl 0 48 [(3, .p (.sl (Ah l))), (35, .p (.sl (Ah l))), (36, pI ((List.length (Ah l) : Nat) : Int)), (37, pI (IntKind.wrap .i64 ((i : Int) + 1)))]) [] r) :
  LoopN lp 0 (Ac Nc 0) (tl 0 48 [(3, .p (.sl (Ah l))), (35, .p (.sl (Ah l))), (36, pI ((List.length (Ah l) : Nat) : Int)), (37, pI (i : Int))]) [] r :=
 have q1 : OpE [] (.indexAddr 1 (.const (.p (.sl (Ah l)))) (.const (pI (i : Int)))) (.pin [.sl (Ab (List.getD (α := Pt) l i []))] 0) := (Ao rfl rfl (Br h2) rfl)
 have q2 : OpE [.row [[pN (List.getD (α := Pt) l i [])]]] (.slice 1 (.const (.p (.sl (Ah l)))) none (some (.const (pI (i : Int)))) none) (.p (.sl (Ah (List.take i l)))) := (K9 h3)
 lO [(1, .b true), (1, oO q1), (6, oO q2), (1, oC h4), (0, .b false)] [_, _, _, _, _] (by kernel_rfl) ⟨cI c1, q1, q2, h4, cI c5, trivial⟩ hr
theorem sCkR_n {l : List Pt} {i : Nat} (c1 : (decide ((i : Int) < ((List.length (Ah l) : Nat) : Int))) = false) :
  LoopN lp 0 (Ac Nc 0) (tl 0 48 [(3, .p (.sl (Ah l))), (35, .p (.sl (Ah l))), (36, pI ((List.length (Ah l) : Nat) : Int)), (37, pI (i : Int))]) [] (.exit 0, (tl 0 48 []), []) :=
 lX [(1, .b false)] [_] (by kernel_rfl) (by kernel_rfl) ⟨cI c1, trivial⟩
theorem sCk0 {rb : Bool} {k n : Int} {s : BY} {is : List Val} {ns : BL} {ops : List OpS} {l : List Pt} {i : Nat} (w1 : (rb) = true → Runs lp 46 [.agg (aR3 is k n ns ops rb s)] [] (pI (Bp true (Val.mk k n s is ns) ops), [])) (w2 : (rb) = false → Runs lp 47 [.agg (aR7 is k n ns s)] [] (pB (Bt (Val.mk k n s is ns)), [])) (w3 : (rb) = false → (Bt (Val.mk k n s is ns)) = true → (decide (((List.length (Ap ops) : Nat) : Int) < 1)) = false → (decide (((List.length (Ap ops) : Nat) : Int) > 16)) = false → Runs lp 48 [pO ops, .fn (.func 49) [] []] [] (pB (!(List.all ops B0)), [])) (w4 : (rb) = false → (Bt (Val.mk k n s is ns)) = true → (decide (((List.length (Ap ops) : Nat) : Int) < 1)) = false → (decide (((List.length (Ap ops) : Nat) : Int) > 16)) = false → (List.all ops B0) = true → Runs lp 22 [.agg (aR3 is k n ns ops rb s)] [] (.p (.sl (Ah l)), [])) (w5 : (rb) = false → (Bt (Val.mk k n s is ns)) = true → (decide (((List.length (Ap ops) : Nat) : Int) < 1)) = false → (decide (((List.length (Ap ops) : Nat) : Int) > 16)) = false → (List.all ops B0) = true → Runs lp 50 [.p (.sl (Ah l)), .fn (.func 51) [] []] [] (pB (List.any l (fun q => List.getD q 0 [] == [95, 105, 100])), [])) (w6 : (rb) = false → (Bt (Val.mk k n s is ns)) = true → (decide (((List.length (Ap ops) : Nat) : Int) < 1)) = false → (decide (((List.length (Ap ops) : Nat) : Int) > 16)) = false → (List.all ops B0) = true → (List.any l (fun q => List.getD q 0 [] == [95, 105, 100])) = false → (Df [] l) = true → LoopN lp 0 (Ac Nc 0) (tl 0 48 [(3, .p (.sl (Ah l))), (35, .p (.sl (Ah l))), (36, pI ((List.length (Ah l) : Nat) : Int)), (37, pI 0)]) [] (.ret, (tl 0 48 [(2, pI 71)]), [.row [[pN (List.getD (α := Pt) l i [])]]])) (w7 : (rb) = false → (Bt (Val.mk k n s is ns)) = true → (decide (((List.length (Ap ops) : Nat) : Int) < 1)) = false → (decide (((List.length (Ap ops) : Nat) : Int) > 16)) = false → (List.all ops B0) = true → (List.any l (fun q => List.getD q 0 [] == [95, 105, 100])) = false → (Df [] l) = false → LoopN lp 0 (Ac Nc 0) (tl 0 48 [(3, .p (.sl (Ah l))), (35, .p (.sl (Ah l))), (36, pI ((List.length (Ah l) : Nat) : Int)), (37, pI 0)]) [] (.exit 0, (tl 0 48 []), [])) :
  Runs lp 20 [.agg (aR3 is k n ns ops rb s)] [] (if (rb) = true then ((pI (Bp true (Val.mk k n s is ns) ops), [])) else (if (Bt (Val.mk k n s is ns)) = true then (if (decide (((List.length (Ap ops) : Nat) : Int) < 1)) = true then ((pI 72, [])) else (if (decide (((List.length (Ap ops) : Nat) : Int) > 16)) = true then ((pI 72, [])) else (if (List.all ops B0) = true then (if (List.any l (fun q => List.getD q 0 [] == [95, 105, 100])) = true then ((pI 70, [])) else (if (Df [] l) = true then ((pI 71, [])) else ((pI 0, [])))) else ((pI 72, []))))) else ((pI 72, [])))) := by
 by_cases k1 : (rb) = true
 ·refine Ak k1 ?_
  exact
   rO [(4, .b true), (1, oC (w1 k1))] [_, _] (by kernel_rfl) ⟨cI k1, (w1 k1), trivial⟩
 ·refine Al k1 ?_
  replace k1 := Bool.eq_false_iff.2 k1
  by_cases k2 : (Bt (Val.mk k n s is ns)) = true
  ·refine Ak k2 ?_
   by_cases k3 : (decide (((List.length (Ap ops) : Nat) : Int) < 1)) = true
   ·refine Ak k3 ?_
    exact
     rO [(4, .b false), (2, oC (w2 k1)), (2, .b false), (1, .b false), (1, .b false), (1, .b false), (1, .b false), (1, .b true), (0, .b true), (0, .b true), (0, .b true), (0, .b true)] [_, _, _, _, _, _, _, _, _, _, _, _] (by kernel_rfl) ⟨cI k1, (w2 k1), (cI (Ae k2)), (cI (Ae k2)), (cI (Ae k2)), (cI (Ae k2)), (cI (Ae k2)), cI k3, cI k3, cI k3, cI k3, cI k3, trivial⟩
   ·refine Al k3 ?_
    replace k3 := Bool.eq_false_iff.2 k3
    by_cases k4 : (decide (((List.length (Ap ops) : Nat) : Int) > 16)) = true
    ·refine Ak k4 ?_
     exact
      rO [(4, .b false), (2, oC (w2 k1)), (2, .b false), (1, .b false), (1, .b false), (1, .b false), (1, .b false), (1, .b false), (1, .b false), (1, .b false), (1, .b false), (1, .b false), (1, .b true), (0, .b true), (0, .b true), (0, .b true)] [_, _, _, _, _, _, _, _, _, _, _, _, _, _, _, _] (by kernel_rfl) ⟨cI k1, (w2 k1), (cI (Ae k2)), (cI (Ae k2)), (cI (Ae k2)), (cI (Ae k2)), (cI (Ae k2)), cI k3, cI k3, cI k3, cI k3, cI k3, cI k4, cI k4, cI k4, cI k4, trivial⟩
    ·refine Al k4 ?_
     replace k4 := Bool.eq_false_iff.2 k4
     by_cases k5 : (List.all ops B0) = true
     ·refine Ak k5 ?_
      by_cases k6 : (List.any l (fun q => List.getD q 0 [] == [95, 105, 100])) = true
      ·refine Ak k6 ?_
       exact
        rO [(4, .b false), (2, oC (w2 k1)), (2, .b false), (1, .b false), (1, .b false), (1, .b false), (1, .b false), (1, .b false), (1, .b false), (1, .b false), (1, .b false), (1, .b false), (1, .b false), (1, .b false), (1, .b false), (0, oC (w3 k1 k2 k3 k4)), (0, .b false), (0, .b false), (1, oC (w4 k1 k2 k3 k4 k5)), (2, oC (w5 k1 k2 k3 k4 k5)), (0, .b true)] [_, _, _, _, _, _, _, _, _, _, _, _, _, _, _, _, _, _, _, _, _] (by kernel_rfl) ⟨cI k1, (w2 k1), (cI (Ae k2)), (cI (Ae k2)), (cI (Ae k2)), (cI (Ae k2)), (cI (Ae k2)), cI k3, cI k3, cI k3, cI k3, cI k3, cI k4, cI k4, cI k4, (w3 k1 k2 k3 k4), cI k4, (cI (Ae k5)), (w4 k1 k2 k3 k4 k5), (w5 k1 k2 k3 k4 k5), cI k6, trivial⟩
      ·refine Al k6 ?_
       replace k6 := Bool.eq_false_iff.2 k6
       by_cases k7 : (Df [] l) = true
       ·refine Ak k7 ?_
        exact
         rO [(4, .b false), (2, oC (w2 k1)), (2, .b false), (1, .b false), (1, .b false), (1, .b false), (1, .b false), (1, .b false), (1, .b false), (1, .b false), (1, .b false), (1, .b false), (1, .b false), (1, .b false), (1, .b false), (0, oC (w3 k1 k2 k3 k4)), (0, .b false), (0, .b false), (1, oC (w4 k1 k2 k3 k4 k5)), (2, oC (w5 k1 k2 k3 k4 k5)), (0, .b false), (3, oL (w6 k1 k2 k3 k4 k5 k6 k7))] [_, _, _, _, _, _, _, _, _, _, _, _, _, _, _, _, _, _, _, _, _, _] (by kernel_rfl) ⟨cI k1, (w2 k1), (cI (Ae k2)), (cI (Ae k2)), (cI (Ae k2)), (cI (Ae k2)), (cI (Ae k2)), cI k3, cI k3, cI k3, cI k3, cI k3, cI k4, cI k4, cI k4, (w3 k1 k2 k3 k4), cI k4, (cI (Ae k5)), (w4 k1 k2 k3 k4 k5), (w5 k1 k2 k3 k4 k5), cI k6, (w6 k1 k2 k3 k4 k5 k6 k7), trivial⟩
       ·refine Al k7 ?_
        replace k7 := Bool.eq_false_iff.2 k7
        exact
         rO [(4, .b false), (2, oC (w2 k1)), (2, .b false), (1, .b false), (1, .b false), (1, .b false), (1, .b false), (1, .b false), (1, .b false), (1, .b false), (1, .b false), (1, .b false), (1, .b false), (1, .b false), (1, .b false), (0, oC (w3 k1 k2 k3 k4)), (0, .b false), (0, .b false), (1, oC (w4 k1 k2 k3 k4 k5)), (2, oC (w5 k1 k2 k3 k4 k5)), (0, .b false), (3, oL (w7 k1 k2 k3 k4 k5 k6 k7))] [_, _, _, _, _, _, _, _, _, _, _, _, _, _, _, _, _, _, _, _, _, _] (by kernel_rfl) ⟨cI k1, (w2 k1), (cI (Ae k2)), (cI (Ae k2)), (cI (Ae k2)), (cI (Ae k2)), (cI (Ae k2)), cI k3, cI k3, cI k3, cI k3, cI k3, cI k4, cI k4, cI k4, (w3 k1 k2 k3 k4), cI k4, (cI (Ae k5)), (w4 k1 k2 k3 k4 k5), (w5 k1 k2 k3 k4 k5), cI k6, (w7 k1 k2 k3 k4 k5 k6 k7), trivial⟩
     ·refine Al k5 ?_
      replace k5 := Bool.eq_false_iff.2 k5
      exact
       rO [(4, .b false), (2, oC (w2 k1)), (2, .b false), (1, .b false), (1, .b false), (1, .b false), (1, .b false), (1, .b false), (1, .b false), (1, .b false), (1, .b false), (1, .b false), (1, .b false), (1, .b false), (1, .b false), (0, oC (w3 k1 k2 k3 k4)), (0, .b false), (0, .b true)] [_, _, _, _, _, _, _, _, _, _, _, _, _, _, _, _, _, _] (by kernel_rfl) ⟨cI k1, (w2 k1), (cI (Ae k2)), (cI (Ae k2)), (cI (Ae k2)), (cI (Ae k2)), (cI (Ae k2)), cI k3, cI k3, cI k3, cI k3, cI k3, cI k4, cI k4, cI k4, (w3 k1 k2 k3 k4), cI k4, (cI (Ae k5)), trivial⟩
  ·refine Al k2 ?_
   replace k2 := Bool.eq_false_iff.2 k2
   exact
    rO [(4, .b false), (2, oC (w2 k1)), (2, .b true), (0, .b true), (0, .b true), (0, .b true), (0, .b true)] [_, _, _, _, _, _, _] (by kernel_rfl) ⟨cI k1, (w2 k1), (cI (Ae k2)), (cI (Ae k2)), (cI (Ae k2)), (cI (Ae k2)), (cI (Ae k2)), trivial⟩
end Go.Proofs.YtegboccilfofmaaGreat
