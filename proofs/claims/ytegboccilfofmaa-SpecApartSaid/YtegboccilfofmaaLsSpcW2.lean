import Derived.Test.YtegboccilfofmaaLsSpc
import Derived.Test.YtegboccilfofmaaLsG6
set_option linter.unusedVariables false
set_option maxRecDepth 100000
namespace Go.Proofs.Ytegboccilfofmaa
open Go Go.LS
theorem sWr0 {ok vk vn : Int} {vs : List UInt8} {vi : List Val} {ps vns ts : List (List UInt8)} (w1 : Runs lp 8 [.agg [.p (.int .i64 ok), .p (.sl (rowsN ps)), .p (.int .i64 vk), .p (.int .i64 vn), .p (.str vs), .p (.sl (rowsV vi)), .p (.sl (rowsN vns)), .p (.sl (rowsN ts))]] [] (.p (.bool (mayO (OpS.mk ok ps (Val.mk vk vn vs vi vns) ts))), [])) :
    Runs lp 28 [.agg [.p (.int .i64 ok), .p (.sl (rowsN ps)), .p (.int .i64 vk), .p (.int .i64 vn), .p (.str vs), .p (.sl (rowsV vi)), .p (.sl (rowsN vns)), .p (.sl (rowsN ts))]] [] ((.p (.bool (!(mayO (OpS.mk ok ps (Val.mk vk vn vs vi vns) ts)))), [])) := by
  exact
    runO_sound (N := 100) (os := [(3, oC w1)]) (ps := [_]) (by kernel_rfl) ⟨w1, trivial⟩
theorem oIdxR_yy {ops : List OpS} {i : Nat} (oke vke vne : Int) (vse : List UInt8) (vie : List Val) (pse vnse tse : List (List UInt8)) (c1 : (decide ((i : Int) < ((List.length (rowsO ops) : Nat) : Int))) = true) (h2 : ops[i]? = some (OpS.mk oke pse (Val.mk vke vne vse vie vnse) tse)) (h3 : Runs lp 28 [.agg [.p (.int .i64 oke), .p (.sl (rowsN pse)), .p (.int .i64 vke), .p (.int .i64 vne), .p (.str vse), .p (.sl (rowsV vie)), .p (.sl (rowsN vnse)), .p (.sl (rowsN tse))]] [] (.p (.bool (!(mayO (OpS.mk oke pse (Val.mk vke vne vse vie vnse) tse)))), [])) (c4 : (mayO (OpS.mk oke pse (Val.mk vke vne vse vie vnse) tse)) = true) {r : LOut × List LV × List LObj} (hr : LoopN lp 0 (loopNo lf60 0) (tl 0 19 [(0, .p (.sl (rowsO ops))), (1, .fn (.func 28) [] []), (7, .p (.int .i64 ((List.length (rowsO ops) : Nat) : Int))), (8, .p (.int .i64 (IntKind.wrap .i64 ((i : Int) + 1))))]) [] r) :
    LoopN lp 0 (loopNo lf60 0) (tl 0 19 [(0, .p (.sl (rowsO ops))), (1, .fn (.func 28) [] []), (7, .p (.int .i64 ((List.length (rowsO ops) : Nat) : Int))), (8, .p (.int .i64 (i : Int)))]) [] r :=
  have q1 : OpW [] (.indexAddr 8 (.const (.p (.sl (rowsO ops)))) (.const (.p (.int .i64 (i : Int))))) (.pin [.int .i64 oke, .sl (rowsN pse), .int .i64 vke, .int .i64 vne, .str vse, .sl (rowsV vie), .sl (rowsN vnse), .sl (rowsN tse)] 0) [] := (opIs_idxE rfl rfl (rowsO_get h2) rfl)
  LoopAt.on (N := 100) (os := [(1, .b true), (5, oO q1), (1, oC h3), (0, .b false)]) (ps := [_, _, _, _]) (by kernel_rfl) ⟨cI c1, q1, h3, (cI (notI c4)), trivial⟩ hr
theorem oIdxR_yn {ops : List OpS} {i : Nat} (oke vke vne : Int) (vse : List UInt8) (vie : List Val) (pse vnse tse : List (List UInt8)) (c1 : (decide ((i : Int) < ((List.length (rowsO ops) : Nat) : Int))) = true) (h2 : ops[i]? = some (OpS.mk oke pse (Val.mk vke vne vse vie vnse) tse)) (h3 : Runs lp 28 [.agg [.p (.int .i64 oke), .p (.sl (rowsN pse)), .p (.int .i64 vke), .p (.int .i64 vne), .p (.str vse), .p (.sl (rowsV vie)), .p (.sl (rowsN vnse)), .p (.sl (rowsN tse))]] [] (.p (.bool (!(mayO (OpS.mk oke pse (Val.mk vke vne vse vie vnse) tse)))), [])) (c4 : (mayO (OpS.mk oke pse (Val.mk vke vne vse vie vnse) tse)) = false) :
    LoopN lp 0 (loopNo lf60 0) (tl 0 19 [(0, .p (.sl (rowsO ops))), (1, .fn (.func 28) [] []), (7, .p (.int .i64 ((List.length (rowsO ops) : Nat) : Int))), (8, .p (.int .i64 (i : Int)))]) [] (.ret, (tl 0 19 [(4, .p (.int .i64 (i : Int)))]), []) :=
  have q1 : OpW [] (.indexAddr 8 (.const (.p (.sl (rowsO ops)))) (.const (.p (.int .i64 (i : Int))))) (.pin [.int .i64 oke, .sl (rowsN pse), .int .i64 vke, .int .i64 vne, .str vse, .sl (rowsV vie), .sl (rowsN vnse), .sl (rowsN tse)] 0) [] := (opIs_idxE rfl rfl (rowsO_get h2) rfl)
  LoopAt.out (N := 100) (os := [(1, .b true), (5, oO q1), (1, oC h3), (0, .b true)]) (ps := [_, _, _, _]) (by kernel_rfl) (by kernel_rfl) ⟨cI c1, q1, h3, (cI (notI c4)), trivial⟩
theorem oIdxR_n {ops : List OpS} {i : Nat} (c1 : (decide ((i : Int) < ((List.length (rowsO ops) : Nat) : Int))) = false) :
    LoopN lp 0 (loopNo lf60 0) (tl 0 19 [(0, .p (.sl (rowsO ops))), (1, .fn (.func 28) [] []), (7, .p (.int .i64 ((List.length (rowsO ops) : Nat) : Int))), (8, .p (.int .i64 (i : Int)))]) [] (.exit 0, (tl 0 19 []), []) :=
  LoopAt.out (N := 100) (os := [(1, .b false)]) (ps := [_]) (by kernel_rfl) (by kernel_rfl) ⟨cI c1, trivial⟩
theorem oIdx0 {ops : List OpS} {i : Nat} (w1 : (ops.all mayO) = true → LoopN lp 0 (loopNo lf60 0) (tl 0 19 [(0, .p (.sl (rowsO ops))), (1, .fn (.func 28) [] []), (7, .p (.int .i64 ((List.length (rowsO ops) : Nat) : Int))), (8, .p (.int .i64 0))]) [] (.exit 0, (tl 0 19 []), [])) (w2 : (ops.all mayO) = false → LoopN lp 0 (loopNo lf60 0) (tl 0 19 [(0, .p (.sl (rowsO ops))), (1, .fn (.func 28) [] []), (7, .p (.int .i64 ((List.length (rowsO ops) : Nat) : Int))), (8, .p (.int .i64 0))]) [] (.ret, (tl 0 19 [(4, .p (.int .i64 (i : Int)))]), [])) :
    Runs lp 60 [.p (.sl (rowsO ops)), .fn (.func 28) [] []] [] (if (ops.all mayO) = true then ((.p (.int .i64 (-1)), [])) else ((.p (.int .i64 (i : Int)), []))) := by
  by_cases k1 : (ops.all mayO) = true
  · refine iteRP k1 ?_
    exact
      runO_sound (N := 100) (os := [(4, oL (w1 k1))]) (ps := [_]) (by kernel_rfl) ⟨(w1 k1), trivial⟩
  · refine iteRN k1 ?_
    replace k1 := Bool.eq_false_iff.2 k1
    exact
      runO_sound (N := 100) (os := [(4, oL (w2 k1))]) (ps := [_]) (by kernel_rfl) ⟨(w2 k1), trivial⟩
theorem oCon0 {ops : List OpS} {i : Nat} (w1 : (ops.all mayO) = true → Runs lp 60 [.p (.sl (rowsO ops)), .fn (.func 28) [] []] [] (.p (.int .i64 (-1)), [])) (w2 : (ops.all mayO) = false → Runs lp 60 [.p (.sl (rowsO ops)), .fn (.func 28) [] []] [] (.p (.int .i64 (i : Int)), [])) :
    Runs lp 27 [.p (.sl (rowsO ops)), .fn (.func 28) [] []] [] (if (ops.all mayO) = true then ((.p (.bool false), [])) else ((.p (.bool (decide ((i : Int) ≥ 0))), []))) := by
  by_cases k1 : (ops.all mayO) = true
  · refine iteRP k1 ?_
    exact
      runO_sound (N := 100) (os := [(3, oC (w1 k1))]) (ps := [_]) (by kernel_rfl) ⟨(w1 k1), trivial⟩
  · refine iteRN k1 ?_
    replace k1 := Bool.eq_false_iff.2 k1
    exact
      runO_sound (N := 100) (os := [(3, oC (w2 k1))]) (ps := [_]) (by kernel_rfl) ⟨(w2 k1), trivial⟩
theorem sPlR0_yy {ops : List OpS} {i : Nat} (oke vke vne : Int) (vse : List UInt8) (vie : List Val) (pse vnse tse : List (List UInt8)) (c1 : (decide ((i : Int) < ((List.length (rowsO ops) : Nat) : Int))) = true) (h2 : ops[i]? = some (OpS.mk oke pse (Val.mk vke vne vse vie vnse) tse)) (h3 : Runs lp 29 [.p (.sl (rowsN pse))] [] (.p (.sl (rowsN pse)), [])) (c4 : (oke == 6) = true) (h5 : Runs lp 29 [.p (.sl (rowsN tse))] [] (.p (.sl (rowsN tse)), [])) (h6 : List.length (α := Pt) [pse] + 1 ≤ 5000000000000) {r : LOut × List LV × List LObj} (hr : LoopN lp 0 (loopNo lf9 0) (tl 0 33 [(3, .sl (rowsP ([pse] ++ [tse])) 0 (List.length (rowsP ([pse] ++ [tse])))), (10, .p (.sl (rowsO ops))), (11, .p (.int .i64 ((List.length (rowsO ops) : Nat) : Int))), (12, .p (.int .i64 (IntKind.wrap .i64 ((i : Int) + 1))))]) [.spare 1 (List.length (rowsP ([pse] ++ [tse])))] r) :
    LoopN lp 0 (loopNo lf9 0) (tl 0 33 [(3, .tight []), (10, .p (.sl (rowsO ops))), (11, .p (.int .i64 ((List.length (rowsO ops) : Nat) : Int))), (12, .p (.int .i64 (i : Int)))]) [] r :=
  have q1 : OpW [] (.indexAddr 8 (.const (.p (.sl (rowsO ops)))) (.const (.p (.int .i64 (i : Int))))) (.pin [.int .i64 oke, .sl (rowsN pse), .int .i64 vke, .int .i64 vne, .str vse, .sl (rowsV vie), .sl (rowsN vnse), .sl (rowsN tse)] 0) [] := (opIs_idxE rfl rfl (rowsO_get h2) rfl)
  have q2 : OpW [.row [[.p (.int .i64 oke), .p (.sl (rowsN pse)), .p (.int .i64 vke), .p (.int .i64 vne), .p (.str vse), .p (.sl (rowsV vie)), .p (.sl (rowsN vnse)), .p (.sl (rowsN tse))]]] (.append false 1 24 (.const (.tight [])) (.const (.tight [[.sl (rowsN pse)]]))) (.sl (rowsP [pse]) 1 (List.length (rowsP [pse]))) [.row [[.p (.int .i64 oke), .p (.sl (rowsN pse)), .p (.int .i64 vke), .p (.int .i64 vne), .p (.str vse), .p (.sl (rowsV vie)), .p (.sl (rowsN vnse)), .p (.sl (rowsN tse))]], .spare 1 (List.length (rowsP [pse]))] := opIs_appPT
  have q3 : OpW [.row [[.p (.int .i64 oke), .p (.sl (rowsN pse)), .p (.int .i64 vke), .p (.int .i64 vne), .p (.str vse), .p (.sl (rowsV vie)), .p (.sl (rowsN vnse)), .p (.sl (rowsN tse))]], .spare 1 (List.length (rowsP [pse]))] (.append false 1 24 (.const (.sl (rowsP [pse]) 1 (List.length (rowsP [pse])))) (.const (.tight [[.sl (rowsN tse)]]))) (.sl (rowsP ([pse] ++ [tse])) 1 (List.length (rowsP ([pse] ++ [tse])))) [.row [[.p (.int .i64 oke), .p (.sl (rowsN pse)), .p (.int .i64 vke), .p (.int .i64 vne), .p (.str vse), .p (.sl (rowsV vie)), .p (.sl (rowsN vnse)), .p (.sl (rowsN tse))]], .spare 1 (List.length (rowsP ([pse] ++ [tse])))] := (opIs_appPS rfl h6)
  LoopAt.on (N := 100) (os := [(1, .b true), (0, oO q1), (6, oC h3), (1, oO q2), (4, .b true), (3, oC h5), (1, oO q3)]) (ps := [_, _, _, _, _, _, _]) (by kernel_rfl) ⟨cI c1, q1, h3, q2, cI c4, h5, q3, trivial⟩ hr
theorem sPlR0_yn {ops : List OpS} {i : Nat} (oke vke vne : Int) (vse : List UInt8) (vie : List Val) (pse vnse tse : List (List UInt8)) (c1 : (decide ((i : Int) < ((List.length (rowsO ops) : Nat) : Int))) = true) (h2 : ops[i]? = some (OpS.mk oke pse (Val.mk vke vne vse vie vnse) tse)) (h3 : Runs lp 29 [.p (.sl (rowsN pse))] [] (.p (.sl (rowsN pse)), [])) (c4 : (oke == 6) = false) {r : LOut × List LV × List LObj} (hr : LoopN lp 0 (loopNo lf9 0) (tl 0 33 [(3, .sl (rowsP [pse]) 0 (List.length (rowsP [pse]))), (10, .p (.sl (rowsO ops))), (11, .p (.int .i64 ((List.length (rowsO ops) : Nat) : Int))), (12, .p (.int .i64 (IntKind.wrap .i64 ((i : Int) + 1))))]) [.spare 1 (List.length (rowsP [pse]))] r) :
    LoopN lp 0 (loopNo lf9 0) (tl 0 33 [(3, .tight []), (10, .p (.sl (rowsO ops))), (11, .p (.int .i64 ((List.length (rowsO ops) : Nat) : Int))), (12, .p (.int .i64 (i : Int)))]) [] r :=
  have q1 : OpW [] (.indexAddr 8 (.const (.p (.sl (rowsO ops)))) (.const (.p (.int .i64 (i : Int))))) (.pin [.int .i64 oke, .sl (rowsN pse), .int .i64 vke, .int .i64 vne, .str vse, .sl (rowsV vie), .sl (rowsN vnse), .sl (rowsN tse)] 0) [] := (opIs_idxE rfl rfl (rowsO_get h2) rfl)
  have q2 : OpW [.row [[.p (.int .i64 oke), .p (.sl (rowsN pse)), .p (.int .i64 vke), .p (.int .i64 vne), .p (.str vse), .p (.sl (rowsV vie)), .p (.sl (rowsN vnse)), .p (.sl (rowsN tse))]]] (.append false 1 24 (.const (.tight [])) (.const (.tight [[.sl (rowsN pse)]]))) (.sl (rowsP [pse]) 1 (List.length (rowsP [pse]))) [.row [[.p (.int .i64 oke), .p (.sl (rowsN pse)), .p (.int .i64 vke), .p (.int .i64 vne), .p (.str vse), .p (.sl (rowsV vie)), .p (.sl (rowsN vnse)), .p (.sl (rowsN tse))]], .spare 1 (List.length (rowsP [pse]))] := opIs_appPT
  LoopAt.on (N := 100) (os := [(1, .b true), (0, oO q1), (6, oC h3), (1, oO q2), (4, .b false)]) (ps := [_, _, _, _, _]) (by kernel_rfl) ⟨cI c1, q1, h3, q2, cI c4, trivial⟩ hr
theorem sPlR0_n {ops : List OpS} {i : Nat} (c1 : (decide ((i : Int) < ((List.length (rowsO ops) : Nat) : Int))) = false) :
    LoopN lp 0 (loopNo lf9 0) (tl 0 33 [(3, .tight []), (10, .p (.sl (rowsO ops))), (11, .p (.int .i64 ((List.length (rowsO ops) : Nat) : Int))), (12, .p (.int .i64 (i : Int)))]) [] (.exit 0, (tl 0 33 [(3, .tight [])]), []) :=
  LoopAt.out (N := 100) (os := [(1, .b false)]) (ps := [_]) (by kernel_rfl) (by kernel_rfl) ⟨cI c1, trivial⟩
theorem sPlR1_yy {ops : List OpS} {i : Nat} {l : List Pt} (oke vke vne : Int) (vse : List UInt8) (vie : List Val) (pse vnse tse : List (List UInt8)) (c1 : (decide ((i : Int) < ((List.length (rowsO ops) : Nat) : Int))) = true) (h2 : ops[i]? = some (OpS.mk oke pse (Val.mk vke vne vse vie vnse) tse)) (h3 : Runs lp 29 [.p (.sl (rowsN pse))] [] (.p (.sl (rowsN pse)), [])) (h4 : List.length (α := Pt) l + 1 ≤ 5000000000000) (c5 : (oke == 6) = true) (h6 : Runs lp 29 [.p (.sl (rowsN tse))] [] (.p (.sl (rowsN tse)), [])) (h7 : List.length (α := Pt) (l ++ [pse]) + 1 ≤ 5000000000000) {r : LOut × List LV × List LObj} (hr : LoopN lp 0 (loopNo lf9 0) (tl 0 33 [(3, .sl (rowsP (l ++ [pse] ++ [tse])) 0 (List.length (rowsP (l ++ [pse] ++ [tse])))), (10, .p (.sl (rowsO ops))), (11, .p (.int .i64 ((List.length (rowsO ops) : Nat) : Int))), (12, .p (.int .i64 (IntKind.wrap .i64 ((i : Int) + 1))))]) [.spare 1 (List.length (rowsP (l ++ [pse] ++ [tse])))] r) :
    LoopN lp 0 (loopNo lf9 0) (tl 0 33 [(3, .sl (rowsP l) 0 (List.length (rowsP l))), (10, .p (.sl (rowsO ops))), (11, .p (.int .i64 ((List.length (rowsO ops) : Nat) : Int))), (12, .p (.int .i64 (i : Int)))]) [.spare 1 (List.length (rowsP l))] r :=
  have q1 : OpW [.spare 1 (List.length (rowsP l))] (.indexAddr 8 (.const (.p (.sl (rowsO ops)))) (.const (.p (.int .i64 (i : Int))))) (.pin [.int .i64 oke, .sl (rowsN pse), .int .i64 vke, .int .i64 vne, .str vse, .sl (rowsV vie), .sl (rowsN vnse), .sl (rowsN tse)] 0) [.spare 1 (List.length (rowsP l))] := (opIs_idxE rfl rfl (rowsO_get h2) rfl)
  have q2 : OpW [.spare 1 (List.length (rowsP l)), .row [[.p (.int .i64 oke), .p (.sl (rowsN pse)), .p (.int .i64 vke), .p (.int .i64 vne), .p (.str vse), .p (.sl (rowsV vie)), .p (.sl (rowsN vnse)), .p (.sl (rowsN tse))]]] (.append false 1 24 (.const (.sl (rowsP l) 0 (List.length (rowsP l)))) (.const (.tight [[.sl (rowsN pse)]]))) (.sl (rowsP (l ++ [pse])) 0 (List.length (rowsP (l ++ [pse])))) [.spare 1 (List.length (rowsP (l ++ [pse]))), .row [[.p (.int .i64 oke), .p (.sl (rowsN pse)), .p (.int .i64 vke), .p (.int .i64 vne), .p (.str vse), .p (.sl (rowsV vie)), .p (.sl (rowsN vnse)), .p (.sl (rowsN tse))]]] := (opIs_appPS rfl h4)
  have q3 : OpW [.spare 1 (List.length (rowsP (l ++ [pse]))), .row [[.p (.int .i64 oke), .p (.sl (rowsN pse)), .p (.int .i64 vke), .p (.int .i64 vne), .p (.str vse), .p (.sl (rowsV vie)), .p (.sl (rowsN vnse)), .p (.sl (rowsN tse))]]] (.append false 1 24 (.const (.sl (rowsP (l ++ [pse])) 0 (List.length (rowsP (l ++ [pse]))))) (.const (.tight [[.sl (rowsN tse)]]))) (.sl (rowsP (l ++ [pse] ++ [tse])) 0 (List.length (rowsP (l ++ [pse] ++ [tse])))) [.spare 1 (List.length (rowsP (l ++ [pse] ++ [tse]))), .row [[.p (.int .i64 oke), .p (.sl (rowsN pse)), .p (.int .i64 vke), .p (.int .i64 vne), .p (.str vse), .p (.sl (rowsV vie)), .p (.sl (rowsN vnse)), .p (.sl (rowsN tse))]]] := (opIs_appPS rfl h7)
  LoopAt.on (N := 100) (os := [(1, .b true), (0, oO q1), (6, oC h3), (1, oO q2), (4, .b true), (3, oC h6), (1, oO q3)]) (ps := [_, _, _, _, _, _, _]) (by kernel_rfl) ⟨cI c1, q1, h3, q2, cI c5, h6, q3, trivial⟩ hr
theorem sPlR1_yn {ops : List OpS} {i : Nat} {l : List Pt} (oke vke vne : Int) (vse : List UInt8) (vie : List Val) (pse vnse tse : List (List UInt8)) (c1 : (decide ((i : Int) < ((List.length (rowsO ops) : Nat) : Int))) = true) (h2 : ops[i]? = some (OpS.mk oke pse (Val.mk vke vne vse vie vnse) tse)) (h3 : Runs lp 29 [.p (.sl (rowsN pse))] [] (.p (.sl (rowsN pse)), [])) (h4 : List.length (α := Pt) l + 1 ≤ 5000000000000) (c5 : (oke == 6) = false) {r : LOut × List LV × List LObj} (hr : LoopN lp 0 (loopNo lf9 0) (tl 0 33 [(3, .sl (rowsP (l ++ [pse])) 0 (List.length (rowsP (l ++ [pse])))), (10, .p (.sl (rowsO ops))), (11, .p (.int .i64 ((List.length (rowsO ops) : Nat) : Int))), (12, .p (.int .i64 (IntKind.wrap .i64 ((i : Int) + 1))))]) [.spare 1 (List.length (rowsP (l ++ [pse])))] r) :
    LoopN lp 0 (loopNo lf9 0) (tl 0 33 [(3, .sl (rowsP l) 0 (List.length (rowsP l))), (10, .p (.sl (rowsO ops))), (11, .p (.int .i64 ((List.length (rowsO ops) : Nat) : Int))), (12, .p (.int .i64 (i : Int)))]) [.spare 1 (List.length (rowsP l))] r :=
  have q1 : OpW [.spare 1 (List.length (rowsP l))] (.indexAddr 8 (.const (.p (.sl (rowsO ops)))) (.const (.p (.int .i64 (i : Int))))) (.pin [.int .i64 oke, .sl (rowsN pse), .int .i64 vke, .int .i64 vne, .str vse, .sl (rowsV vie), .sl (rowsN vnse), .sl (rowsN tse)] 0) [.spare 1 (List.length (rowsP l))] := (opIs_idxE rfl rfl (rowsO_get h2) rfl)
  have q2 : OpW [.spare 1 (List.length (rowsP l)), .row [[.p (.int .i64 oke), .p (.sl (rowsN pse)), .p (.int .i64 vke), .p (.int .i64 vne), .p (.str vse), .p (.sl (rowsV vie)), .p (.sl (rowsN vnse)), .p (.sl (rowsN tse))]]] (.append false 1 24 (.const (.sl (rowsP l) 0 (List.length (rowsP l)))) (.const (.tight [[.sl (rowsN pse)]]))) (.sl (rowsP (l ++ [pse])) 0 (List.length (rowsP (l ++ [pse])))) [.spare 1 (List.length (rowsP (l ++ [pse]))), .row [[.p (.int .i64 oke), .p (.sl (rowsN pse)), .p (.int .i64 vke), .p (.int .i64 vne), .p (.str vse), .p (.sl (rowsV vie)), .p (.sl (rowsN vnse)), .p (.sl (rowsN tse))]]] := (opIs_appPS rfl h4)
  LoopAt.on (N := 100) (os := [(1, .b true), (0, oO q1), (6, oC h3), (1, oO q2), (4, .b false)]) (ps := [_, _, _, _, _]) (by kernel_rfl) ⟨cI c1, q1, h3, q2, cI c5, trivial⟩ hr
theorem sPlR1_n {ops : List OpS} {i : Nat} {l : List Pt} (c1 : (decide ((i : Int) < ((List.length (rowsO ops) : Nat) : Int))) = false) :
    LoopN lp 0 (loopNo lf9 0) (tl 0 33 [(3, .sl (rowsP l) 0 (List.length (rowsP l))), (10, .p (.sl (rowsO ops))), (11, .p (.int .i64 ((List.length (rowsO ops) : Nat) : Int))), (12, .p (.int .i64 (i : Int)))]) [.spare 1 (List.length (rowsP l))] (.exit 0, (tl 0 33 [(3, .sl (rowsP l) 0 (List.length (rowsP l)))]), [.spare 1 (List.length (rowsP l))]) :=
  LoopAt.out (N := 100) (os := [(1, .b false)]) (ps := [_]) (by kernel_rfl) (by kernel_rfl) ⟨cI c1, trivial⟩
theorem sPl0 {rb : Bool} {k n : Int} {s : List UInt8} {is : List Val} {ns : List (List UInt8)} {ops : List OpS} {l : List Pt} (w1 : Runs lp 27 [.p (.sl (rowsO ops)), .fn (.func 28) [] []] [] (.p (.bool (!(List.all ops mayO))), [])) (w2 : (List.all ops mayO) = true → (decide (l = [])) = true → LoopN lp 0 (loopNo lf9 0) (tl 0 33 [(3, .tight []), (10, .p (.sl (rowsO ops))), (11, .p (.int .i64 ((List.length (rowsO ops) : Nat) : Int))), (12, .p (.int .i64 0))]) [] (.exit 0, (tl 0 33 [(3, .tight [])]), [])) (w3 : (List.all ops mayO) = true → (decide (l = [])) = false → LoopN lp 0 (loopNo lf9 0) (tl 0 33 [(3, .tight []), (10, .p (.sl (rowsO ops))), (11, .p (.int .i64 ((List.length (rowsO ops) : Nat) : Int))), (12, .p (.int .i64 0))]) [] (.exit 0, (tl 0 33 [(3, .sl (rowsP l) 0 (List.length (rowsP l)))]), [.spare 1 (List.length (rowsP l))])) :
    Runs lp 9 [.agg [.p (.bool rb), .p (.int .i64 k), .p (.int .i64 n), .p (.str s), .p (.sl (rowsV is)), .p (.sl (rowsN ns)), .p (.sl (rowsO ops))]] [] (if (List.all ops mayO) = true then (if (decide (l = [])) = true then ((.p (.sl []), [])) else ((.p (.sl (rowsP l)), []))) else ((.p (.sl []), []))) := by
  by_cases k1 : (List.all ops mayO) = true
  · refine iteRP k1 ?_
    by_cases k2 : (decide (l = [])) = true
    · refine iteRP k2 ?_
      exact
        runO_sound (N := 100) (os := [(4, oC w1), (0, .b false), (5, oL (w2 k1 k2))]) (ps := [_, _, _]) (by kernel_rfl) ⟨w1, (cI (notI k1)), (w2 k1 k2), trivial⟩
    · refine iteRN k2 ?_
      replace k2 := Bool.eq_false_iff.2 k2
      exact
        runO_sound (N := 100) (os := [(4, oC w1), (0, .b false), (5, oL (w3 k1 k2))]) (ps := [_, _, _]) (by kernel_rfl) ⟨w1, (cI (notI k1)), (w3 k1 k2), trivial⟩
  · refine iteRN k1 ?_
    replace k1 := Bool.eq_false_iff.2 k1
    exact
      runO_sound (N := 100) (os := [(4, oC w1), (0, .b true)]) (ps := [_, _]) (by kernel_rfl) ⟨w1, (cI (notI k1)), trivial⟩
theorem sId0 {q : Pt} (w1 : 0 < List.length (α := List UInt8) q) :
    Runs lp 32 [.p (.sl (rowsN q))] [] ((.p (.bool ((List.getD (α := List UInt8) q 0 []) == [95, 105, 100])), [])) := by
  exact
    have q1 : OpW [] (.indexAddr 1 (.const (.p (.sl (rowsN q)))) (.const (.p (.int .i64 0)))) (.pin [.str (List.getD (α := List UInt8) q 0 [])] 0) [] := (opIs_idxE rfl rfl (rowsN_get w1) rfl)
    runO_sound (N := 100) (os := [(2, oO q1)]) (ps := [_]) (by kernel_rfl) ⟨q1, trivial⟩
theorem iIdxR_yy {l : List Pt} {i : Nat} (c1 : (decide ((i : Int) < ((List.length (rowsP l) : Nat) : Int))) = true) (h2 : i < List.length (α := Pt) l) (h3 : Runs lp 32 [.p (.sl (rowsN (List.getD (α := Pt) l i [])))] [] (.p (.bool (List.getD (List.getD (α := Pt) l i []) 0 [] == [95, 105, 100])), [])) (c4 : (List.getD (List.getD (α := Pt) l i []) 0 [] == [95, 105, 100]) = true) :
    LoopN lp 0 (loopNo lf62 0) (tl 0 19 [(0, .p (.sl (rowsP l))), (1, .fn (.func 32) [] []), (7, .p (.int .i64 ((List.length (rowsP l) : Nat) : Int))), (8, .p (.int .i64 (i : Int)))]) [] (.ret, (tl 0 19 [(4, .p (.int .i64 (i : Int)))]), []) :=
  have q1 : OpW [] (.indexAddr 1 (.const (.p (.sl (rowsP l)))) (.const (.p (.int .i64 (i : Int))))) (.pin [.sl (rowsN (List.getD (α := Pt) l i []))] 0) [] := (opIs_idxE rfl rfl (rowsP_get h2) rfl)
  LoopAt.out (N := 100) (os := [(1, .b true), (5, oO q1), (1, oC h3), (0, .b true)]) (ps := [_, _, _, _]) (by kernel_rfl) (by kernel_rfl) ⟨cI c1, q1, h3, cI c4, trivial⟩
theorem iIdxR_yn {l : List Pt} {i : Nat} (c1 : (decide ((i : Int) < ((List.length (rowsP l) : Nat) : Int))) = true) (h2 : i < List.length (α := Pt) l) (h3 : Runs lp 32 [.p (.sl (rowsN (List.getD (α := Pt) l i [])))] [] (.p (.bool (List.getD (List.getD (α := Pt) l i []) 0 [] == [95, 105, 100])), [])) (c4 : (List.getD (List.getD (α := Pt) l i []) 0 [] == [95, 105, 100]) = false) {r : LOut × List LV × List LObj} (hr : LoopN lp 0 (loopNo lf62 0) (tl 0 19 [(0, .p (.sl (rowsP l))), (1, .fn (.func 32) [] []), (7, .p (.int .i64 ((List.length (rowsP l) : Nat) : Int))), (8, .p (.int .i64 (IntKind.wrap .i64 ((i : Int) + 1))))]) [] r) :
    LoopN lp 0 (loopNo lf62 0) (tl 0 19 [(0, .p (.sl (rowsP l))), (1, .fn (.func 32) [] []), (7, .p (.int .i64 ((List.length (rowsP l) : Nat) : Int))), (8, .p (.int .i64 (i : Int)))]) [] r :=
  have q1 : OpW [] (.indexAddr 1 (.const (.p (.sl (rowsP l)))) (.const (.p (.int .i64 (i : Int))))) (.pin [.sl (rowsN (List.getD (α := Pt) l i []))] 0) [] := (opIs_idxE rfl rfl (rowsP_get h2) rfl)
  LoopAt.on (N := 100) (os := [(1, .b true), (5, oO q1), (1, oC h3), (0, .b false)]) (ps := [_, _, _, _]) (by kernel_rfl) ⟨cI c1, q1, h3, cI c4, trivial⟩ hr
theorem iIdxR_n {l : List Pt} {i : Nat} (c1 : (decide ((i : Int) < ((List.length (rowsP l) : Nat) : Int))) = false) :
    LoopN lp 0 (loopNo lf62 0) (tl 0 19 [(0, .p (.sl (rowsP l))), (1, .fn (.func 32) [] []), (7, .p (.int .i64 ((List.length (rowsP l) : Nat) : Int))), (8, .p (.int .i64 (i : Int)))]) [] (.exit 0, (tl 0 19 []), []) :=
  LoopAt.out (N := 100) (os := [(1, .b false)]) (ps := [_]) (by kernel_rfl) (by kernel_rfl) ⟨cI c1, trivial⟩
theorem iIdx0 {l : List Pt} {i : Nat} {bb : Bool} (w1 : (bb) = true → LoopN lp 0 (loopNo lf62 0) (tl 0 19 [(0, .p (.sl (rowsP l))), (1, .fn (.func 32) [] []), (7, .p (.int .i64 ((List.length (rowsP l) : Nat) : Int))), (8, .p (.int .i64 0))]) [] (.exit 0, (tl 0 19 []), [])) (w2 : (bb) = false → LoopN lp 0 (loopNo lf62 0) (tl 0 19 [(0, .p (.sl (rowsP l))), (1, .fn (.func 32) [] []), (7, .p (.int .i64 ((List.length (rowsP l) : Nat) : Int))), (8, .p (.int .i64 0))]) [] (.ret, (tl 0 19 [(4, .p (.int .i64 (i : Int)))]), [])) :
    Runs lp 62 [.p (.sl (rowsP l)), .fn (.func 32) [] []] [] (if (bb) = true then ((.p (.int .i64 (-1)), [])) else ((.p (.int .i64 (i : Int)), []))) := by
  by_cases k1 : (bb) = true
  · refine iteRP k1 ?_
    exact
      runO_sound (N := 100) (os := [(4, oL (w1 k1))]) (ps := [_]) (by kernel_rfl) ⟨(w1 k1), trivial⟩
  · refine iteRN k1 ?_
    replace k1 := Bool.eq_false_iff.2 k1
    exact
      runO_sound (N := 100) (os := [(4, oL (w2 k1))]) (ps := [_]) (by kernel_rfl) ⟨(w2 k1), trivial⟩
theorem iCon0 {l : List Pt} {i : Nat} {bb : Bool} (w1 : (bb) = true → Runs lp 62 [.p (.sl (rowsP l)), .fn (.func 32) [] []] [] (.p (.int .i64 (-1)), [])) (w2 : (bb) = false → Runs lp 62 [.p (.sl (rowsP l)), .fn (.func 32) [] []] [] (.p (.int .i64 (i : Int)), [])) :
    Runs lp 31 [.p (.sl (rowsP l)), .fn (.func 32) [] []] [] (if (bb) = true then ((.p (.bool false), [])) else ((.p (.bool (decide ((i : Int) ≥ 0))), []))) := by
  by_cases k1 : (bb) = true
  · refine iteRP k1 ?_
    exact
      runO_sound (N := 100) (os := [(3, oC (w1 k1))]) (ps := [_]) (by kernel_rfl) ⟨(w1 k1), trivial⟩
  · refine iteRN k1 ?_
    replace k1 := Bool.eq_false_iff.2 k1
    exact
      runO_sound (N := 100) (os := [(3, oC (w2 k1))]) (ps := [_]) (by kernel_rfl) ⟨(w2 k1), trivial⟩
theorem sC10 {q p : Pt} (w1 : Runs lp 34 [.p (.sl (rowsN p)), .p (.sl (rowsN q))] [] (.p (.bool (meetP p q)), [])) :
    Runs lp 33 [.p (.sl (rowsN q)), .ptr 0 0 0] [.row [[.p (.sl (rowsN p))]]] ((.p (.bool (meetP p q)), [.row [[.p (.sl (rowsN p))]]])) := by
  exact
    runO_sound (N := 100) (os := [(3, oC w1)]) (ps := [_]) (by kernel_rfl) ⟨w1, trivial⟩
theorem mIdxR_yy {l : List Pt} {i : Nat} {p : Pt} (c1 : (decide ((i : Int) < ((List.length (rowsP l) : Nat) : Int))) = true) (h2 : i < List.length (α := Pt) l) (h3 : Runs lp 33 [.p (.sl (rowsN (List.getD (α := Pt) l i []))), .ptr 0 0 0] [.row [[.p (.sl (rowsN p))]]] (.p (.bool (meetP p (List.getD (α := Pt) l i []))), [.row [[.p (.sl (rowsN p))]]])) (c4 : (meetP p (List.getD (α := Pt) l i [])) = true) :
    LoopN lp 1 (loopNo lf62 0) (tl 0 19 [(0, .p (.sl (rowsP l))), (1, .fn (.func 33) [] [.ptr 0 0 0]), (7, .p (.int .i64 ((List.length (rowsP l) : Nat) : Int))), (8, .p (.int .i64 (i : Int)))]) [.row [[.p (.sl (rowsN p))]]] (.ret, (tl 0 19 [(4, .p (.int .i64 (i : Int)))]), [.row [[.p (.sl (rowsN p))]]]) :=
  have q1 : OpW [.row [[.p (.sl (rowsN p))]]] (.indexAddr 1 (.const (.p (.sl (rowsP l)))) (.const (.p (.int .i64 (i : Int))))) (.pin [.sl (rowsN (List.getD (α := Pt) l i []))] 0) [.row [[.p (.sl (rowsN p))]]] := (opIs_idxE rfl rfl (rowsP_get h2) rfl)
  LoopAt.out (N := 100) (os := [(1, .b true), (5, oO q1), (1, oC h3), (0, .b true)]) (ps := [_, _, _, _]) (by kernel_rfl) (by kernel_rfl) ⟨cI c1, q1, h3, cI c4, trivial⟩
theorem mIdxR_yn {l : List Pt} {i : Nat} {p : Pt} (c1 : (decide ((i : Int) < ((List.length (rowsP l) : Nat) : Int))) = true) (h2 : i < List.length (α := Pt) l) (h3 : Runs lp 33 [.p (.sl (rowsN (List.getD (α := Pt) l i []))), .ptr 0 0 0] [.row [[.p (.sl (rowsN p))]]] (.p (.bool (meetP p (List.getD (α := Pt) l i []))), [.row [[.p (.sl (rowsN p))]]])) (c4 : (meetP p (List.getD (α := Pt) l i [])) = false) {r : LOut × List LV × List LObj} (hr : LoopN lp 1 (loopNo lf62 0) (tl 0 19 [(0, .p (.sl (rowsP l))), (1, .fn (.func 33) [] [.ptr 0 0 0]), (7, .p (.int .i64 ((List.length (rowsP l) : Nat) : Int))), (8, .p (.int .i64 (IntKind.wrap .i64 ((i : Int) + 1))))]) [.row [[.p (.sl (rowsN p))]]] r) :
    LoopN lp 1 (loopNo lf62 0) (tl 0 19 [(0, .p (.sl (rowsP l))), (1, .fn (.func 33) [] [.ptr 0 0 0]), (7, .p (.int .i64 ((List.length (rowsP l) : Nat) : Int))), (8, .p (.int .i64 (i : Int)))]) [.row [[.p (.sl (rowsN p))]]] r :=
  have q1 : OpW [.row [[.p (.sl (rowsN p))]]] (.indexAddr 1 (.const (.p (.sl (rowsP l)))) (.const (.p (.int .i64 (i : Int))))) (.pin [.sl (rowsN (List.getD (α := Pt) l i []))] 0) [.row [[.p (.sl (rowsN p))]]] := (opIs_idxE rfl rfl (rowsP_get h2) rfl)
  LoopAt.on (N := 100) (os := [(1, .b true), (5, oO q1), (1, oC h3), (0, .b false)]) (ps := [_, _, _, _]) (by kernel_rfl) ⟨cI c1, q1, h3, cI c4, trivial⟩ hr
theorem mIdxR_n {l : List Pt} {i : Nat} {p : Pt} (c1 : (decide ((i : Int) < ((List.length (rowsP l) : Nat) : Int))) = false) :
    LoopN lp 1 (loopNo lf62 0) (tl 0 19 [(0, .p (.sl (rowsP l))), (1, .fn (.func 33) [] [.ptr 0 0 0]), (7, .p (.int .i64 ((List.length (rowsP l) : Nat) : Int))), (8, .p (.int .i64 (i : Int)))]) [.row [[.p (.sl (rowsN p))]]] (.exit 0, (tl 0 19 []), [.row [[.p (.sl (rowsN p))]]]) :=
  LoopAt.out (N := 100) (os := [(1, .b false)]) (ps := [_]) (by kernel_rfl) (by kernel_rfl) ⟨cI c1, trivial⟩
theorem mIdx0 {l : List Pt} {i : Nat} {bb : Bool} {p : Pt} (w1 : (bb) = true → LoopN lp 1 (loopNo lf62 0) (tl 0 19 [(0, .p (.sl (rowsP l))), (1, .fn (.func 33) [] [.ptr 0 0 0]), (7, .p (.int .i64 ((List.length (rowsP l) : Nat) : Int))), (8, .p (.int .i64 0))]) [.row [[.p (.sl (rowsN p))]]] (.exit 0, (tl 0 19 []), [.row [[.p (.sl (rowsN p))]]])) (w2 : (bb) = false → LoopN lp 1 (loopNo lf62 0) (tl 0 19 [(0, .p (.sl (rowsP l))), (1, .fn (.func 33) [] [.ptr 0 0 0]), (7, .p (.int .i64 ((List.length (rowsP l) : Nat) : Int))), (8, .p (.int .i64 0))]) [.row [[.p (.sl (rowsN p))]]] (.ret, (tl 0 19 [(4, .p (.int .i64 (i : Int)))]), [.row [[.p (.sl (rowsN p))]]])) :
    Runs lp 62 [.p (.sl (rowsP l)), .fn (.func 33) [] [.ptr 0 0 0]] [.row [[.p (.sl (rowsN p))]]] (if (bb) = true then ((.p (.int .i64 (-1)), [.row [[.p (.sl (rowsN p))]]])) else ((.p (.int .i64 (i : Int)), [.row [[.p (.sl (rowsN p))]]]))) := by
  by_cases k1 : (bb) = true
  · refine iteRP k1 ?_
    exact
      runO_sound (N := 100) (os := [(4, oL (w1 k1))]) (ps := [_]) (by kernel_rfl) ⟨(w1 k1), trivial⟩
  · refine iteRN k1 ?_
    replace k1 := Bool.eq_false_iff.2 k1
    exact
      runO_sound (N := 100) (os := [(4, oL (w2 k1))]) (ps := [_]) (by kernel_rfl) ⟨(w2 k1), trivial⟩
theorem mCon0 {l : List Pt} {i : Nat} {bb : Bool} {p : Pt} (w1 : (bb) = true → Runs lp 62 [.p (.sl (rowsP l)), .fn (.func 33) [] [.ptr 0 0 0]] [.row [[.p (.sl (rowsN p))]]] (.p (.int .i64 (-1)), [.row [[.p (.sl (rowsN p))]]])) (w2 : (bb) = false → Runs lp 62 [.p (.sl (rowsP l)), .fn (.func 33) [] [.ptr 0 0 0]] [.row [[.p (.sl (rowsN p))]]] (.p (.int .i64 (i : Int)), [.row [[.p (.sl (rowsN p))]]])) :
    Runs lp 31 [.p (.sl (rowsP l)), .fn (.func 33) [] [.ptr 0 0 0]] [.row [[.p (.sl (rowsN p))]]] (if (bb) = true then ((.p (.bool false), [.row [[.p (.sl (rowsN p))]]])) else ((.p (.bool (decide ((i : Int) ≥ 0))), [.row [[.p (.sl (rowsN p))]]]))) := by
  by_cases k1 : (bb) = true
  · refine iteRP k1 ?_
    exact
      runO_sound (N := 100) (os := [(3, oC (w1 k1))]) (ps := [_]) (by kernel_rfl) ⟨(w1 k1), trivial⟩
  · refine iteRN k1 ?_
    replace k1 := Bool.eq_false_iff.2 k1
    exact
      runO_sound (N := 100) (os := [(3, oC (w2 k1))]) (ps := [_]) (by kernel_rfl) ⟨(w2 k1), trivial⟩
theorem nIdxR_yy {ns : List (List UInt8)} {s : List UInt8} {i : Nat} (c1 : (decide ((i : Int) < ((List.length (rowsN ns) : Nat) : Int))) = true) (h2 : i < List.length (α := List UInt8) ns) (c3 : (s == (List.getD (α := List UInt8) ns i [])) = true) :
    LoopN lp 0 (loopNo lf86 0) (tl 0 19 [(0, .p (.sl (rowsN ns))), (1, .p (.str s)), (7, .p (.int .i64 ((List.length (rowsN ns) : Nat) : Int))), (8, .p (.int .i64 (i : Int)))]) [] (.ret, (tl 0 19 [(4, .p (.int .i64 (i : Int)))]), []) :=
  have q1 : OpW [] (.indexAddr 1 (.const (.p (.sl (rowsN ns)))) (.const (.p (.int .i64 (i : Int))))) (.pin [.str (List.getD (α := List UInt8) ns i [])] 0) [] := (opIs_idxE rfl rfl (rowsN_get h2) rfl)
  LoopAt.out (N := 100) (os := [(1, .b true), (5, oO q1), (2, .b true)]) (ps := [_, _, _]) (by kernel_rfl) (by kernel_rfl) ⟨cI c1, q1, cI c3, trivial⟩
theorem nIdxR_yn {ns : List (List UInt8)} {s : List UInt8} {i : Nat} (c1 : (decide ((i : Int) < ((List.length (rowsN ns) : Nat) : Int))) = true) (h2 : i < List.length (α := List UInt8) ns) (c3 : (s == (List.getD (α := List UInt8) ns i [])) = false) {r : LOut × List LV × List LObj} (hr : LoopN lp 0 (loopNo lf86 0) (tl 0 19 [(0, .p (.sl (rowsN ns))), (1, .p (.str s)), (7, .p (.int .i64 ((List.length (rowsN ns) : Nat) : Int))), (8, .p (.int .i64 (IntKind.wrap .i64 ((i : Int) + 1))))]) [] r) :
    LoopN lp 0 (loopNo lf86 0) (tl 0 19 [(0, .p (.sl (rowsN ns))), (1, .p (.str s)), (7, .p (.int .i64 ((List.length (rowsN ns) : Nat) : Int))), (8, .p (.int .i64 (i : Int)))]) [] r :=
  have q1 : OpW [] (.indexAddr 1 (.const (.p (.sl (rowsN ns)))) (.const (.p (.int .i64 (i : Int))))) (.pin [.str (List.getD (α := List UInt8) ns i [])] 0) [] := (opIs_idxE rfl rfl (rowsN_get h2) rfl)
  LoopAt.on (N := 100) (os := [(1, .b true), (5, oO q1), (2, .b false)]) (ps := [_, _, _]) (by kernel_rfl) ⟨cI c1, q1, cI c3, trivial⟩ hr
theorem nIdxR_n {ns : List (List UInt8)} {s : List UInt8} {i : Nat} (c1 : (decide ((i : Int) < ((List.length (rowsN ns) : Nat) : Int))) = false) :
    LoopN lp 0 (loopNo lf86 0) (tl 0 19 [(0, .p (.sl (rowsN ns))), (1, .p (.str s)), (7, .p (.int .i64 ((List.length (rowsN ns) : Nat) : Int))), (8, .p (.int .i64 (i : Int)))]) [] (.exit 0, (tl 0 19 []), []) :=
  LoopAt.out (N := 100) (os := [(1, .b false)]) (ps := [_]) (by kernel_rfl) (by kernel_rfl) ⟨cI c1, trivial⟩
theorem nIdx0 {ns : List (List UInt8)} {s : List UInt8} {i : Nat} {bb : Bool} (w1 : (bb) = true → LoopN lp 0 (loopNo lf86 0) (tl 0 19 [(0, .p (.sl (rowsN ns))), (1, .p (.str s)), (7, .p (.int .i64 ((List.length (rowsN ns) : Nat) : Int))), (8, .p (.int .i64 0))]) [] (.exit 0, (tl 0 19 []), [])) (w2 : (bb) = false → LoopN lp 0 (loopNo lf86 0) (tl 0 19 [(0, .p (.sl (rowsN ns))), (1, .p (.str s)), (7, .p (.int .i64 ((List.length (rowsN ns) : Nat) : Int))), (8, .p (.int .i64 0))]) [] (.ret, (tl 0 19 [(4, .p (.int .i64 (i : Int)))]), [])) :
    Runs lp 86 [.p (.sl (rowsN ns)), .p (.str s)] [] (if (bb) = true then ((.p (.int .i64 (-1)), [])) else ((.p (.int .i64 (i : Int)), []))) := by
  by_cases k1 : (bb) = true
  · refine iteRP k1 ?_
    exact
      runO_sound (N := 100) (os := [(4, oL (w1 k1))]) (ps := [_]) (by kernel_rfl) ⟨(w1 k1), trivial⟩
  · refine iteRN k1 ?_
    replace k1 := Bool.eq_false_iff.2 k1
    exact
      runO_sound (N := 100) (os := [(4, oL (w2 k1))]) (ps := [_]) (by kernel_rfl) ⟨(w2 k1), trivial⟩
theorem nCon0 {ns : List (List UInt8)} {s : List UInt8} {i : Nat} {bb : Bool} (w1 : (bb) = true → Runs lp 86 [.p (.sl (rowsN ns)), .p (.str s)] [] (.p (.int .i64 (-1)), [])) (w2 : (bb) = false → Runs lp 86 [.p (.sl (rowsN ns)), .p (.str s)] [] (.p (.int .i64 (i : Int)), [])) :
    Runs lp 61 [.p (.sl (rowsN ns)), .p (.str s)] [] (if (bb) = true then ((.p (.bool false), [])) else ((.p (.bool (decide ((i : Int) ≥ 0))), []))) := by
  by_cases k1 : (bb) = true
  · refine iteRP k1 ?_
    exact
      runO_sound (N := 100) (os := [(3, oC (w1 k1))]) (ps := [_]) (by kernel_rfl) ⟨(w1 k1), trivial⟩
  · refine iteRN k1 ?_
    replace k1 := Bool.eq_false_iff.2 k1
    exact
      runO_sound (N := 100) (os := [(3, oC (w2 k1))]) (ps := [_]) (by kernel_rfl) ⟨(w2 k1), trivial⟩
theorem sRep0 {rb : Bool} {k n : Int} {s : List UInt8} {is : List Val} {ns : List (List UInt8)} {ops : List OpS} (w1 : (decide (((List.length (rowsO ops) : Nat) : Int) > 0)) = false → (k == 7) = true → Runs lp 26 [.agg [.p (.int .i64 k), .p (.int .i64 n), .p (.str s), .p (.sl (rowsV is)), .p (.sl (rowsN ns))]] [] (.p (.int .i64 (checkW (Val.mk k n s is ns))), [])) (w2 : (decide (((List.length (rowsO ops) : Nat) : Int) > 0)) = false → (k == 7) = true → ((checkW (Val.mk k n s is ns)) == 0) = true → Runs lp 61 [.p (.sl (rowsN ns)), .p (.str [95, 105, 100])] [] (.p (.bool (List.contains ns ([95, 105, 100] : List UInt8))), [])) :
    Runs lp 30 [.agg [.p (.bool rb), .p (.int .i64 k), .p (.int .i64 n), .p (.str s), .p (.sl (rowsV is)), .p (.sl (rowsN ns)), .p (.sl (rowsO ops))]] [] (if (decide (((List.length (rowsO ops) : Nat) : Int) > 0)) = true then ((.p (.int .i64 72), [])) else (if (k == 7) = true then (if ((checkW (Val.mk k n s is ns)) == 0) = true then (if (List.contains ns ([95, 105, 100] : List UInt8)) = true then ((.p (.int .i64 70), [])) else ((.p (.int .i64 0), []))) else ((.p (.int .i64 72), []))) else ((.p (.int .i64 72), [])))) := by
  by_cases k1 : (decide (((List.length (rowsO ops) : Nat) : Int) > 0)) = true
  · refine iteRP k1 ?_
    exact
      runO_sound (N := 100) (os := [(7, .b true), (0, .b true), (0, .b true), (0, .b true), (0, .b true)]) (ps := [_, _, _, _, _]) (by kernel_rfl) ⟨cI k1, cI k1, cI k1, cI k1, cI k1, trivial⟩
  · refine iteRN k1 ?_
    replace k1 := Bool.eq_false_iff.2 k1
    by_cases k2 : (k == 7) = true
    · refine iteRP k2 ?_
      by_cases k3 : ((checkW (Val.mk k n s is ns)) == 0) = true
      · refine iteRP k3 ?_
        by_cases k4 : (List.contains ns ([95, 105, 100] : List UInt8)) = true
        · refine iteRP k4 ?_
          exact
            runO_sound (N := 100) (os := [(7, .b false), (1, .b false), (1, .b false), (1, .b false), (1, .b false), (1, .b false), (1, .b false), (1, .b false), (0, oC (w1 k1 k2)), (0, .b false), (1, .b false), (1, .b false), (3, oC (w2 k1 k2 k3)), (1, .b true)]) (ps := [_, _, _, _, _, _, _, _, _, _, _, _, _, _]) (by kernel_rfl) ⟨cI k1, cI k1, cI k1, cI k1, cI k1, (cI (notI k2)), (cI (notI k2)), (cI (notI k2)), (w1 k1 k2), (cI (notI k2)), (cI (notI k2)), (cI (notI k3)), (w2 k1 k2 k3), cI k4, trivial⟩
        · refine iteRN k4 ?_
          replace k4 := Bool.eq_false_iff.2 k4
          exact
            runO_sound (N := 100) (os := [(7, .b false), (1, .b false), (1, .b false), (1, .b false), (1, .b false), (1, .b false), (1, .b false), (1, .b false), (0, oC (w1 k1 k2)), (0, .b false), (1, .b false), (1, .b false), (3, oC (w2 k1 k2 k3)), (1, .b false)]) (ps := [_, _, _, _, _, _, _, _, _, _, _, _, _, _]) (by kernel_rfl) ⟨cI k1, cI k1, cI k1, cI k1, cI k1, (cI (notI k2)), (cI (notI k2)), (cI (notI k2)), (w1 k1 k2), (cI (notI k2)), (cI (notI k2)), (cI (notI k3)), (w2 k1 k2 k3), cI k4, trivial⟩
      · refine iteRN k3 ?_
        replace k3 := Bool.eq_false_iff.2 k3
        exact
          runO_sound (N := 100) (os := [(7, .b false), (1, .b false), (1, .b false), (1, .b false), (1, .b false), (1, .b false), (1, .b false), (1, .b false), (0, oC (w1 k1 k2)), (0, .b false), (1, .b false), (1, .b true)]) (ps := [_, _, _, _, _, _, _, _, _, _, _, _]) (by kernel_rfl) ⟨cI k1, cI k1, cI k1, cI k1, cI k1, (cI (notI k2)), (cI (notI k2)), (cI (notI k2)), (w1 k1 k2), (cI (notI k2)), (cI (notI k2)), (cI (notI k3)), trivial⟩
    · refine iteRN k2 ?_
      replace k2 := Bool.eq_false_iff.2 k2
      exact
        runO_sound (N := 100) (os := [(7, .b false), (1, .b false), (1, .b false), (1, .b false), (1, .b false), (1, .b true), (0, .b true), (0, .b true), (0, .b true), (0, .b true)]) (ps := [_, _, _, _, _, _, _, _, _, _]) (by kernel_rfl) ⟨cI k1, cI k1, cI k1, cI k1, cI k1, (cI (notI k2)), (cI (notI k2)), (cI (notI k2)), (cI (notI k2)), (cI (notI k2)), trivial⟩
theorem sCkR_yy {l : List Pt} {i : Nat} (c1 : (decide ((i : Int) < ((List.length (rowsP l) : Nat) : Int))) = true) (h2 : i < List.length (α := Pt) l) (h3 : i ≤ List.length (α := Pt) l) (h4 : Runs lp 31 [.p (.sl (rowsP (List.take i l))), .fn (.func 33) [] [.ptr 0 0 0]] [.row [[.p (.sl (rowsN (List.getD (α := Pt) l i [])))]]] (.p (.bool (List.any (List.take i l) (meetP (List.getD (α := Pt) l i [])))), [.row [[.p (.sl (rowsN (List.getD (α := Pt) l i [])))]]])) (c5 : (List.any (List.take i l) (meetP (List.getD (α := Pt) l i []))) = true) :
    LoopN lp 0 (loopNo lf11 0) (tl 0 48 [(3, .p (.sl (rowsP l))), (35, .p (.sl (rowsP l))), (36, .p (.int .i64 ((List.length (rowsP l) : Nat) : Int))), (37, .p (.int .i64 (i : Int)))]) [] (.ret, (tl 0 48 [(2, .p (.int .i64 71))]), [.row [[.p (.sl (rowsN (List.getD (α := Pt) l i [])))]]]) :=
  have q1 : OpW [] (.indexAddr 1 (.const (.p (.sl (rowsP l)))) (.const (.p (.int .i64 (i : Int))))) (.pin [.sl (rowsN (List.getD (α := Pt) l i []))] 0) [] := (opIs_idxE rfl rfl (rowsP_get h2) rfl)
  have q2 : OpW [.row [[.p (.sl (rowsN (List.getD (α := Pt) l i [])))]]] (.slice 1 (.const (.p (.sl (rowsP l)))) none (some (.const (.p (.int .i64 (i : Int))))) none) (.p (.sl (rowsP (List.take i l)))) [.row [[.p (.sl (rowsN (List.getD (α := Pt) l i [])))]]] := (opIs_sliceP h3)
  LoopAt.out (N := 100) (os := [(1, .b true), (1, oO q1), (6, oO q2), (1, oC h4), (0, .b true)]) (ps := [_, _, _, _, _]) (by kernel_rfl) (by kernel_rfl) ⟨cI c1, q1, q2, h4, cI c5, trivial⟩
theorem sCkR_yn {l : List Pt} {i : Nat} (c1 : (decide ((i : Int) < ((List.length (rowsP l) : Nat) : Int))) = true) (h2 : i < List.length (α := Pt) l) (h3 : i ≤ List.length (α := Pt) l) (h4 : Runs lp 31 [.p (.sl (rowsP (List.take i l))), .fn (.func 33) [] [.ptr 0 0 0]] [.row [[.p (.sl (rowsN (List.getD (α := Pt) l i [])))]]] (.p (.bool (List.any (List.take i l) (meetP (List.getD (α := Pt) l i [])))), [.row [[.p (.sl (rowsN (List.getD (α := Pt) l i [])))]]])) (c5 : (List.any (List.take i l) (meetP (List.getD (α := Pt) l i []))) = false) {r : LOut × List LV × List LObj} (hr : LoopN lp 0 (loopNo lf11 0) (tl 0 48 [(3, .p (.sl (rowsP l))), (35, .p (.sl (rowsP l))), (36, .p (.int .i64 ((List.length (rowsP l) : Nat) : Int))), (37, .p (.int .i64 (IntKind.wrap .i64 ((i : Int) + 1))))]) [] r) :
    LoopN lp 0 (loopNo lf11 0) (tl 0 48 [(3, .p (.sl (rowsP l))), (35, .p (.sl (rowsP l))), (36, .p (.int .i64 ((List.length (rowsP l) : Nat) : Int))), (37, .p (.int .i64 (i : Int)))]) [] r :=
  have q1 : OpW [] (.indexAddr 1 (.const (.p (.sl (rowsP l)))) (.const (.p (.int .i64 (i : Int))))) (.pin [.sl (rowsN (List.getD (α := Pt) l i []))] 0) [] := (opIs_idxE rfl rfl (rowsP_get h2) rfl)
  have q2 : OpW [.row [[.p (.sl (rowsN (List.getD (α := Pt) l i [])))]]] (.slice 1 (.const (.p (.sl (rowsP l)))) none (some (.const (.p (.int .i64 (i : Int))))) none) (.p (.sl (rowsP (List.take i l)))) [.row [[.p (.sl (rowsN (List.getD (α := Pt) l i [])))]]] := (opIs_sliceP h3)
  LoopAt.on (N := 100) (os := [(1, .b true), (1, oO q1), (6, oO q2), (1, oC h4), (0, .b false)]) (ps := [_, _, _, _, _]) (by kernel_rfl) ⟨cI c1, q1, q2, h4, cI c5, trivial⟩ hr
theorem sCkR_n {l : List Pt} {i : Nat} (c1 : (decide ((i : Int) < ((List.length (rowsP l) : Nat) : Int))) = false) :
    LoopN lp 0 (loopNo lf11 0) (tl 0 48 [(3, .p (.sl (rowsP l))), (35, .p (.sl (rowsP l))), (36, .p (.int .i64 ((List.length (rowsP l) : Nat) : Int))), (37, .p (.int .i64 (i : Int)))]) [] (.exit 0, (tl 0 48 []), []) :=
  LoopAt.out (N := 100) (os := [(1, .b false)]) (ps := [_]) (by kernel_rfl) (by kernel_rfl) ⟨cI c1, trivial⟩
theorem sCk0 {rb : Bool} {k n : Int} {s : List UInt8} {is : List Val} {ns : List (List UInt8)} {ops : List OpS} {l : List Pt} {i : Nat} (w1 : (rb) = true → Runs lp 30 [.agg [.p (.bool rb), .p (.int .i64 k), .p (.int .i64 n), .p (.str s), .p (.sl (rowsV is)), .p (.sl (rowsN ns)), .p (.sl (rowsO ops))]] [] (.p (.int .i64 (checkS true (Val.mk k n s is ns) ops)), [])) (w2 : (rb) = false → Runs lp 25 [.agg [.p (.int .i64 k), .p (.int .i64 n), .p (.str s), .p (.sl (rowsV is)), .p (.sl (rowsN ns))]] [] (.p (.bool (noneV (Val.mk k n s is ns))), [])) (w3 : (rb) = false → (noneV (Val.mk k n s is ns)) = true → (decide (((List.length (rowsO ops) : Nat) : Int) < 1)) = false → (decide (((List.length (rowsO ops) : Nat) : Int) > 16)) = false → Runs lp 27 [.p (.sl (rowsO ops)), .fn (.func 28) [] []] [] (.p (.bool (!(List.all ops mayO))), [])) (w4 : (rb) = false → (noneV (Val.mk k n s is ns)) = true → (decide (((List.length (rowsO ops) : Nat) : Int) < 1)) = false → (decide (((List.length (rowsO ops) : Nat) : Int) > 16)) = false → (List.all ops mayO) = true → Runs lp 9 [.agg [.p (.bool rb), .p (.int .i64 k), .p (.int .i64 n), .p (.str s), .p (.sl (rowsV is)), .p (.sl (rowsN ns)), .p (.sl (rowsO ops))]] [] (.p (.sl (rowsP l)), [])) (w5 : (rb) = false → (noneV (Val.mk k n s is ns)) = true → (decide (((List.length (rowsO ops) : Nat) : Int) < 1)) = false → (decide (((List.length (rowsO ops) : Nat) : Int) > 16)) = false → (List.all ops mayO) = true → Runs lp 31 [.p (.sl (rowsP l)), .fn (.func 32) [] []] [] (.p (.bool (List.any l (fun q => List.getD q 0 [] == [95, 105, 100]))), [])) (w6 : (rb) = false → (noneV (Val.mk k n s is ns)) = true → (decide (((List.length (rowsO ops) : Nat) : Int) < 1)) = false → (decide (((List.length (rowsO ops) : Nat) : Int) > 16)) = false → (List.all ops mayO) = true → (List.any l (fun q => List.getD q 0 [] == [95, 105, 100])) = false → (clashL [] l) = true → LoopN lp 0 (loopNo lf11 0) (tl 0 48 [(3, .p (.sl (rowsP l))), (35, .p (.sl (rowsP l))), (36, .p (.int .i64 ((List.length (rowsP l) : Nat) : Int))), (37, .p (.int .i64 0))]) [] (.ret, (tl 0 48 [(2, .p (.int .i64 71))]), [.row [[.p (.sl (rowsN (List.getD (α := Pt) l i [])))]]])) (w7 : (rb) = false → (noneV (Val.mk k n s is ns)) = true → (decide (((List.length (rowsO ops) : Nat) : Int) < 1)) = false → (decide (((List.length (rowsO ops) : Nat) : Int) > 16)) = false → (List.all ops mayO) = true → (List.any l (fun q => List.getD q 0 [] == [95, 105, 100])) = false → (clashL [] l) = false → LoopN lp 0 (loopNo lf11 0) (tl 0 48 [(3, .p (.sl (rowsP l))), (35, .p (.sl (rowsP l))), (36, .p (.int .i64 ((List.length (rowsP l) : Nat) : Int))), (37, .p (.int .i64 0))]) [] (.exit 0, (tl 0 48 []), [])) :
    Runs lp 11 [.agg [.p (.bool rb), .p (.int .i64 k), .p (.int .i64 n), .p (.str s), .p (.sl (rowsV is)), .p (.sl (rowsN ns)), .p (.sl (rowsO ops))]] [] (if (rb) = true then ((.p (.int .i64 (checkS true (Val.mk k n s is ns) ops)), [])) else (if (noneV (Val.mk k n s is ns)) = true then (if (decide (((List.length (rowsO ops) : Nat) : Int) < 1)) = true then ((.p (.int .i64 72), [])) else (if (decide (((List.length (rowsO ops) : Nat) : Int) > 16)) = true then ((.p (.int .i64 72), [])) else (if (List.all ops mayO) = true then (if (List.any l (fun q => List.getD q 0 [] == [95, 105, 100])) = true then ((.p (.int .i64 70), [])) else (if (clashL [] l) = true then ((.p (.int .i64 71), [])) else ((.p (.int .i64 0), [])))) else ((.p (.int .i64 72), []))))) else ((.p (.int .i64 72), [])))) := by
  by_cases k1 : (rb) = true
  · refine iteRP k1 ?_
    exact
      runO_sound (N := 100) (os := [(4, .b true), (1, oC (w1 k1))]) (ps := [_, _]) (by kernel_rfl) ⟨cI k1, (w1 k1), trivial⟩
  · refine iteRN k1 ?_
    replace k1 := Bool.eq_false_iff.2 k1
    by_cases k2 : (noneV (Val.mk k n s is ns)) = true
    · refine iteRP k2 ?_
      by_cases k3 : (decide (((List.length (rowsO ops) : Nat) : Int) < 1)) = true
      · refine iteRP k3 ?_
        exact
          runO_sound (N := 100) (os := [(4, .b false), (2, oC (w2 k1)), (2, .b false), (1, .b false), (1, .b false), (1, .b false), (1, .b false), (1, .b true), (0, .b true), (0, .b true), (0, .b true), (0, .b true)]) (ps := [_, _, _, _, _, _, _, _, _, _, _, _]) (by kernel_rfl) ⟨cI k1, (w2 k1), (cI (notI k2)), (cI (notI k2)), (cI (notI k2)), (cI (notI k2)), (cI (notI k2)), cI k3, cI k3, cI k3, cI k3, cI k3, trivial⟩
      · refine iteRN k3 ?_
        replace k3 := Bool.eq_false_iff.2 k3
        by_cases k4 : (decide (((List.length (rowsO ops) : Nat) : Int) > 16)) = true
        · refine iteRP k4 ?_
          exact
            runO_sound (N := 100) (os := [(4, .b false), (2, oC (w2 k1)), (2, .b false), (1, .b false), (1, .b false), (1, .b false), (1, .b false), (1, .b false), (1, .b false), (1, .b false), (1, .b false), (1, .b false), (1, .b true), (0, .b true), (0, .b true), (0, .b true)]) (ps := [_, _, _, _, _, _, _, _, _, _, _, _, _, _, _, _]) (by kernel_rfl) ⟨cI k1, (w2 k1), (cI (notI k2)), (cI (notI k2)), (cI (notI k2)), (cI (notI k2)), (cI (notI k2)), cI k3, cI k3, cI k3, cI k3, cI k3, cI k4, cI k4, cI k4, cI k4, trivial⟩
        · refine iteRN k4 ?_
          replace k4 := Bool.eq_false_iff.2 k4
          by_cases k5 : (List.all ops mayO) = true
          · refine iteRP k5 ?_
            by_cases k6 : (List.any l (fun q => List.getD q 0 [] == [95, 105, 100])) = true
            · refine iteRP k6 ?_
              exact
                runO_sound (N := 100) (os := [(4, .b false), (2, oC (w2 k1)), (2, .b false), (1, .b false), (1, .b false), (1, .b false), (1, .b false), (1, .b false), (1, .b false), (1, .b false), (1, .b false), (1, .b false), (1, .b false), (1, .b false), (1, .b false), (0, oC (w3 k1 k2 k3 k4)), (0, .b false), (0, .b false), (1, oC (w4 k1 k2 k3 k4 k5)), (2, oC (w5 k1 k2 k3 k4 k5)), (0, .b true)]) (ps := [_, _, _, _, _, _, _, _, _, _, _, _, _, _, _, _, _, _, _, _, _]) (by kernel_rfl) ⟨cI k1, (w2 k1), (cI (notI k2)), (cI (notI k2)), (cI (notI k2)), (cI (notI k2)), (cI (notI k2)), cI k3, cI k3, cI k3, cI k3, cI k3, cI k4, cI k4, cI k4, (w3 k1 k2 k3 k4), cI k4, (cI (notI k5)), (w4 k1 k2 k3 k4 k5), (w5 k1 k2 k3 k4 k5), cI k6, trivial⟩
            · refine iteRN k6 ?_
              replace k6 := Bool.eq_false_iff.2 k6
              by_cases k7 : (clashL [] l) = true
              · refine iteRP k7 ?_
                exact
                  runO_sound (N := 100) (os := [(4, .b false), (2, oC (w2 k1)), (2, .b false), (1, .b false), (1, .b false), (1, .b false), (1, .b false), (1, .b false), (1, .b false), (1, .b false), (1, .b false), (1, .b false), (1, .b false), (1, .b false), (1, .b false), (0, oC (w3 k1 k2 k3 k4)), (0, .b false), (0, .b false), (1, oC (w4 k1 k2 k3 k4 k5)), (2, oC (w5 k1 k2 k3 k4 k5)), (0, .b false), (3, oL (w6 k1 k2 k3 k4 k5 k6 k7))]) (ps := [_, _, _, _, _, _, _, _, _, _, _, _, _, _, _, _, _, _, _, _, _, _]) (by kernel_rfl) ⟨cI k1, (w2 k1), (cI (notI k2)), (cI (notI k2)), (cI (notI k2)), (cI (notI k2)), (cI (notI k2)), cI k3, cI k3, cI k3, cI k3, cI k3, cI k4, cI k4, cI k4, (w3 k1 k2 k3 k4), cI k4, (cI (notI k5)), (w4 k1 k2 k3 k4 k5), (w5 k1 k2 k3 k4 k5), cI k6, (w6 k1 k2 k3 k4 k5 k6 k7), trivial⟩
              · refine iteRN k7 ?_
                replace k7 := Bool.eq_false_iff.2 k7
                exact
                  runO_sound (N := 100) (os := [(4, .b false), (2, oC (w2 k1)), (2, .b false), (1, .b false), (1, .b false), (1, .b false), (1, .b false), (1, .b false), (1, .b false), (1, .b false), (1, .b false), (1, .b false), (1, .b false), (1, .b false), (1, .b false), (0, oC (w3 k1 k2 k3 k4)), (0, .b false), (0, .b false), (1, oC (w4 k1 k2 k3 k4 k5)), (2, oC (w5 k1 k2 k3 k4 k5)), (0, .b false), (3, oL (w7 k1 k2 k3 k4 k5 k6 k7))]) (ps := [_, _, _, _, _, _, _, _, _, _, _, _, _, _, _, _, _, _, _, _, _, _]) (by kernel_rfl) ⟨cI k1, (w2 k1), (cI (notI k2)), (cI (notI k2)), (cI (notI k2)), (cI (notI k2)), (cI (notI k2)), cI k3, cI k3, cI k3, cI k3, cI k3, cI k4, cI k4, cI k4, (w3 k1 k2 k3 k4), cI k4, (cI (notI k5)), (w4 k1 k2 k3 k4 k5), (w5 k1 k2 k3 k4 k5), cI k6, (w7 k1 k2 k3 k4 k5 k6 k7), trivial⟩
          · refine iteRN k5 ?_
            replace k5 := Bool.eq_false_iff.2 k5
            exact
              runO_sound (N := 100) (os := [(4, .b false), (2, oC (w2 k1)), (2, .b false), (1, .b false), (1, .b false), (1, .b false), (1, .b false), (1, .b false), (1, .b false), (1, .b false), (1, .b false), (1, .b false), (1, .b false), (1, .b false), (1, .b false), (0, oC (w3 k1 k2 k3 k4)), (0, .b false), (0, .b true)]) (ps := [_, _, _, _, _, _, _, _, _, _, _, _, _, _, _, _, _, _]) (by kernel_rfl) ⟨cI k1, (w2 k1), (cI (notI k2)), (cI (notI k2)), (cI (notI k2)), (cI (notI k2)), (cI (notI k2)), cI k3, cI k3, cI k3, cI k3, cI k3, cI k4, cI k4, cI k4, (w3 k1 k2 k3 k4), cI k4, (cI (notI k5)), trivial⟩
    · refine iteRN k2 ?_
      replace k2 := Bool.eq_false_iff.2 k2
      exact
        runO_sound (N := 100) (os := [(4, .b false), (2, oC (w2 k1)), (2, .b true), (0, .b true), (0, .b true), (0, .b true), (0, .b true)]) (ps := [_, _, _, _, _, _, _]) (by kernel_rfl) ⟨cI k1, (w2 k1), (cI (notI k2)), (cI (notI k2)), (cI (notI k2)), (cI (notI k2)), (cI (notI k2)), trivial⟩
end Go.Proofs.Ytegboccilfofmaa
