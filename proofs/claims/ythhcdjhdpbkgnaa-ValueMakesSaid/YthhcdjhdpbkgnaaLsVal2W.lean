import Derived.Test.YthhcdjhdpbkgnaaLsVal1
set_option linter.unusedVariables false
set_option linter.unusedSimpArgs false
set_option maxRecDepth 100000
namespace Go.Proofs.Ythhcdjhdpbkgnaa
open Go Go.LS
theorem rNodR_yy {k n : Int} {s : List UInt8} {is : List Val} {ns : List (List UInt8)} {i : Nat} {m d : Int} (ke ne : Int) (se : List UInt8) (ise : List Val) (nse : List (List UInt8)) (c1 : (decide ((i : Int) < ((List.length (rowsV is) : Nat) : Int))) = true) (c2 : (decide (m < 65536)) = true) (h3 : is[i]? = some (Val.mk ke ne se ise nse)) (h4 : Runs lp 32 [.agg [.p (.int .i64 ke), .p (.int .i64 ne), .p (.str se), .p (.sl (rowsV ise)), .p (.sl (rowsN nse))], .p (.int .i64 (IntKind.wrap .i64 (d + 1)))] [] (.p (.int .i64 (nodesV (IntKind.wrap .i64 (d + 1)) (Val.mk ke ne se ise nse))), [])) {r : LOut × List LV × List LObj} (hr : LoopN lp 0 (loopNo lf32 0) (tl 0 35 [(1, .p (.int .i64 d)), (2, .ptr 0 0 0), (5, .p (.int .i64 (IntKind.wrap .i64 (m + (nodesV (IntKind.wrap .i64 (d + 1)) (Val.mk ke ne se ise nse)))))), (6, .p (.int .i64 (IntKind.wrap .i64 ((i : Int) + 1))))]) [.row [[.p (.int .i64 k), .p (.int .i64 n), .p (.str s), .p (.sl (rowsV is)), .p (.sl (rowsN ns))]]] r) :
    LoopN lp 0 (loopNo lf32 0) (tl 0 35 [(1, .p (.int .i64 d)), (2, .ptr 0 0 0), (5, .p (.int .i64 m)), (6, .p (.int .i64 (i : Int)))]) [.row [[.p (.int .i64 k), .p (.int .i64 n), .p (.str s), .p (.sl (rowsV is)), .p (.sl (rowsN ns))]]] r :=
  have q1 : OpW [.row [[.p (.int .i64 k), .p (.int .i64 n), .p (.str s), .p (.sl (rowsV is)), .p (.sl (rowsN ns))]]] (.indexAddr 5 (.const (.p (.sl (rowsV is)))) (.const (.p (.int .i64 (i : Int))))) (.pin [.int .i64 ke, .int .i64 ne, .str se, .sl (rowsV ise), .sl (rowsN nse)] 0) [.row [[.p (.int .i64 k), .p (.int .i64 n), .p (.str s), .p (.sl (rowsV is)), .p (.sl (rowsN ns))]]] := (opIs_idxE rfl rfl (rowsV_get h3) rfl)
  LoopAt.on (N := 100) (os := [(6, .b true), (1, .b true), (1, .b true), (0, .b true), (4, oO q1), (3, oC h4)]) (ps := [_, _, _, _, _, _]) (by kernel_rfl) ⟨cI c1, cI c1, cI c1, cI c2, q1, h4, trivial⟩ hr
theorem rNodR_yn {k n : Int} {s : List UInt8} {is : List Val} {ns : List (List UInt8)} {i : Nat} {m d : Int} (c1 : (decide ((i : Int) < ((List.length (rowsV is) : Nat) : Int))) = true) (c2 : (decide (m < 65536)) = false) :
    LoopN lp 0 (loopNo lf32 0) (tl 0 35 [(1, .p (.int .i64 d)), (2, .ptr 0 0 0), (5, .p (.int .i64 m)), (6, .p (.int .i64 (i : Int)))]) [.row [[.p (.int .i64 k), .p (.int .i64 n), .p (.str s), .p (.sl (rowsV is)), .p (.sl (rowsN ns))]]] (.exit 0, (tl 0 35 [(5, .p (.int .i64 m))]), [.row [[.p (.int .i64 k), .p (.int .i64 n), .p (.str s), .p (.sl (rowsV is)), .p (.sl (rowsN ns))]]]) :=
  LoopAt.out (N := 100) (os := [(6, .b true), (1, .b true), (1, .b true), (0, .b false)]) (ps := [_, _, _, _]) (by kernel_rfl) (by kernel_rfl) ⟨cI c1, cI c1, cI c1, cI c2, trivial⟩
theorem rNodR_n {k n : Int} {s : List UInt8} {is : List Val} {ns : List (List UInt8)} {i : Nat} {m d : Int} (c1 : (decide ((i : Int) < ((List.length (rowsV is) : Nat) : Int))) = false) :
    LoopN lp 0 (loopNo lf32 0) (tl 0 35 [(1, .p (.int .i64 d)), (2, .ptr 0 0 0), (5, .p (.int .i64 m)), (6, .p (.int .i64 (i : Int)))]) [.row [[.p (.int .i64 k), .p (.int .i64 n), .p (.str s), .p (.sl (rowsV is)), .p (.sl (rowsN ns))]]] (.exit 0, (tl 0 35 [(5, .p (.int .i64 m))]), [.row [[.p (.int .i64 k), .p (.int .i64 n), .p (.str s), .p (.sl (rowsV is)), .p (.sl (rowsN ns))]]]) :=
  LoopAt.out (N := 100) (os := [(6, .b false), (0, .b false), (0, .b false)]) (ps := [_, _, _]) (by kernel_rfl) (by kernel_rfl) ⟨cI c1, cI c1, cI c1, trivial⟩
theorem rNod0 {k n : Int} {s : List UInt8} {is : List Val} {ns : List (List UInt8)} {d m1 : Int} (w1 : (decide (d > 40)) = false → LoopN lp 0 (loopNo lf32 0) (tl 0 35 [(1, .p (.int .i64 d)), (2, .ptr 0 0 0), (5, .p (.int .i64 (IntKind.wrap .i64 (1 + ((List.length (rowsN ns) : Nat) : Int))))), (6, .p (.int .i64 0))]) [.row [[.p (.int .i64 k), .p (.int .i64 n), .p (.str s), .p (.sl (rowsV is)), .p (.sl (rowsN ns))]]] (.exit 0, (tl 0 35 [(5, .p (.int .i64 m1))]), [.row [[.p (.int .i64 k), .p (.int .i64 n), .p (.str s), .p (.sl (rowsV is)), .p (.sl (rowsN ns))]]])) :
    Runs lp 32 [.agg [.p (.int .i64 k), .p (.int .i64 n), .p (.str s), .p (.sl (rowsV is)), .p (.sl (rowsN ns))], .p (.int .i64 d)] [] (if (decide (d > 40)) = true then ((.p (.int .i64 1048576), [])) else ((.p (.int .i64 m1), []))) := by
  by_cases k1 : (decide (d > 40)) = true
  · refine iteRP k1 ?_
    exact
      runO_sound (N := 100) (os := [(4, .b true)]) (ps := [_]) (by kernel_rfl) ⟨cI k1, trivial⟩
  · refine iteRN k1 ?_
    replace k1 := Bool.eq_false_iff.2 k1
    exact
      runO_sound (N := 100) (os := [(4, .b false), (6, oL (w1 k1))]) (ps := [_, _]) (by kernel_rfl) ⟨cI k1, (w1 k1), trivial⟩
theorem rLarge0 {k n : Int} {s : List UInt8} {is : List Val} {ns : List (List UInt8)} (w1 : Runs lp 32 [.agg [.p (.int .i64 k), .p (.int .i64 n), .p (.str s), .p (.sl (rowsV is)), .p (.sl (rowsN ns))], .p (.int .i64 0)] [] (.p (.int .i64 (nodesV 0 (Val.mk k n s is ns))), [])) :
    Runs lp 8 [.agg [.p (.int .i64 k), .p (.int .i64 n), .p (.str s), .p (.sl (rowsV is)), .p (.sl (rowsN ns))]] [] ((.p (.bool (decide ((nodesV 0 (Val.mk k n s is ns)) > 3000))), [])) := by
  exact
    runO_sound (N := 100) (os := [(3, oC w1)]) (ps := [_]) (by kernel_rfl) ⟨w1, trivial⟩
end Go.Proofs.Ythhcdjhdpbkgnaa
