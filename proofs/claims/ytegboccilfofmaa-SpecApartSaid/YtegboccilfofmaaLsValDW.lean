import Derived.Test.YtegboccilfofmaaLsVal3
import Derived.Test.YtegboccilfofmaaLsG6
set_option linter.unusedVariables false
set_option maxRecDepth 100000
namespace Go.Proofs.Ytegboccilfofmaa
open Go Go.LS
theorem vDwpR_y {is : List Val} {i : Nat} {m : Int} (ke ne : Int) (se : List UInt8) (ise : List Val) (nse : List (List UInt8)) (c1 : (decide ((i : Int) < ((List.length (rowsV is) : Nat) : Int))) = true) (h2 : is[i]? = some (Val.mk ke ne se ise nse)) (h3 : Runs lp 58 [.agg [.p (.int .i64 ke), .p (.int .i64 ne), .p (.str se), .p (.sl (rowsV ise)), .p (.sl (rowsN nse))]] [] (.p (.int .i64 (depthW (Val.mk ke ne se ise nse))), [])) {r : LOut × List LV × List LObj} (hr : LoopN lp 0 (loopNo lf58 0) (tl 0 20 [(3, .p (.int .i64 (if (depthW (Val.mk ke ne se ise nse)) > m then (depthW (Val.mk ke ne se ise nse)) else m))), (7, .p (.sl (rowsV is))), (8, .p (.int .i64 ((List.length (rowsV is) : Nat) : Int))), (9, .p (.int .i64 (IntKind.wrap .i64 ((i : Int) + 1))))]) [] r) :
    LoopN lp 0 (loopNo lf58 0) (tl 0 20 [(3, .p (.int .i64 m)), (7, .p (.sl (rowsV is))), (8, .p (.int .i64 ((List.length (rowsV is) : Nat) : Int))), (9, .p (.int .i64 (i : Int)))]) [] r :=
  have q1 : OpW [] (.indexAddr 5 (.const (.p (.sl (rowsV is)))) (.const (.p (.int .i64 (i : Int))))) (.pin [.int .i64 ke, .int .i64 ne, .str se, .sl (rowsV ise), .sl (rowsN nse)] 0) [] := (opIs_idxE rfl rfl (rowsV_get h2) rfl)
  LoopAt.on (N := 100) (os := [(1, .b true), (0, oO q1), (5, oC h3)]) (ps := [_, _, _]) (by kernel_rfl) ⟨cI c1, q1, h3, trivial⟩ hr
theorem vDwpR_n {is : List Val} {i : Nat} {m : Int} (c1 : (decide ((i : Int) < ((List.length (rowsV is) : Nat) : Int))) = false) :
    LoopN lp 0 (loopNo lf58 0) (tl 0 20 [(3, .p (.int .i64 m)), (7, .p (.sl (rowsV is))), (8, .p (.int .i64 ((List.length (rowsV is) : Nat) : Int))), (9, .p (.int .i64 (i : Int)))]) [] (.exit 0, (tl 0 20 [(3, .p (.int .i64 m))]), []) :=
  LoopAt.out (N := 100) (os := [(1, .b false)]) (ps := [_]) (by kernel_rfl) (by kernel_rfl) ⟨cI c1, trivial⟩
theorem vDwp0 {k n : Int} {s : List UInt8} {is : List Val} {ns : List (List UInt8)} (w1 : LoopN lp 0 (loopNo lf58 0) (tl 0 20 [(3, .p (.int .i64 0)), (7, .p (.sl (rowsV is))), (8, .p (.int .i64 ((List.length (rowsV is) : Nat) : Int))), (9, .p (.int .i64 0))]) [] (.exit 0, (tl 0 20 [(3, .p (.int .i64 (depthLW is)))]), [])) :
    Runs lp 58 [.agg [.p (.int .i64 k), .p (.int .i64 n), .p (.str s), .p (.sl (rowsV is)), .p (.sl (rowsN ns))]] [] ((.p (.int .i64 (IntKind.wrap .i64 ((depthLW is) + 1))), [])) := by
  exact
    runO_sound (N := 100) (os := [(7, oL w1)]) (ps := [_]) (by kernel_rfl) ⟨w1, trivial⟩
theorem rDwpR_yy {k n : Int} {s : List UInt8} {is : List Val} {ns : List (List UInt8)} {i : Nat} {m : Int} (ke ne : Int) (se : List UInt8) (ise : List Val) (nse : List (List UInt8)) (c1 : (decide ((i : Int) < ((List.length (rowsV is) : Nat) : Int))) = true) (h2 : is[i]? = some (Val.mk ke ne se ise nse)) (h3 : Runs lp 52 [.agg [.p (.int .i64 ke), .p (.int .i64 ne), .p (.str se), .p (.sl (rowsV ise)), .p (.sl (rowsN nse))]] [] (.p (.int .i64 (depthW (Val.mk ke ne se ise nse))), [])) (c4 : (decide ((depthW (Val.mk ke ne se ise nse)) > m)) = true) {r : LOut × List LV × List LObj} (hr : LoopN lp 0 (loopNo lf52 0) (tl 0 25 [(1, .ptr 0 0 0), (3, .p (.int .i64 (depthW (Val.mk ke ne se ise nse)))), (4, .p (.int .i64 (IntKind.wrap .i64 ((i : Int) + 1))))]) [.row [[.p (.int .i64 k), .p (.int .i64 n), .p (.str s), .p (.sl (rowsV is)), .p (.sl (rowsN ns))]]] r) :
    LoopN lp 0 (loopNo lf52 0) (tl 0 25 [(1, .ptr 0 0 0), (3, .p (.int .i64 m)), (4, .p (.int .i64 (i : Int)))]) [.row [[.p (.int .i64 k), .p (.int .i64 n), .p (.str s), .p (.sl (rowsV is)), .p (.sl (rowsN ns))]]] r :=
  have q1 : OpW [.row [[.p (.int .i64 k), .p (.int .i64 n), .p (.str s), .p (.sl (rowsV is)), .p (.sl (rowsN ns))]]] (.indexAddr 5 (.const (.p (.sl (rowsV is)))) (.const (.p (.int .i64 (i : Int))))) (.pin [.int .i64 ke, .int .i64 ne, .str se, .sl (rowsV ise), .sl (rowsN nse)] 0) [.row [[.p (.int .i64 k), .p (.int .i64 n), .p (.str s), .p (.sl (rowsV is)), .p (.sl (rowsN ns))]]] := (opIs_idxE rfl rfl (rowsV_get h2) rfl)
  LoopAt.on (N := 100) (os := [(5, .b true), (3, oO q1), (1, oC h3), (4, .b true)]) (ps := [_, _, _, _]) (by kernel_rfl) ⟨cI c1, q1, h3, cI c4, trivial⟩ hr
theorem rDwpR_yn {k n : Int} {s : List UInt8} {is : List Val} {ns : List (List UInt8)} {i : Nat} {m : Int} (ke ne : Int) (se : List UInt8) (ise : List Val) (nse : List (List UInt8)) (c1 : (decide ((i : Int) < ((List.length (rowsV is) : Nat) : Int))) = true) (h2 : is[i]? = some (Val.mk ke ne se ise nse)) (h3 : Runs lp 52 [.agg [.p (.int .i64 ke), .p (.int .i64 ne), .p (.str se), .p (.sl (rowsV ise)), .p (.sl (rowsN nse))]] [] (.p (.int .i64 (depthW (Val.mk ke ne se ise nse))), [])) (c4 : (decide ((depthW (Val.mk ke ne se ise nse)) > m)) = false) {r : LOut × List LV × List LObj} (hr : LoopN lp 0 (loopNo lf52 0) (tl 0 25 [(1, .ptr 0 0 0), (3, .p (.int .i64 m)), (4, .p (.int .i64 (IntKind.wrap .i64 ((i : Int) + 1))))]) [.row [[.p (.int .i64 k), .p (.int .i64 n), .p (.str s), .p (.sl (rowsV is)), .p (.sl (rowsN ns))]]] r) :
    LoopN lp 0 (loopNo lf52 0) (tl 0 25 [(1, .ptr 0 0 0), (3, .p (.int .i64 m)), (4, .p (.int .i64 (i : Int)))]) [.row [[.p (.int .i64 k), .p (.int .i64 n), .p (.str s), .p (.sl (rowsV is)), .p (.sl (rowsN ns))]]] r :=
  have q1 : OpW [.row [[.p (.int .i64 k), .p (.int .i64 n), .p (.str s), .p (.sl (rowsV is)), .p (.sl (rowsN ns))]]] (.indexAddr 5 (.const (.p (.sl (rowsV is)))) (.const (.p (.int .i64 (i : Int))))) (.pin [.int .i64 ke, .int .i64 ne, .str se, .sl (rowsV ise), .sl (rowsN nse)] 0) [.row [[.p (.int .i64 k), .p (.int .i64 n), .p (.str s), .p (.sl (rowsV is)), .p (.sl (rowsN ns))]]] := (opIs_idxE rfl rfl (rowsV_get h2) rfl)
  LoopAt.on (N := 100) (os := [(5, .b true), (3, oO q1), (1, oC h3), (4, .b false)]) (ps := [_, _, _, _]) (by kernel_rfl) ⟨cI c1, q1, h3, cI c4, trivial⟩ hr
theorem rDwpR_n {k n : Int} {s : List UInt8} {is : List Val} {ns : List (List UInt8)} {i : Nat} {m : Int} (c1 : (decide ((i : Int) < ((List.length (rowsV is) : Nat) : Int))) = false) :
    LoopN lp 0 (loopNo lf52 0) (tl 0 25 [(1, .ptr 0 0 0), (3, .p (.int .i64 m)), (4, .p (.int .i64 (i : Int)))]) [.row [[.p (.int .i64 k), .p (.int .i64 n), .p (.str s), .p (.sl (rowsV is)), .p (.sl (rowsN ns))]]] (.exit 0, (tl 0 25 [(3, .p (.int .i64 m))]), [.row [[.p (.int .i64 k), .p (.int .i64 n), .p (.str s), .p (.sl (rowsV is)), .p (.sl (rowsN ns))]]]) :=
  LoopAt.out (N := 100) (os := [(5, .b false)]) (ps := [_]) (by kernel_rfl) (by kernel_rfl) ⟨cI c1, trivial⟩
theorem rDwp0 {k n : Int} {s : List UInt8} {is : List Val} {ns : List (List UInt8)} (w1 : LoopN lp 0 (loopNo lf52 0) (tl 0 25 [(1, .ptr 0 0 0), (3, .p (.int .i64 0)), (4, .p (.int .i64 0))]) [.row [[.p (.int .i64 k), .p (.int .i64 n), .p (.str s), .p (.sl (rowsV is)), .p (.sl (rowsN ns))]]] (.exit 0, (tl 0 25 [(3, .p (.int .i64 (depthLW is)))]), [.row [[.p (.int .i64 k), .p (.int .i64 n), .p (.str s), .p (.sl (rowsV is)), .p (.sl (rowsN ns))]]])) :
    Runs lp 52 [.agg [.p (.int .i64 k), .p (.int .i64 n), .p (.str s), .p (.sl (rowsV is)), .p (.sl (rowsN ns))]] [] ((.p (.int .i64 (IntKind.wrap .i64 ((depthLW is) + 1))), [])) := by
  exact
    runO_sound (N := 100) (os := [(4, oL w1)]) (ps := [_]) (by kernel_rfl) ⟨w1, trivial⟩
theorem vCkw0 {k n : Int} {s : List UInt8} {is : List Val} {ns : List (List UInt8)} (w1 : Runs lp 57 [.agg [.p (.int .i64 k), .p (.int .i64 n), .p (.str s), .p (.sl (rowsV is)), .p (.sl (rowsN ns))]] [] (.p (.bool (mayV (Val.mk k n s is ns))), [])) (w2 : (mayV (Val.mk k n s is ns)) = true → Runs lp 58 [.agg [.p (.int .i64 k), .p (.int .i64 n), .p (.str s), .p (.sl (rowsV is)), .p (.sl (rowsN ns))]] [] (.p (.int .i64 (depthW (Val.mk k n s is ns))), [])) (w3 : (mayV (Val.mk k n s is ns)) = true → (decide ((depthW (Val.mk k n s is ns)) > 8)) = false → Runs lp 59 [.agg [.p (.int .i64 k), .p (.int .i64 n), .p (.str s), .p (.sl (rowsV is)), .p (.sl (rowsN ns))]] [] (.p (.int .i64 (sizeW (Val.mk k n s is ns))), [])) :
    Runs lp 26 [.agg [.p (.int .i64 k), .p (.int .i64 n), .p (.str s), .p (.sl (rowsV is)), .p (.sl (rowsN ns))]] [] (if (mayV (Val.mk k n s is ns)) = true then (if (decide ((depthW (Val.mk k n s is ns)) > 8)) = true then ((.p (.int .i64 21), [])) else (if (decide ((sizeW (Val.mk k n s is ns)) > 4096)) = true then ((.p (.int .i64 22), [])) else ((.p (.int .i64 0), [])))) else ((.p (.int .i64 20), []))) := by
  by_cases k1 : (mayV (Val.mk k n s is ns)) = true
  · refine iteRP k1 ?_
    by_cases k2 : (decide ((depthW (Val.mk k n s is ns)) > 8)) = true
    · refine iteRP k2 ?_
      exact
        runO_sound (N := 100) (os := [(3, oC w1), (2, .b false), (1, oC (w2 k1)), (2, .b true)]) (ps := [_, _, _, _]) (by kernel_rfl) ⟨w1, (cI (notI k1)), (w2 k1), cI k2, trivial⟩
    · refine iteRN k2 ?_
      replace k2 := Bool.eq_false_iff.2 k2
      by_cases k3 : (decide ((sizeW (Val.mk k n s is ns)) > 4096)) = true
      · refine iteRP k3 ?_
        exact
          runO_sound (N := 100) (os := [(3, oC w1), (2, .b false), (1, oC (w2 k1)), (2, .b false), (1, oC (w3 k1 k2)), (2, .b true)]) (ps := [_, _, _, _, _, _]) (by kernel_rfl) ⟨w1, (cI (notI k1)), (w2 k1), cI k2, (w3 k1 k2), cI k3, trivial⟩
      · refine iteRN k3 ?_
        replace k3 := Bool.eq_false_iff.2 k3
        exact
          runO_sound (N := 100) (os := [(3, oC w1), (2, .b false), (1, oC (w2 k1)), (2, .b false), (1, oC (w3 k1 k2)), (2, .b false)]) (ps := [_, _, _, _, _, _]) (by kernel_rfl) ⟨w1, (cI (notI k1)), (w2 k1), cI k2, (w3 k1 k2), cI k3, trivial⟩
  · refine iteRN k1 ?_
    replace k1 := Bool.eq_false_iff.2 k1
    exact
      runO_sound (N := 100) (os := [(3, oC w1), (2, .b true)]) (ps := [_, _]) (by kernel_rfl) ⟨w1, (cI (notI k1)), trivial⟩
theorem rCkw0 {k n : Int} {s : List UInt8} {is : List Val} {ns : List (List UInt8)} (w1 : Runs lp 51 [.agg [.p (.int .i64 k), .p (.int .i64 n), .p (.str s), .p (.sl (rowsV is)), .p (.sl (rowsN ns))]] [] (.p (.bool (mayV (Val.mk k n s is ns))), [])) (w2 : (mayV (Val.mk k n s is ns)) = true → Runs lp 52 [.agg [.p (.int .i64 k), .p (.int .i64 n), .p (.str s), .p (.sl (rowsV is)), .p (.sl (rowsN ns))]] [] (.p (.int .i64 (depthW (Val.mk k n s is ns))), [])) (w3 : (mayV (Val.mk k n s is ns)) = true → (decide ((depthW (Val.mk k n s is ns)) > 8)) = false → Runs lp 53 [.agg [.p (.int .i64 k), .p (.int .i64 n), .p (.str s), .p (.sl (rowsV is)), .p (.sl (rowsN ns))]] [] (.p (.int .i64 (sizeW (Val.mk k n s is ns))), [])) :
    Runs lp 23 [.agg [.p (.int .i64 k), .p (.int .i64 n), .p (.str s), .p (.sl (rowsV is)), .p (.sl (rowsN ns))]] [] (if (mayV (Val.mk k n s is ns)) = true then (if (decide ((depthW (Val.mk k n s is ns)) > 8)) = true then ((.p (.int .i64 21), [])) else (if (decide ((sizeW (Val.mk k n s is ns)) > 4096)) = true then ((.p (.int .i64 22), [])) else ((.p (.int .i64 0), [])))) else ((.p (.int .i64 20), []))) := by
  by_cases k1 : (mayV (Val.mk k n s is ns)) = true
  · refine iteRP k1 ?_
    by_cases k2 : (decide ((depthW (Val.mk k n s is ns)) > 8)) = true
    · refine iteRP k2 ?_
      exact
        runO_sound (N := 100) (os := [(3, oC w1), (2, .b false), (1, oC (w2 k1)), (2, .b true)]) (ps := [_, _, _, _]) (by kernel_rfl) ⟨w1, (cI (notI k1)), (w2 k1), cI k2, trivial⟩
    · refine iteRN k2 ?_
      replace k2 := Bool.eq_false_iff.2 k2
      by_cases k3 : (decide ((sizeW (Val.mk k n s is ns)) > 4096)) = true
      · refine iteRP k3 ?_
        exact
          runO_sound (N := 100) (os := [(3, oC w1), (2, .b false), (1, oC (w2 k1)), (2, .b false), (1, oC (w3 k1 k2)), (2, .b true)]) (ps := [_, _, _, _, _, _]) (by kernel_rfl) ⟨w1, (cI (notI k1)), (w2 k1), cI k2, (w3 k1 k2), cI k3, trivial⟩
      · refine iteRN k3 ?_
        replace k3 := Bool.eq_false_iff.2 k3
        exact
          runO_sound (N := 100) (os := [(3, oC w1), (2, .b false), (1, oC (w2 k1)), (2, .b false), (1, oC (w3 k1 k2)), (2, .b false)]) (ps := [_, _, _, _, _, _]) (by kernel_rfl) ⟨w1, (cI (notI k1)), (w2 k1), cI k2, (w3 k1 k2), cI k3, trivial⟩
  · refine iteRN k1 ?_
    replace k1 := Bool.eq_false_iff.2 k1
    exact
      runO_sound (N := 100) (os := [(3, oC w1), (2, .b true)]) (ps := [_, _]) (by kernel_rfl) ⟨w1, (cI (notI k1)), trivial⟩
end Go.Proofs.Ytegboccilfofmaa
