import Derived.Test.YtmbjojnldbeicaaLsVal1
set_option linter.unusedVariables false
set_option linter.unusedSimpArgs false
set_option maxRecDepth 100000
namespace Go.Proofs.Ytmbjojnldbeicaa
open Go Go.LS
theorem vDepR_y {is : List Val} {i : Nat} {m : Int} (ke ne : Int) (se : List UInt8) (ise : List Val) (nse : List (List UInt8)) (c1 : (decide ((i : Int) < ((List.length (rowsV is) : Nat) : Int))) = true) (h2 : is[i]? = some (Val.mk ke ne se ise nse)) (h3 : Runs lp 53 [.agg [.p (.int .i64 ke), .p (.int .i64 ne), .p (.str se), .p (.sl (rowsV ise)), .p (.sl (rowsN nse))]] [] (.p (.int .i64 (depthV (Val.mk ke ne se ise nse))), [])) {r : LOut × List LV × List LObj} (hr : LoopN lp 0 (loopNo lf53 0) (tl 0 20 [(3, .p (.int .i64 (if (depthV (Val.mk ke ne se ise nse)) > m then (depthV (Val.mk ke ne se ise nse)) else m))), (7, .p (.sl (rowsV is))), (8, .p (.int .i64 ((List.length (rowsV is) : Nat) : Int))), (9, .p (.int .i64 (IntKind.wrap .i64 ((i : Int) + 1))))]) [] r) :
    LoopN lp 0 (loopNo lf53 0) (tl 0 20 [(3, .p (.int .i64 m)), (7, .p (.sl (rowsV is))), (8, .p (.int .i64 ((List.length (rowsV is) : Nat) : Int))), (9, .p (.int .i64 (i : Int)))]) [] r :=
  have q1 : OpW [] (.indexAddr 5 (.const (.p (.sl (rowsV is)))) (.const (.p (.int .i64 (i : Int))))) (.pin [.int .i64 ke, .int .i64 ne, .str se, .sl (rowsV ise), .sl (rowsN nse)] 0) [] := (opIs_idxE rfl rfl (rowsV_get h2) rfl)
  LoopAt.on (N := 100) (os := [(1, .b true), (0, oO q1), (5, oC h3)]) (ps := [_, _, _]) (by kernel_rfl) ⟨cI c1, q1, h3, trivial⟩ hr
theorem vDepR_n {is : List Val} {i : Nat} {m : Int} (c1 : (decide ((i : Int) < ((List.length (rowsV is) : Nat) : Int))) = false) :
    LoopN lp 0 (loopNo lf53 0) (tl 0 20 [(3, .p (.int .i64 m)), (7, .p (.sl (rowsV is))), (8, .p (.int .i64 ((List.length (rowsV is) : Nat) : Int))), (9, .p (.int .i64 (i : Int)))]) [] (.exit 0, (tl 0 20 [(3, .p (.int .i64 m))]), []) :=
  LoopAt.out (N := 100) (os := [(1, .b false)]) (ps := [_]) (by kernel_rfl) (by kernel_rfl) ⟨cI c1, trivial⟩
theorem vDep0 {k n : Int} {s : List UInt8} {is : List Val} {ns : List (List UInt8)} (w1 : LoopN lp 0 (loopNo lf53 0) (tl 0 20 [(3, .p (.int .i64 0)), (7, .p (.sl (rowsV is))), (8, .p (.int .i64 ((List.length (rowsV is) : Nat) : Int))), (9, .p (.int .i64 0))]) [] (.exit 0, (tl 0 20 [(3, .p (.int .i64 (depthL is)))]), [])) :
    Runs lp 53 [.agg [.p (.int .i64 k), .p (.int .i64 n), .p (.str s), .p (.sl (rowsV is)), .p (.sl (rowsN ns))]] [] ((.p (.int .i64 (IntKind.wrap .i64 ((depthL is) + 1))), [])) := by
  exact
    runO_sound (N := 100) (os := [(7, oL w1)]) (ps := [_]) (by kernel_rfl) ⟨w1, trivial⟩
theorem rDepR_yy {k n : Int} {s : List UInt8} {is : List Val} {ns : List (List UInt8)} {i : Nat} {m : Int} (ke ne : Int) (se : List UInt8) (ise : List Val) (nse : List (List UInt8)) (c1 : (decide ((i : Int) < ((List.length (rowsV is) : Nat) : Int))) = true) (h2 : is[i]? = some (Val.mk ke ne se ise nse)) (h3 : Runs lp 50 [.agg [.p (.int .i64 ke), .p (.int .i64 ne), .p (.str se), .p (.sl (rowsV ise)), .p (.sl (rowsN nse))]] [] (.p (.int .i64 (depthV (Val.mk ke ne se ise nse))), [])) (c4 : (decide ((depthV (Val.mk ke ne se ise nse)) > m)) = true) {r : LOut × List LV × List LObj} (hr : LoopN lp 0 (loopNo lf50 0) (tl 0 25 [(1, .ptr 0 0 0), (3, .p (.int .i64 (depthV (Val.mk ke ne se ise nse)))), (4, .p (.int .i64 (IntKind.wrap .i64 ((i : Int) + 1))))]) [.row [[.p (.int .i64 k), .p (.int .i64 n), .p (.str s), .p (.sl (rowsV is)), .p (.sl (rowsN ns))]]] r) :
    LoopN lp 0 (loopNo lf50 0) (tl 0 25 [(1, .ptr 0 0 0), (3, .p (.int .i64 m)), (4, .p (.int .i64 (i : Int)))]) [.row [[.p (.int .i64 k), .p (.int .i64 n), .p (.str s), .p (.sl (rowsV is)), .p (.sl (rowsN ns))]]] r :=
  have q1 : OpW [.row [[.p (.int .i64 k), .p (.int .i64 n), .p (.str s), .p (.sl (rowsV is)), .p (.sl (rowsN ns))]]] (.indexAddr 5 (.const (.p (.sl (rowsV is)))) (.const (.p (.int .i64 (i : Int))))) (.pin [.int .i64 ke, .int .i64 ne, .str se, .sl (rowsV ise), .sl (rowsN nse)] 0) [.row [[.p (.int .i64 k), .p (.int .i64 n), .p (.str s), .p (.sl (rowsV is)), .p (.sl (rowsN ns))]]] := (opIs_idxE rfl rfl (rowsV_get h2) rfl)
  LoopAt.on (N := 100) (os := [(5, .b true), (3, oO q1), (1, oC h3), (4, .b true)]) (ps := [_, _, _, _]) (by kernel_rfl) ⟨cI c1, q1, h3, cI c4, trivial⟩ hr
theorem rDepR_yn {k n : Int} {s : List UInt8} {is : List Val} {ns : List (List UInt8)} {i : Nat} {m : Int} (ke ne : Int) (se : List UInt8) (ise : List Val) (nse : List (List UInt8)) (c1 : (decide ((i : Int) < ((List.length (rowsV is) : Nat) : Int))) = true) (h2 : is[i]? = some (Val.mk ke ne se ise nse)) (h3 : Runs lp 50 [.agg [.p (.int .i64 ke), .p (.int .i64 ne), .p (.str se), .p (.sl (rowsV ise)), .p (.sl (rowsN nse))]] [] (.p (.int .i64 (depthV (Val.mk ke ne se ise nse))), [])) (c4 : (decide ((depthV (Val.mk ke ne se ise nse)) > m)) = false) {r : LOut × List LV × List LObj} (hr : LoopN lp 0 (loopNo lf50 0) (tl 0 25 [(1, .ptr 0 0 0), (3, .p (.int .i64 m)), (4, .p (.int .i64 (IntKind.wrap .i64 ((i : Int) + 1))))]) [.row [[.p (.int .i64 k), .p (.int .i64 n), .p (.str s), .p (.sl (rowsV is)), .p (.sl (rowsN ns))]]] r) :
    LoopN lp 0 (loopNo lf50 0) (tl 0 25 [(1, .ptr 0 0 0), (3, .p (.int .i64 m)), (4, .p (.int .i64 (i : Int)))]) [.row [[.p (.int .i64 k), .p (.int .i64 n), .p (.str s), .p (.sl (rowsV is)), .p (.sl (rowsN ns))]]] r :=
  have q1 : OpW [.row [[.p (.int .i64 k), .p (.int .i64 n), .p (.str s), .p (.sl (rowsV is)), .p (.sl (rowsN ns))]]] (.indexAddr 5 (.const (.p (.sl (rowsV is)))) (.const (.p (.int .i64 (i : Int))))) (.pin [.int .i64 ke, .int .i64 ne, .str se, .sl (rowsV ise), .sl (rowsN nse)] 0) [.row [[.p (.int .i64 k), .p (.int .i64 n), .p (.str s), .p (.sl (rowsV is)), .p (.sl (rowsN ns))]]] := (opIs_idxE rfl rfl (rowsV_get h2) rfl)
  LoopAt.on (N := 100) (os := [(5, .b true), (3, oO q1), (1, oC h3), (4, .b false)]) (ps := [_, _, _, _]) (by kernel_rfl) ⟨cI c1, q1, h3, cI c4, trivial⟩ hr
theorem rDepR_n {k n : Int} {s : List UInt8} {is : List Val} {ns : List (List UInt8)} {i : Nat} {m : Int} (c1 : (decide ((i : Int) < ((List.length (rowsV is) : Nat) : Int))) = false) :
    LoopN lp 0 (loopNo lf50 0) (tl 0 25 [(1, .ptr 0 0 0), (3, .p (.int .i64 m)), (4, .p (.int .i64 (i : Int)))]) [.row [[.p (.int .i64 k), .p (.int .i64 n), .p (.str s), .p (.sl (rowsV is)), .p (.sl (rowsN ns))]]] (.exit 0, (tl 0 25 [(3, .p (.int .i64 m))]), [.row [[.p (.int .i64 k), .p (.int .i64 n), .p (.str s), .p (.sl (rowsV is)), .p (.sl (rowsN ns))]]]) :=
  LoopAt.out (N := 100) (os := [(5, .b false)]) (ps := [_]) (by kernel_rfl) (by kernel_rfl) ⟨cI c1, trivial⟩
theorem rDep0 {k n : Int} {s : List UInt8} {is : List Val} {ns : List (List UInt8)} (w1 : LoopN lp 0 (loopNo lf50 0) (tl 0 25 [(1, .ptr 0 0 0), (3, .p (.int .i64 0)), (4, .p (.int .i64 0))]) [.row [[.p (.int .i64 k), .p (.int .i64 n), .p (.str s), .p (.sl (rowsV is)), .p (.sl (rowsN ns))]]] (.exit 0, (tl 0 25 [(3, .p (.int .i64 (depthL is)))]), [.row [[.p (.int .i64 k), .p (.int .i64 n), .p (.str s), .p (.sl (rowsV is)), .p (.sl (rowsN ns))]]])) :
    Runs lp 50 [.agg [.p (.int .i64 k), .p (.int .i64 n), .p (.str s), .p (.sl (rowsV is)), .p (.sl (rowsN ns))]] [] ((.p (.int .i64 (IntKind.wrap .i64 ((depthL is) + 1))), [])) := by
  exact
    runO_sound (N := 100) (os := [(4, oL w1)]) (ps := [_]) (by kernel_rfl) ⟨w1, trivial⟩
theorem vCount0 {j : Nat} (w1 : Runs lp 36 [.p (.int .i64 (j : Int))] [] (.tup [.sl (bs (vcode j)) 0 (List.length (vcode j)), .p (.int .i64 0)], [.spare 1 (List.length (vcode j))])) :
    Runs lp 75 [.p (.int .i64 (j : Int))] [] ((.p (.int .i64 ((List.length (bs (vcode j)) : Nat) : Int)), [])) := by
  exact
    runO_sound (N := 100) (os := [(2, oC w1)]) (ps := [_]) (by kernel_rfl) ⟨w1, trivial⟩
theorem vText0 {s : List UInt8} (w1 : Runs lp 75 [.p (.int .i64 ((List.length s : Nat) : Int))] [] (.p (.int .i64 (clenN (List.length s))), [])) :
    Runs lp 74 [.p (.str s)] [] ((.p (.int .i64 (IntKind.wrap .i64 ((clenN (List.length s)) + ((List.length s : Nat) : Int)))), [])) := by
  exact
    runO_sound (N := 100) (os := [(3, oC w1)]) (ps := [_]) (by kernel_rfl) ⟨w1, trivial⟩
theorem vSizI_y {k n : Int} {s : List UInt8} {is : List Val} {ns : List (List UInt8)} {i : Nat} {m : Int} (ke ne : Int) (se : List UInt8) (ise : List Val) (nse : List (List UInt8)) (c1 : (decide ((i : Int) < ((List.length (rowsV is) : Nat) : Int))) = true) (h2 : is[i]? = some (Val.mk ke ne se ise nse)) (h3 : Runs lp 54 [.agg [.p (.int .i64 ke), .p (.int .i64 ne), .p (.str se), .p (.sl (rowsV ise)), .p (.sl (rowsN nse))]] [] (.p (.int .i64 (sizeW (Val.mk ke ne se ise nse))), [])) {r : LOut × List LV × List LObj} (hr : LoopN lp 0 (loopNo lf54 0) (tl 0 58 [(1, .ptr 0 0 0), (3, .p (.int .i64 (IntKind.wrap .i64 (m + (sizeW (Val.mk ke ne se ise nse)))))), (34, .p (.sl (rowsV is))), (35, .p (.int .i64 ((List.length (rowsV is) : Nat) : Int))), (36, .p (.int .i64 (IntKind.wrap .i64 ((i : Int) + 1))))]) [.row [[.p (.int .i64 k), .p (.int .i64 n), .p (.str s), .p (.sl (rowsV is)), .p (.sl (rowsN ns))]]] r) :
    LoopN lp 0 (loopNo lf54 0) (tl 0 58 [(1, .ptr 0 0 0), (3, .p (.int .i64 m)), (34, .p (.sl (rowsV is))), (35, .p (.int .i64 ((List.length (rowsV is) : Nat) : Int))), (36, .p (.int .i64 (i : Int)))]) [.row [[.p (.int .i64 k), .p (.int .i64 n), .p (.str s), .p (.sl (rowsV is)), .p (.sl (rowsN ns))]]] r :=
  have q1 : OpW [.row [[.p (.int .i64 k), .p (.int .i64 n), .p (.str s), .p (.sl (rowsV is)), .p (.sl (rowsN ns))]]] (.indexAddr 5 (.const (.p (.sl (rowsV is)))) (.const (.p (.int .i64 (i : Int))))) (.pin [.int .i64 ke, .int .i64 ne, .str se, .sl (rowsV ise), .sl (rowsN nse)] 0) [.row [[.p (.int .i64 k), .p (.int .i64 n), .p (.str s), .p (.sl (rowsV is)), .p (.sl (rowsN ns))]]] := (opIs_idxE rfl rfl (rowsV_get h2) rfl)
  LoopAt.on (N := 100) (os := [(1, .b true), (0, oO q1), (5, oC h3)]) (ps := [_, _, _]) (by kernel_rfl) ⟨cI c1, q1, h3, trivial⟩ hr
theorem vSizI_n {k n : Int} {s : List UInt8} {is : List Val} {ns : List (List UInt8)} {i : Nat} {m : Int} (c1 : (decide ((i : Int) < ((List.length (rowsV is) : Nat) : Int))) = false) :
    LoopN lp 0 (loopNo lf54 0) (tl 0 58 [(1, .ptr 0 0 0), (3, .p (.int .i64 m)), (34, .p (.sl (rowsV is))), (35, .p (.int .i64 ((List.length (rowsV is) : Nat) : Int))), (36, .p (.int .i64 (i : Int)))]) [.row [[.p (.int .i64 k), .p (.int .i64 n), .p (.str s), .p (.sl (rowsV is)), .p (.sl (rowsN ns))]]] (.exit 1, (tl 0 58 [(1, .ptr 0 0 0), (3, .p (.int .i64 m))]), [.row [[.p (.int .i64 k), .p (.int .i64 n), .p (.str s), .p (.sl (rowsV is)), .p (.sl (rowsN ns))]]]) :=
  LoopAt.out (N := 100) (os := [(1, .b false)]) (ps := [_]) (by kernel_rfl) (by kernel_rfl) ⟨cI c1, trivial⟩
theorem vSizN_y {ns : List (List UInt8)} {i : Nat} {m : Int} (c1 : (decide ((i : Int) < ((List.length (rowsN ns) : Nat) : Int))) = true) (h2 : i < List.length (α := List UInt8) ns) (h3 : Runs lp 74 [.p (.str (List.getD (α := List UInt8) ns i []))] [] (.p (.int .i64 (IntKind.wrap .i64 (tlenN (List.getD (α := List UInt8) ns i [])))), [])) {r : LOut × List LV × List LObj} (hr : LoopN lp 0 (loopNo lf54 1) (tl 0 58 [(3, .p (.int .i64 (IntKind.wrap .i64 (m + (IntKind.wrap .i64 (tlenN (List.getD (α := List UInt8) ns i []))))))), (46, .p (.sl (rowsN ns))), (47, .p (.int .i64 ((List.length (rowsN ns) : Nat) : Int))), (48, .p (.int .i64 (IntKind.wrap .i64 ((i : Int) + 1))))]) [] r) :
    LoopN lp 0 (loopNo lf54 1) (tl 0 58 [(3, .p (.int .i64 m)), (46, .p (.sl (rowsN ns))), (47, .p (.int .i64 ((List.length (rowsN ns) : Nat) : Int))), (48, .p (.int .i64 (i : Int)))]) [] r :=
  have q1 : OpW [] (.indexAddr 1 (.const (.p (.sl (rowsN ns)))) (.const (.p (.int .i64 (i : Int))))) (.pin [.str (List.getD (α := List UInt8) ns i [])] 0) [] := (opIs_idxE rfl rfl (rowsN_get h2) rfl)
  LoopAt.on (N := 100) (os := [(1, .b true), (0, oO q1), (4, oC h3)]) (ps := [_, _, _]) (by kernel_rfl) ⟨cI c1, q1, h3, trivial⟩ hr
theorem vSizN_n {ns : List (List UInt8)} {i : Nat} {m : Int} (c1 : (decide ((i : Int) < ((List.length (rowsN ns) : Nat) : Int))) = false) :
    LoopN lp 0 (loopNo lf54 1) (tl 0 58 [(3, .p (.int .i64 m)), (46, .p (.sl (rowsN ns))), (47, .p (.int .i64 ((List.length (rowsN ns) : Nat) : Int))), (48, .p (.int .i64 (i : Int)))]) [] (.exit 3, (tl 0 58 [(3, .p (.int .i64 m))]), []) :=
  LoopAt.out (N := 100) (os := [(1, .b false)]) (ps := [_]) (by kernel_rfl) (by kernel_rfl) ⟨cI c1, trivial⟩
theorem vSiz0 {k n : Int} {s : List UInt8} {is : List Val} {ns : List (List UInt8)} {m1 m2 : Int} (w1 : (k == 1) = false → (k == 2) = false → (k == 3) = true → Runs lp 73 [.p (.int .i64 n)] [] (.sl (bs (vcode (zz n))) 0 (List.length (vcode (zz n))), [.spare 1 (List.length (vcode (zz n)))])) (w2 : (k == 1) = false → (k == 2) = false → (k == 3) = false → (k == 4) = true → Runs lp 74 [.p (.str s)] [] (.p (.int .i64 (IntKind.wrap .i64 (tlenN s))), [])) (w3 : (k == 1) = false → (k == 2) = false → (k == 3) = false → (k == 4) = false → (k == 5) = true → Runs lp 74 [.p (.str s)] [] (.p (.int .i64 (IntKind.wrap .i64 (tlenN s))), [])) (w4 : (k == 1) = false → (k == 2) = false → (k == 3) = false → (k == 4) = false → (k == 5) = false → Runs lp 75 [.p (.int .i64 ((List.length (rowsV is) : Nat) : Int))] [] (.p (.int .i64 (clenN (List.length (rowsV is)))), [])) (w5 : (k == 1) = false → (k == 2) = false → (k == 3) = false → (k == 4) = false → (k == 5) = false → LoopN lp 0 (loopNo lf54 0) (tl 0 58 [(1, .ptr 0 0 0), (3, .p (.int .i64 (IntKind.wrap .i64 (1 + (clenN (List.length (rowsV is))))))), (34, .p (.sl (rowsV is))), (35, .p (.int .i64 ((List.length (rowsV is) : Nat) : Int))), (36, .p (.int .i64 0))]) [.row [[.p (.int .i64 k), .p (.int .i64 n), .p (.str s), .p (.sl (rowsV is)), .p (.sl (rowsN ns))]]] (.exit 1, (tl 0 58 [(1, .ptr 0 0 0), (3, .p (.int .i64 m1))]), [.row [[.p (.int .i64 k), .p (.int .i64 n), .p (.str s), .p (.sl (rowsV is)), .p (.sl (rowsN ns))]]])) (w6 : (k == 1) = false → (k == 2) = false → (k == 3) = false → (k == 4) = false → (k == 5) = false → LoopN lp 0 (loopNo lf54 1) (tl 0 58 [(3, .p (.int .i64 m1)), (46, .p (.sl (rowsN ns))), (47, .p (.int .i64 ((List.length (rowsN ns) : Nat) : Int))), (48, .p (.int .i64 0))]) [] (.exit 3, (tl 0 58 [(3, .p (.int .i64 m2))]), [])) :
    Runs lp 54 [.agg [.p (.int .i64 k), .p (.int .i64 n), .p (.str s), .p (.sl (rowsV is)), .p (.sl (rowsN ns))]] [] (if (k == 1) = true then ((.p (.int .i64 1), [])) else (if (k == 2) = true then ((.p (.int .i64 2), [])) else (if (k == 3) = true then ((.p (.int .i64 (IntKind.wrap .i64 (1 + ((List.length (bs (vcode (zz n))) : Nat) : Int)))), [])) else (if (k == 4) = true then ((.p (.int .i64 (IntKind.wrap .i64 (1 + (IntKind.wrap .i64 (tlenN s))))), [])) else (if (k == 5) = true then ((.p (.int .i64 (IntKind.wrap .i64 (1 + (IntKind.wrap .i64 (tlenN s))))), [])) else ((.p (.int .i64 m2), []))))))) := by
  by_cases k1 : (k == 1) = true
  · refine iteRP k1 ?_
    exact
      runO_sound (N := 100) (os := [(6, .b true)]) (ps := [_]) (by kernel_rfl) ⟨cI k1, trivial⟩
  · refine iteRN k1 ?_
    replace k1 := Bool.eq_false_iff.2 k1
    by_cases k2 : (k == 2) = true
    · refine iteRP k2 ?_
      exact
        runO_sound (N := 100) (os := [(6, .b false), (2, .b true)]) (ps := [_, _]) (by kernel_rfl) ⟨cI k1, cI k2, trivial⟩
    · refine iteRN k2 ?_
      replace k2 := Bool.eq_false_iff.2 k2
      by_cases k3 : (k == 3) = true
      · refine iteRP k3 ?_
        exact
          runO_sound (N := 100) (os := [(6, .b false), (2, .b false), (2, .b true), (2, oC (w1 k1 k2 k3))]) (ps := [_, _, _, _]) (by kernel_rfl) ⟨cI k1, cI k2, cI k3, (w1 k1 k2 k3), trivial⟩
      · refine iteRN k3 ?_
        replace k3 := Bool.eq_false_iff.2 k3
        by_cases k4 : (k == 4) = true
        · refine iteRP k4 ?_
          exact
            runO_sound (N := 100) (os := [(6, .b false), (2, .b false), (2, .b false), (2, .b true), (0, .b true), (2, oC (w2 k1 k2 k3 k4))]) (ps := [_, _, _, _, _, _]) (by kernel_rfl) ⟨cI k1, cI k2, cI k3, cI k4, cI k4, (w2 k1 k2 k3 k4), trivial⟩
        · refine iteRN k4 ?_
          replace k4 := Bool.eq_false_iff.2 k4
          by_cases k5 : (k == 5) = true
          · refine iteRP k5 ?_
            exact
              runO_sound (N := 100) (os := [(6, .b false), (2, .b false), (2, .b false), (2, .b false), (2, .b true), (2, oC (w3 k1 k2 k3 k4 k5))]) (ps := [_, _, _, _, _, _]) (by kernel_rfl) ⟨cI k1, cI k2, cI k3, cI k4, cI k5, (w3 k1 k2 k3 k4 k5), trivial⟩
          · refine iteRN k5 ?_
            replace k5 := Bool.eq_false_iff.2 k5
            exact
              runO_sound (N := 100) (os := [(6, .b false), (2, .b false), (2, .b false), (2, .b false), (2, .b false), (3, oC (w4 k1 k2 k3 k4 k5)), (6, oL (w5 k1 k2 k3 k4 k5)), (4, oL (w6 k1 k2 k3 k4 k5))]) (ps := [_, _, _, _, _, _, _, _]) (by kernel_rfl) ⟨cI k1, cI k2, cI k3, cI k4, cI k5, (w4 k1 k2 k3 k4 k5), (w5 k1 k2 k3 k4 k5), (w6 k1 k2 k3 k4 k5), trivial⟩
theorem rSizR_yy {k n : Int} {s : List UInt8} {is : List Val} {ns : List (List UInt8)} {i : Nat} {m : Int} (ke ne : Int) (se : List UInt8) (ise : List Val) (nse : List (List UInt8)) (c1 : (decide ((i : Int) < ((List.length (rowsV is) : Nat) : Int))) = true) (h2 : is[i]? = some (Val.mk ke ne se ise nse)) (h3 : Runs lp 51 [.agg [.p (.int .i64 ke), .p (.int .i64 ne), .p (.str se), .p (.sl (rowsV ise)), .p (.sl (rowsN nse))]] [] (.p (.int .i64 (sizeW (Val.mk ke ne se ise nse))), [])) (c4 : (k == 7) = true) (h5 : i < List.length (α := List UInt8) ns) (h6 : Runs lp 65 [.p (.str (List.getD (α := List UInt8) ns i []))] [] (.sl (bs (vcode (List.length (List.getD (α := List UInt8) ns i [])) ++ (List.getD (α := List UInt8) ns i []))) 0 (List.length (vcode (List.length (List.getD (α := List UInt8) ns i [])) ++ (List.getD (α := List UInt8) ns i []))), [.spare 1 (List.length (vcode (List.length (List.getD (α := List UInt8) ns i [])) ++ (List.getD (α := List UInt8) ns i [])))])) {r : LOut × List LV × List LObj} (hr : LoopN lp 0 (loopNo lf51 0) (tl 0 62 [(1, .ptr 0 0 0), (3, .p (.int .i64 (IntKind.wrap .i64 ((IntKind.wrap .i64 (m + (sizeW (Val.mk ke ne se ise nse)))) + ((List.length (bs (vcode (List.length (List.getD (α := List UInt8) ns i [])) ++ (List.getD (α := List UInt8) ns i []))) : Nat) : Int))))), (4, .p (.int .i64 (IntKind.wrap .i64 ((i : Int) + 1))))]) [.row [[.p (.int .i64 k), .p (.int .i64 n), .p (.str s), .p (.sl (rowsV is)), .p (.sl (rowsN ns))]]] r) :
    LoopN lp 0 (loopNo lf51 0) (tl 0 62 [(1, .ptr 0 0 0), (3, .p (.int .i64 m)), (4, .p (.int .i64 (i : Int)))]) [.row [[.p (.int .i64 k), .p (.int .i64 n), .p (.str s), .p (.sl (rowsV is)), .p (.sl (rowsN ns))]]] r :=
  have q1 : OpW [.row [[.p (.int .i64 k), .p (.int .i64 n), .p (.str s), .p (.sl (rowsV is)), .p (.sl (rowsN ns))]]] (.indexAddr 5 (.const (.p (.sl (rowsV is)))) (.const (.p (.int .i64 (i : Int))))) (.pin [.int .i64 ke, .int .i64 ne, .str se, .sl (rowsV ise), .sl (rowsN nse)] 0) [.row [[.p (.int .i64 k), .p (.int .i64 n), .p (.str s), .p (.sl (rowsV is)), .p (.sl (rowsN ns))]]] := (opIs_idxE rfl rfl (rowsV_get h2) rfl)
  have q2 : OpW [.row [[.p (.int .i64 k), .p (.int .i64 n), .p (.str s), .p (.sl (rowsV is)), .p (.sl (rowsN ns))]]] (.indexAddr 1 (.const (.p (.sl (rowsN ns)))) (.const (.p (.int .i64 (i : Int))))) (.pin [.str (List.getD (α := List UInt8) ns i [])] 0) [.row [[.p (.int .i64 k), .p (.int .i64 n), .p (.str s), .p (.sl (rowsV is)), .p (.sl (rowsN ns))]]] := (opIs_idxE rfl rfl (rowsN_get h5) rfl)
  LoopAt.on (N := 100) (os := [(5, .b true), (4, oO q1), (1, oC h3), (5, .b true), (4, oO q2), (1, oC h6)]) (ps := [_, _, _, _, _, _]) (by kernel_rfl) ⟨cI c1, q1, h3, cI c4, q2, h6, trivial⟩ hr
theorem rSizR_yn {k n : Int} {s : List UInt8} {is : List Val} {ns : List (List UInt8)} {i : Nat} {m : Int} (ke ne : Int) (se : List UInt8) (ise : List Val) (nse : List (List UInt8)) (c1 : (decide ((i : Int) < ((List.length (rowsV is) : Nat) : Int))) = true) (h2 : is[i]? = some (Val.mk ke ne se ise nse)) (h3 : Runs lp 51 [.agg [.p (.int .i64 ke), .p (.int .i64 ne), .p (.str se), .p (.sl (rowsV ise)), .p (.sl (rowsN nse))]] [] (.p (.int .i64 (sizeW (Val.mk ke ne se ise nse))), [])) (c4 : (k == 7) = false) {r : LOut × List LV × List LObj} (hr : LoopN lp 0 (loopNo lf51 0) (tl 0 62 [(1, .ptr 0 0 0), (3, .p (.int .i64 (IntKind.wrap .i64 (m + (sizeW (Val.mk ke ne se ise nse)))))), (4, .p (.int .i64 (IntKind.wrap .i64 ((i : Int) + 1))))]) [.row [[.p (.int .i64 k), .p (.int .i64 n), .p (.str s), .p (.sl (rowsV is)), .p (.sl (rowsN ns))]]] r) :
    LoopN lp 0 (loopNo lf51 0) (tl 0 62 [(1, .ptr 0 0 0), (3, .p (.int .i64 m)), (4, .p (.int .i64 (i : Int)))]) [.row [[.p (.int .i64 k), .p (.int .i64 n), .p (.str s), .p (.sl (rowsV is)), .p (.sl (rowsN ns))]]] r :=
  have q1 : OpW [.row [[.p (.int .i64 k), .p (.int .i64 n), .p (.str s), .p (.sl (rowsV is)), .p (.sl (rowsN ns))]]] (.indexAddr 5 (.const (.p (.sl (rowsV is)))) (.const (.p (.int .i64 (i : Int))))) (.pin [.int .i64 ke, .int .i64 ne, .str se, .sl (rowsV ise), .sl (rowsN nse)] 0) [.row [[.p (.int .i64 k), .p (.int .i64 n), .p (.str s), .p (.sl (rowsV is)), .p (.sl (rowsN ns))]]] := (opIs_idxE rfl rfl (rowsV_get h2) rfl)
  LoopAt.on (N := 100) (os := [(5, .b true), (4, oO q1), (1, oC h3), (5, .b false)]) (ps := [_, _, _, _]) (by kernel_rfl) ⟨cI c1, q1, h3, cI c4, trivial⟩ hr
theorem rSizR_n {k n : Int} {s : List UInt8} {is : List Val} {ns : List (List UInt8)} {i : Nat} {m : Int} (c1 : (decide ((i : Int) < ((List.length (rowsV is) : Nat) : Int))) = false) :
    LoopN lp 0 (loopNo lf51 0) (tl 0 62 [(1, .ptr 0 0 0), (3, .p (.int .i64 m)), (4, .p (.int .i64 (i : Int)))]) [.row [[.p (.int .i64 k), .p (.int .i64 n), .p (.str s), .p (.sl (rowsV is)), .p (.sl (rowsN ns))]]] (.exit 1, (tl 0 62 [(3, .p (.int .i64 m))]), [.row [[.p (.int .i64 k), .p (.int .i64 n), .p (.str s), .p (.sl (rowsV is)), .p (.sl (rowsN ns))]]]) :=
  LoopAt.out (N := 100) (os := [(5, .b false)]) (ps := [_]) (by kernel_rfl) (by kernel_rfl) ⟨cI c1, trivial⟩
theorem rSiz0 {k n : Int} {s : List UInt8} {is : List Val} {ns : List (List UInt8)} {m1 : Int} (w1 : (k == 2) = false → (k == 3) = true → Runs lp 64 [.p (.int .i64 n)] [] (.sl (bs (vcode (zz n))) 0 (List.length (vcode (zz n))), [.spare 1 (List.length (vcode (zz n)))])) (w2 : (k == 2) = false → (k == 3) = false → (k == 4) = true → Runs lp 65 [.p (.str s)] [] (.sl (bs (vcode (List.length s) ++ s)) 0 (List.length (vcode (List.length s) ++ s)), [.spare 1 (List.length (vcode (List.length s) ++ s))])) (w3 : (k == 2) = false → (k == 3) = false → (k == 4) = false → (k == 5) = true → Runs lp 65 [.p (.str s)] [] (.sl (bs (vcode (List.length s) ++ s)) 0 (List.length (vcode (List.length s) ++ s)), [.spare 1 (List.length (vcode (List.length s) ++ s))])) (w4 : (k == 2) = false → (k == 3) = false → (k == 4) = false → (k == 5) = false → (k == 6) = true → Runs lp 43 [.p (.int .i64 ((List.length (rowsV is) : Nat) : Int))] [] (.sl (bs (vcode (List.length (rowsV is)))) 0 (List.length (vcode (List.length (rowsV is)))), [.spare 1 (List.length (vcode (List.length (rowsV is))))])) (w5 : (k == 2) = false → (k == 3) = false → (k == 4) = false → (k == 5) = false → (k == 6) = true → LoopN lp 0 (loopNo lf51 0) (tl 0 62 [(1, .ptr 0 0 0), (3, .p (.int .i64 (IntKind.wrap .i64 (1 + ((List.length (bs (vcode (List.length (rowsV is)))) : Nat) : Int))))), (4, .p (.int .i64 0))]) [.row [[.p (.int .i64 k), .p (.int .i64 n), .p (.str s), .p (.sl (rowsV is)), .p (.sl (rowsN ns))]]] (.exit 1, (tl 0 62 [(3, .p (.int .i64 m1))]), [.row [[.p (.int .i64 k), .p (.int .i64 n), .p (.str s), .p (.sl (rowsV is)), .p (.sl (rowsN ns))]]])) (w6 : (k == 2) = false → (k == 3) = false → (k == 4) = false → (k == 5) = false → (k == 6) = false → (k == 7) = true → Runs lp 43 [.p (.int .i64 ((List.length (rowsV is) : Nat) : Int))] [] (.sl (bs (vcode (List.length (rowsV is)))) 0 (List.length (vcode (List.length (rowsV is)))), [.spare 1 (List.length (vcode (List.length (rowsV is))))])) (w7 : (k == 2) = false → (k == 3) = false → (k == 4) = false → (k == 5) = false → (k == 6) = false → (k == 7) = true → LoopN lp 0 (loopNo lf51 0) (tl 0 62 [(1, .ptr 0 0 0), (3, .p (.int .i64 (IntKind.wrap .i64 (1 + ((List.length (bs (vcode (List.length (rowsV is)))) : Nat) : Int))))), (4, .p (.int .i64 0))]) [.row [[.p (.int .i64 k), .p (.int .i64 n), .p (.str s), .p (.sl (rowsV is)), .p (.sl (rowsN ns))]]] (.exit 1, (tl 0 62 [(3, .p (.int .i64 m1))]), [.row [[.p (.int .i64 k), .p (.int .i64 n), .p (.str s), .p (.sl (rowsV is)), .p (.sl (rowsN ns))]]])) (w8 : (k == 2) = false → (k == 3) = false → (k == 4) = false → (k == 5) = false → (k == 6) = false → (k == 7) = false → LoopN lp 0 (loopNo lf51 0) (tl 0 62 [(1, .ptr 0 0 0), (3, .p (.int .i64 1)), (4, .p (.int .i64 0))]) [.row [[.p (.int .i64 k), .p (.int .i64 n), .p (.str s), .p (.sl (rowsV is)), .p (.sl (rowsN ns))]]] (.exit 1, (tl 0 62 [(3, .p (.int .i64 m1))]), [.row [[.p (.int .i64 k), .p (.int .i64 n), .p (.str s), .p (.sl (rowsV is)), .p (.sl (rowsN ns))]]])) :
    Runs lp 51 [.agg [.p (.int .i64 k), .p (.int .i64 n), .p (.str s), .p (.sl (rowsV is)), .p (.sl (rowsN ns))]] [] (if (k == 2) = true then ((.p (.int .i64 2), [])) else (if (k == 3) = true then ((.p (.int .i64 (IntKind.wrap .i64 (1 + ((List.length (bs (vcode (zz n))) : Nat) : Int)))), [])) else (if (k == 4) = true then ((.p (.int .i64 (IntKind.wrap .i64 (1 + ((List.length (bs (vcode (List.length s) ++ s)) : Nat) : Int)))), [])) else (if (k == 5) = true then ((.p (.int .i64 (IntKind.wrap .i64 (1 + ((List.length (bs (vcode (List.length s) ++ s)) : Nat) : Int)))), [])) else (if (k == 6) = true then ((.p (.int .i64 m1), [])) else (if (k == 7) = true then ((.p (.int .i64 m1), [])) else ((.p (.int .i64 m1), [])))))))) := by
  by_cases k1 : (k == 2) = true
  · refine iteRP k1 ?_
    exact
      runO_sound (N := 100) (os := [(7, .b true)]) (ps := [_]) (by kernel_rfl) ⟨cI k1, trivial⟩
  · refine iteRN k1 ?_
    replace k1 := Bool.eq_false_iff.2 k1
    by_cases k2 : (k == 3) = true
    · refine iteRP k2 ?_
      exact
        runO_sound (N := 100) (os := [(7, .b false), (2, .b true), (2, oC (w1 k1 k2))]) (ps := [_, _, _]) (by kernel_rfl) ⟨cI k1, cI k2, (w1 k1 k2), trivial⟩
    · refine iteRN k2 ?_
      replace k2 := Bool.eq_false_iff.2 k2
      by_cases k3 : (k == 4) = true
      · refine iteRP k3 ?_
        exact
          runO_sound (N := 100) (os := [(7, .b false), (2, .b false), (2, .b true), (0, .b true), (2, oC (w2 k1 k2 k3))]) (ps := [_, _, _, _, _]) (by kernel_rfl) ⟨cI k1, cI k2, cI k3, cI k3, (w2 k1 k2 k3), trivial⟩
      · refine iteRN k3 ?_
        replace k3 := Bool.eq_false_iff.2 k3
        by_cases k4 : (k == 5) = true
        · refine iteRP k4 ?_
          exact
            runO_sound (N := 100) (os := [(7, .b false), (2, .b false), (2, .b false), (2, .b true), (2, oC (w3 k1 k2 k3 k4))]) (ps := [_, _, _, _, _]) (by kernel_rfl) ⟨cI k1, cI k2, cI k3, cI k4, (w3 k1 k2 k3 k4), trivial⟩
        · refine iteRN k4 ?_
          replace k4 := Bool.eq_false_iff.2 k4
          by_cases k5 : (k == 6) = true
          · refine iteRP k5 ?_
            exact
              runO_sound (N := 100) (os := [(7, .b false), (2, .b false), (2, .b false), (2, .b false), (2, .b true), (0, .b true), (4, oC (w4 k1 k2 k3 k4 k5)), (4, oL (w5 k1 k2 k3 k4 k5))]) (ps := [_, _, _, _, _, _, _, _]) (by kernel_rfl) ⟨cI k1, cI k2, cI k3, cI k4, cI k5, cI k5, (w4 k1 k2 k3 k4 k5), (w5 k1 k2 k3 k4 k5), trivial⟩
          · refine iteRN k5 ?_
            replace k5 := Bool.eq_false_iff.2 k5
            by_cases k6 : (k == 7) = true
            · refine iteRP k6 ?_
              exact
                runO_sound (N := 100) (os := [(7, .b false), (2, .b false), (2, .b false), (2, .b false), (2, .b false), (2, .b true), (4, oC (w6 k1 k2 k3 k4 k5 k6)), (4, oL (w7 k1 k2 k3 k4 k5 k6))]) (ps := [_, _, _, _, _, _, _, _]) (by kernel_rfl) ⟨cI k1, cI k2, cI k3, cI k4, cI k5, cI k6, (w6 k1 k2 k3 k4 k5 k6), (w7 k1 k2 k3 k4 k5 k6), trivial⟩
            · refine iteRN k6 ?_
              replace k6 := Bool.eq_false_iff.2 k6
              exact
                runO_sound (N := 100) (os := [(7, .b false), (2, .b false), (2, .b false), (2, .b false), (2, .b false), (2, .b false), (1, oL (w8 k1 k2 k3 k4 k5 k6))]) (ps := [_, _, _, _, _, _, _]) (by kernel_rfl) ⟨cI k1, cI k2, cI k3, cI k4, cI k5, cI k6, (w8 k1 k2 k3 k4 k5 k6), trivial⟩
theorem vCheck0 {k n : Int} {s : List UInt8} {is : List Val} {ns : List (List UInt8)} (w1 : Runs lp 52 [.agg [.p (.int .i64 k), .p (.int .i64 n), .p (.str s), .p (.sl (rowsV is)), .p (.sl (rowsN ns))]] [] (.p (.bool (mayV (Val.mk k n s is ns))), [])) (w2 : (mayV (Val.mk k n s is ns)) = true → Runs lp 53 [.agg [.p (.int .i64 k), .p (.int .i64 n), .p (.str s), .p (.sl (rowsV is)), .p (.sl (rowsN ns))]] [] (.p (.int .i64 (depthV (Val.mk k n s is ns))), [])) (w3 : (mayV (Val.mk k n s is ns)) = true → (decide ((depthV (Val.mk k n s is ns)) > 8)) = false → Runs lp 54 [.agg [.p (.int .i64 k), .p (.int .i64 n), .p (.str s), .p (.sl (rowsV is)), .p (.sl (rowsN ns))]] [] (.p (.int .i64 (sizeW (Val.mk k n s is ns))), [])) :
    Runs lp 33 [.agg [.p (.int .i64 k), .p (.int .i64 n), .p (.str s), .p (.sl (rowsV is)), .p (.sl (rowsN ns))]] [] (if (mayV (Val.mk k n s is ns)) = true then (if (decide ((depthV (Val.mk k n s is ns)) > 8)) = true then ((.p (.int .i64 21), [])) else (if (decide ((sizeW (Val.mk k n s is ns)) > 4096)) = true then ((.p (.int .i64 22), [])) else ((.p (.int .i64 0), [])))) else ((.p (.int .i64 20), []))) := by
  by_cases k1 : (mayV (Val.mk k n s is ns)) = true
  · refine iteRP k1 ?_
    by_cases k2 : (decide ((depthV (Val.mk k n s is ns)) > 8)) = true
    · refine iteRP k2 ?_
      exact
        runO_sound (N := 100) (os := [(3, oC w1), (2, .b false), (1, oC (w2 k1)), (2, .b true)]) (ps := [_, _, _, _]) (by kernel_rfl) ⟨w1, (cI (notI k1)), (w2 k1), cI k2, trivial⟩
    · refine iteRN k2 ?_
      replace k2 := Bool.eq_false_iff.2 k2
      by_cases k3 : (decide ((sizeW (Val.mk k n s is ns)) > 4096)) = true
      · refine iteRP k3 ?_
        exact
          runO_sound (N := 100) (os := [(3, oC w1), (2, .b false), (1, oC (w2 k1)), (2, .b false), (1, oC (w3 k1 k2)), (2, .b true)]) (ps := [_, _, _, _, _, _]) (by kernel_rfl) ⟨w1, (cI (notI k1)), (w2 k1), cI k2, (w3 k1 k2), cI k3, trivial⟩
      · refine iteRN k3 ?_
        replace k3 := Bool.eq_false_iff.2 k3
        exact
          runO_sound (N := 100) (os := [(3, oC w1), (2, .b false), (1, oC (w2 k1)), (2, .b false), (1, oC (w3 k1 k2)), (2, .b false)]) (ps := [_, _, _, _, _, _]) (by kernel_rfl) ⟨w1, (cI (notI k1)), (w2 k1), cI k2, (w3 k1 k2), cI k3, trivial⟩
  · refine iteRN k1 ?_
    replace k1 := Bool.eq_false_iff.2 k1
    exact
      runO_sound (N := 100) (os := [(3, oC w1), (2, .b true)]) (ps := [_, _]) (by kernel_rfl) ⟨w1, (cI (notI k1)), trivial⟩
theorem rCheck0 {k n : Int} {s : List UInt8} {is : List Val} {ns : List (List UInt8)} (w1 : Runs lp 49 [.agg [.p (.int .i64 k), .p (.int .i64 n), .p (.str s), .p (.sl (rowsV is)), .p (.sl (rowsN ns))]] [] (.p (.bool (mayV (Val.mk k n s is ns))), [])) (w2 : (mayV (Val.mk k n s is ns)) = true → Runs lp 50 [.agg [.p (.int .i64 k), .p (.int .i64 n), .p (.str s), .p (.sl (rowsV is)), .p (.sl (rowsN ns))]] [] (.p (.int .i64 (depthV (Val.mk k n s is ns))), [])) (w3 : (mayV (Val.mk k n s is ns)) = true → (decide ((depthV (Val.mk k n s is ns)) > 8)) = false → Runs lp 51 [.agg [.p (.int .i64 k), .p (.int .i64 n), .p (.str s), .p (.sl (rowsV is)), .p (.sl (rowsN ns))]] [] (.p (.int .i64 (sizeW (Val.mk k n s is ns))), [])) :
    Runs lp 26 [.agg [.p (.int .i64 k), .p (.int .i64 n), .p (.str s), .p (.sl (rowsV is)), .p (.sl (rowsN ns))]] [] (if (mayV (Val.mk k n s is ns)) = true then (if (decide ((depthV (Val.mk k n s is ns)) > 8)) = true then ((.p (.int .i64 21), [])) else (if (decide ((sizeW (Val.mk k n s is ns)) > 4096)) = true then ((.p (.int .i64 22), [])) else ((.p (.int .i64 0), [])))) else ((.p (.int .i64 20), []))) := by
  by_cases k1 : (mayV (Val.mk k n s is ns)) = true
  · refine iteRP k1 ?_
    by_cases k2 : (decide ((depthV (Val.mk k n s is ns)) > 8)) = true
    · refine iteRP k2 ?_
      exact
        runO_sound (N := 100) (os := [(3, oC w1), (2, .b false), (1, oC (w2 k1)), (2, .b true)]) (ps := [_, _, _, _]) (by kernel_rfl) ⟨w1, (cI (notI k1)), (w2 k1), cI k2, trivial⟩
    · refine iteRN k2 ?_
      replace k2 := Bool.eq_false_iff.2 k2
      by_cases k3 : (decide ((sizeW (Val.mk k n s is ns)) > 4096)) = true
      · refine iteRP k3 ?_
        exact
          runO_sound (N := 100) (os := [(3, oC w1), (2, .b false), (1, oC (w2 k1)), (2, .b false), (1, oC (w3 k1 k2)), (2, .b true)]) (ps := [_, _, _, _, _, _]) (by kernel_rfl) ⟨w1, (cI (notI k1)), (w2 k1), cI k2, (w3 k1 k2), cI k3, trivial⟩
      · refine iteRN k3 ?_
        replace k3 := Bool.eq_false_iff.2 k3
        exact
          runO_sound (N := 100) (os := [(3, oC w1), (2, .b false), (1, oC (w2 k1)), (2, .b false), (1, oC (w3 k1 k2)), (2, .b false)]) (ps := [_, _, _, _, _, _]) (by kernel_rfl) ⟨w1, (cI (notI k1)), (w2 k1), cI k2, (w3 k1 k2), cI k3, trivial⟩
  · refine iteRN k1 ?_
    replace k1 := Bool.eq_false_iff.2 k1
    exact
      runO_sound (N := 100) (os := [(3, oC w1), (2, .b true)]) (ps := [_, _]) (by kernel_rfl) ⟨w1, (cI (notI k1)), trivial⟩
theorem rNodR_yy {k n : Int} {s : List UInt8} {is : List Val} {ns : List (List UInt8)} {i : Nat} {m d : Int} (ke ne : Int) (se : List UInt8) (ise : List Val) (nse : List (List UInt8)) (c1 : (decide ((i : Int) < ((List.length (rowsV is) : Nat) : Int))) = true) (c2 : (decide (m < 65536)) = true) (h3 : is[i]? = some (Val.mk ke ne se ise nse)) (h4 : Runs lp 31 [.agg [.p (.int .i64 ke), .p (.int .i64 ne), .p (.str se), .p (.sl (rowsV ise)), .p (.sl (rowsN nse))], .p (.int .i64 (IntKind.wrap .i64 (d + 1)))] [] (.p (.int .i64 (nodesV (IntKind.wrap .i64 (d + 1)) (Val.mk ke ne se ise nse))), [])) {r : LOut × List LV × List LObj} (hr : LoopN lp 0 (loopNo lf31 0) (tl 0 35 [(1, .p (.int .i64 d)), (2, .ptr 0 0 0), (5, .p (.int .i64 (IntKind.wrap .i64 (m + (nodesV (IntKind.wrap .i64 (d + 1)) (Val.mk ke ne se ise nse)))))), (6, .p (.int .i64 (IntKind.wrap .i64 ((i : Int) + 1))))]) [.row [[.p (.int .i64 k), .p (.int .i64 n), .p (.str s), .p (.sl (rowsV is)), .p (.sl (rowsN ns))]]] r) :
    LoopN lp 0 (loopNo lf31 0) (tl 0 35 [(1, .p (.int .i64 d)), (2, .ptr 0 0 0), (5, .p (.int .i64 m)), (6, .p (.int .i64 (i : Int)))]) [.row [[.p (.int .i64 k), .p (.int .i64 n), .p (.str s), .p (.sl (rowsV is)), .p (.sl (rowsN ns))]]] r :=
  have q1 : OpW [.row [[.p (.int .i64 k), .p (.int .i64 n), .p (.str s), .p (.sl (rowsV is)), .p (.sl (rowsN ns))]]] (.indexAddr 5 (.const (.p (.sl (rowsV is)))) (.const (.p (.int .i64 (i : Int))))) (.pin [.int .i64 ke, .int .i64 ne, .str se, .sl (rowsV ise), .sl (rowsN nse)] 0) [.row [[.p (.int .i64 k), .p (.int .i64 n), .p (.str s), .p (.sl (rowsV is)), .p (.sl (rowsN ns))]]] := (opIs_idxE rfl rfl (rowsV_get h3) rfl)
  LoopAt.on (N := 100) (os := [(6, .b true), (1, .b true), (1, .b true), (0, .b true), (4, oO q1), (3, oC h4)]) (ps := [_, _, _, _, _, _]) (by kernel_rfl) ⟨cI c1, cI c1, cI c1, cI c2, q1, h4, trivial⟩ hr
theorem rNodR_yn {k n : Int} {s : List UInt8} {is : List Val} {ns : List (List UInt8)} {i : Nat} {m d : Int} (c1 : (decide ((i : Int) < ((List.length (rowsV is) : Nat) : Int))) = true) (c2 : (decide (m < 65536)) = false) :
    LoopN lp 0 (loopNo lf31 0) (tl 0 35 [(1, .p (.int .i64 d)), (2, .ptr 0 0 0), (5, .p (.int .i64 m)), (6, .p (.int .i64 (i : Int)))]) [.row [[.p (.int .i64 k), .p (.int .i64 n), .p (.str s), .p (.sl (rowsV is)), .p (.sl (rowsN ns))]]] (.exit 0, (tl 0 35 [(5, .p (.int .i64 m))]), [.row [[.p (.int .i64 k), .p (.int .i64 n), .p (.str s), .p (.sl (rowsV is)), .p (.sl (rowsN ns))]]]) :=
  LoopAt.out (N := 100) (os := [(6, .b true), (1, .b true), (1, .b true), (0, .b false)]) (ps := [_, _, _, _]) (by kernel_rfl) (by kernel_rfl) ⟨cI c1, cI c1, cI c1, cI c2, trivial⟩
theorem rNodR_n {k n : Int} {s : List UInt8} {is : List Val} {ns : List (List UInt8)} {i : Nat} {m d : Int} (c1 : (decide ((i : Int) < ((List.length (rowsV is) : Nat) : Int))) = false) :
    LoopN lp 0 (loopNo lf31 0) (tl 0 35 [(1, .p (.int .i64 d)), (2, .ptr 0 0 0), (5, .p (.int .i64 m)), (6, .p (.int .i64 (i : Int)))]) [.row [[.p (.int .i64 k), .p (.int .i64 n), .p (.str s), .p (.sl (rowsV is)), .p (.sl (rowsN ns))]]] (.exit 0, (tl 0 35 [(5, .p (.int .i64 m))]), [.row [[.p (.int .i64 k), .p (.int .i64 n), .p (.str s), .p (.sl (rowsV is)), .p (.sl (rowsN ns))]]]) :=
  LoopAt.out (N := 100) (os := [(6, .b false), (0, .b false), (0, .b false)]) (ps := [_, _, _]) (by kernel_rfl) (by kernel_rfl) ⟨cI c1, cI c1, cI c1, trivial⟩
theorem rNod0 {k n : Int} {s : List UInt8} {is : List Val} {ns : List (List UInt8)} {d m1 : Int} (w1 : (decide (d > 40)) = false → LoopN lp 0 (loopNo lf31 0) (tl 0 35 [(1, .p (.int .i64 d)), (2, .ptr 0 0 0), (5, .p (.int .i64 (IntKind.wrap .i64 (1 + ((List.length (rowsN ns) : Nat) : Int))))), (6, .p (.int .i64 0))]) [.row [[.p (.int .i64 k), .p (.int .i64 n), .p (.str s), .p (.sl (rowsV is)), .p (.sl (rowsN ns))]]] (.exit 0, (tl 0 35 [(5, .p (.int .i64 m1))]), [.row [[.p (.int .i64 k), .p (.int .i64 n), .p (.str s), .p (.sl (rowsV is)), .p (.sl (rowsN ns))]]])) :
    Runs lp 31 [.agg [.p (.int .i64 k), .p (.int .i64 n), .p (.str s), .p (.sl (rowsV is)), .p (.sl (rowsN ns))], .p (.int .i64 d)] [] (if (decide (d > 40)) = true then ((.p (.int .i64 1048576), [])) else ((.p (.int .i64 m1), []))) := by
  by_cases k1 : (decide (d > 40)) = true
  · refine iteRP k1 ?_
    exact
      runO_sound (N := 100) (os := [(4, .b true)]) (ps := [_]) (by kernel_rfl) ⟨cI k1, trivial⟩
  · refine iteRN k1 ?_
    replace k1 := Bool.eq_false_iff.2 k1
    exact
      runO_sound (N := 100) (os := [(4, .b false), (6, oL (w1 k1))]) (ps := [_, _]) (by kernel_rfl) ⟨cI k1, (w1 k1), trivial⟩
theorem rLarge0 {k n : Int} {s : List UInt8} {is : List Val} {ns : List (List UInt8)} (w1 : Runs lp 31 [.agg [.p (.int .i64 k), .p (.int .i64 n), .p (.str s), .p (.sl (rowsV is)), .p (.sl (rowsN ns))], .p (.int .i64 0)] [] (.p (.int .i64 (nodesV 0 (Val.mk k n s is ns))), [])) :
    Runs lp 11 [.agg [.p (.int .i64 k), .p (.int .i64 n), .p (.str s), .p (.sl (rowsV is)), .p (.sl (rowsN ns))]] [] ((.p (.bool (decide ((nodesV 0 (Val.mk k n s is ns)) > 3000))), [])) := by
  exact
    runO_sound (N := 100) (os := [(3, oC w1)]) (ps := [_]) (by kernel_rfl) ⟨w1, trivial⟩
end Go.Proofs.Ytmbjojnldbeicaa
