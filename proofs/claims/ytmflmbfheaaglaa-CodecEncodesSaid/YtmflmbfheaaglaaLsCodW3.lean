import Derived.Test.YtmflmbfheaaglaaLsCod4
set_option linter.unusedVariables false
set_option maxRecDepth 100000
namespace Go.Proofs.Ytmflmbfheaaglaa
open Go Go.LS
theorem vRdA {k n : Int} {s : List UInt8} {is : List Val} {ns : List (List UInt8)} {x x2 : Src} (w1 : Runs lp 34 [.ptr 0 0 0, .p (.int .i64 8)] [.row [[.p (.sl (bs x.1)), .p (.bool x.2)]]] (.agg [.p (.int .i64 k), .p (.int .i64 n), .p (.str s), .p (.sl (rowsV is)), .p (.sl (rowsN ns))], [.row [[.p (.sl (bs x2.1)), .p (.bool x2.2)]]])) (w2 : (x2.2) = false → Runs lp 25 [.agg [.p (.int .i64 k), .p (.int .i64 n), .p (.str s), .p (.sl (rowsV is)), .p (.sl (rowsN ns))]] [] (.p (.int .i64 (checkV (Val.mk k n s is ns))), [])) :
    Runs lp 18 [.ptr 0 0 0] [.row [[.p (.sl (bs x.1)), .p (.bool x.2)]]] (if (x2.2) = true then ((.agg [.p (.int .i64 0), .p (.int .i64 0), .p (.str []), .p (.sl []), .p (.sl [])], [.row [[.p (.sl (bs x2.1)), .p (.bool true)]]])) else (if ((checkV (Val.mk k n s is ns)) == 0) = true then ((.agg [.p (.int .i64 k), .p (.int .i64 n), .p (.str s), .p (.sl (rowsV is)), .p (.sl (rowsN ns))], [.row [[.p (.sl (bs x2.1)), .p (.bool x2.2)]]])) else ((.agg [.p (.int .i64 0), .p (.int .i64 0), .p (.str []), .p (.sl []), .p (.sl [])], [.row [[.p (.sl (bs x2.1)), .p (.bool true)]]])))) := by
  by_cases k1 : (x2.2) = true
  · refine iteRP k1 ?_
    exact
      have q1 : Runs lp 20 [.ptr 0 0 0] [.row [[.p (.sl (bs x2.1)), .p (.bool x2.2)]]] (.p (.bool x2.2), [.row [[.p (.sl (bs x2.1)), .p (.bool x2.2)]]]) := (vBad x2)
      have q2 : Runs lp 35 [.ptr 0 0 0] [.row [[.p (.sl (bs x2.1)), .p (.bool x2.2)]]] (.tup [], [.row [[.p (.sl (bs x2.1)), .p (.bool true)]]]) := (vSpoil x2)
      runO_sound (N := 100) (os := [(2, oC w1), (3, oC q1), (1, .b true), (0, .b true), (0, .b true), (0, .b true), (2, oC q2)]) (ps := [_, _, _, _, _, _, _]) (by kernel_rfl) ⟨w1, q1, cI k1, cI k1, cI k1, cI k1, q2, trivial⟩
  · refine iteRN k1 ?_
    replace k1 := Bool.eq_false_iff.2 k1
    by_cases k2 : ((checkV (Val.mk k n s is ns)) == 0) = true
    · refine iteRP k2 ?_
      exact
        have q1 : Runs lp 20 [.ptr 0 0 0] [.row [[.p (.sl (bs x2.1)), .p (.bool x2.2)]]] (.p (.bool x2.2), [.row [[.p (.sl (bs x2.1)), .p (.bool x2.2)]]]) := (vBad x2)
        runO_sound (N := 100) (os := [(2, oC w1), (3, oC q1), (1, .b false), (1, .b false), (0, oC (w2 k1)), (0, .b false), (1, .b false), (0, .b false)]) (ps := [_, _, _, _, _, _, _, _]) (by kernel_rfl) ⟨w1, q1, cI k1, cI k1, (w2 k1), cI k1, cI k1, (cI (notI k2)), trivial⟩
    · refine iteRN k2 ?_
      replace k2 := Bool.eq_false_iff.2 k2
      exact
        have q1 : Runs lp 20 [.ptr 0 0 0] [.row [[.p (.sl (bs x2.1)), .p (.bool x2.2)]]] (.p (.bool x2.2), [.row [[.p (.sl (bs x2.1)), .p (.bool x2.2)]]]) := (vBad x2)
        have q2 : Runs lp 35 [.ptr 0 0 0] [.row [[.p (.sl (bs x2.1)), .p (.bool x2.2)]]] (.tup [], [.row [[.p (.sl (bs x2.1)), .p (.bool true)]]]) := (vSpoil x2)
        runO_sound (N := 100) (os := [(2, oC w1), (3, oC q1), (1, .b false), (1, .b false), (0, oC (w2 k1)), (0, .b false), (1, .b false), (0, .b true), (1, oC q2)]) (ps := [_, _, _, _, _, _, _, _, _]) (by kernel_rfl) ⟨w1, q1, cI k1, cI k1, (w2 k1), cI k1, cI k1, (cI (notI k2)), q2, trivial⟩
theorem vDecA {k n : Int} {s : List UInt8} {is : List Val} {ns : List (List UInt8)} {x2 : Src} {L : List UInt8} (w1 : Runs lp 17 [.p (.sl (bs L))] [] (.ptr 0 0 0, [.row [[.p (.sl (bs L)), .p (.bool false)]]])) (w2 : Runs lp 18 [.ptr 0 0 0] [.row [[.p (.sl (bs L)), .p (.bool false)]]] (.agg [.p (.int .i64 k), .p (.int .i64 n), .p (.str s), .p (.sl (rowsV is)), .p (.sl (rowsN ns))], [.row [[.p (.sl (bs x2.1)), .p (.bool x2.2)]]])) (w3 : Runs lp 24 [.ptr 0 0 0] [.row [[.p (.sl (bs x2.1)), .p (.bool x2.2)]]] (.p (.int .i64 (sDone x2)), [.row [[.p (.sl (bs x2.1)), .p (.bool x2.2)]]])) :
    Runs lp 12 [.p (.sl (bs L))] [] (if ((sDone x2) == 0) = true then ((.tup [.agg [.p (.int .i64 k), .p (.int .i64 n), .p (.str s), .p (.sl (rowsV is)), .p (.sl (rowsN ns))], .p (.int .i64 0)], [])) else ((.tup [.agg [.p (.int .i64 0), .p (.int .i64 0), .p (.str []), .tight [], .tight []], .p (.int .i64 10)], []))) := by
  by_cases k1 : ((sDone x2) == 0) = true
  · refine iteRP k1 ?_
    exact
      runO_sound (N := 100) (os := [(3, oC w1), (2, oC w2), (3, oC w3), (1, .b false)]) (ps := [_, _, _, _]) (by kernel_rfl) ⟨w1, w2, w3, (cI (notI k1)), trivial⟩
  · refine iteRN k1 ?_
    replace k1 := Bool.eq_false_iff.2 k1
    exact
      runO_sound (N := 100) (os := [(3, oC w1), (2, oC w2), (3, oC w3), (1, .b true)]) (ps := [_, _, _, _]) (by kernel_rfl) ⟨w1, w2, w3, (cI (notI k1)), trivial⟩
theorem vEncA {k n : Int} {s : List UInt8} {is : List Val} {ns : List (List UInt8)} (w1 : Runs lp 25 [.agg [.p (.int .i64 k), .p (.int .i64 n), .p (.str s), .p (.sl (rowsV is)), .p (.sl (rowsN ns))]] [] (.p (.int .i64 (checkV (Val.mk k n s is ns))), [])) (w2 : ((checkV (Val.mk k n s is ns)) == 0) = true → Runs lp 26 [.tight [], .agg [.p (.int .i64 k), .p (.int .i64 n), .p (.str s), .p (.sl (rowsV is)), .p (.sl (rowsN ns))]] [] (.sl (bs (encC (Val.mk k n s is ns))) 0 (List.length (encC (Val.mk k n s is ns))), [.spare 1 (List.length (encC (Val.mk k n s is ns)))])) :
    Runs lp 9 [.agg [.p (.int .i64 k), .p (.int .i64 n), .p (.str s), .p (.sl (rowsV is)), .p (.sl (rowsN ns))]] [] (if ((checkV (Val.mk k n s is ns)) == 0) = true then ((.tup [.sl (bs (encC (Val.mk k n s is ns))) 0 (List.length (encC (Val.mk k n s is ns))), .p (.int .i64 0)], [.spare 1 (List.length (encC (Val.mk k n s is ns)))])) else ((.tup [.tight [], .p (.int .i64 (checkV (Val.mk k n s is ns)))], []))) := by
  by_cases k1 : ((checkV (Val.mk k n s is ns)) == 0) = true
  · refine iteRP k1 ?_
    exact
      runO_sound (N := 100) (os := [(4, oC w1), (3, .b false), (1, oC (w2 k1))]) (ps := [_, _, _]) (by kernel_rfl) ⟨w1, (cI (notI k1)), (w2 k1), trivial⟩
  · refine iteRN k1 ?_
    replace k1 := Bool.eq_false_iff.2 k1
    exact
      runO_sound (N := 100) (os := [(4, oC w1), (3, .b true)]) (ps := [_, _]) (by kernel_rfl) ⟨w1, (cI (notI k1)), trivial⟩
theorem vClB {L : List UInt8} (w1 : L ≠ []) (w2 : List.length (α := UInt8) [] + List.length (α := UInt8) L ≤ 200000000000000) :
    Runs lp 27 [.p (.sl (bs L))] [] ((.sl (bs (([] : List UInt8) ++ L)) 0 (List.length (([] : List UInt8) ++ L)), [.spare 1 (List.length (([] : List UInt8) ++ L))])) := by
  exact
    have q1 : OpW [] (.nileq false .slice (.const (.p (.sl (bs L))))) (.p (.bool false)) [] := (opIs_nileq w1)
    have q2 : OpW [] (.append false 1 1 (.const (.tight [])) (.const (.p (.sl (bs L))))) (.sl (bs (([] : List UInt8) ++ L)) 0 (List.length (([] : List UInt8) ++ L))) [.spare 1 (List.length (([] : List UInt8) ++ L))] := (opIs_appT rfl rfl rfl w1 w2)
    runO_sound (N := 100) (os := [(2, oO q1), (3, oO q2)]) (ps := [_, _]) (by kernel_rfl) ⟨q1, q2, trivial⟩
theorem vClN : Runs lp 27 [.p (.sl [])] [] (.tight [], []) := ⟨20, by kernel_rfl⟩
theorem vPuA {k n : Int} {s : List UInt8} {is : List Val} {ns : List (List UInt8)} {L : List UInt8} (w1 : L ≠ []) (w2 : Runs lp 27 [.p (.sl (bs L))] [] (.sl (bs L) 0 (List.length L), [.spare 1 (List.length L)])) (w3 : Runs lp 25 [.agg [.p (.int .i64 k), .p (.int .i64 n), .p (.str s), .p (.sl (rowsV is)), .p (.sl (rowsN ns))]] [] (.p (.int .i64 (checkV (Val.mk k n s is ns))), [])) (w4 : ((checkV (Val.mk k n s is ns)) == 0) = true → Runs lp 26 [.sl (bs L) 0 (List.length L), .agg [.p (.int .i64 k), .p (.int .i64 n), .p (.str s), .p (.sl (rowsV is)), .p (.sl (rowsN ns))]] [.spare 1 (List.length L)] (.sl (bs (L ++ encC (Val.mk k n s is ns))) 0 (List.length (L ++ encC (Val.mk k n s is ns))), [.spare 1 (List.length (L ++ encC (Val.mk k n s is ns)))])) :
    Runs lp 10 [.p (.sl (bs L)), .agg [.p (.int .i64 k), .p (.int .i64 n), .p (.str s), .p (.sl (rowsV is)), .p (.sl (rowsN ns))]] [] (if ((checkV (Val.mk k n s is ns)) == 0) = true then ((.p (.sl (bs (L ++ encC (Val.mk k n s is ns)))), [])) else ((.p (.sl (bs L)), []))) := by
  by_cases k1 : ((checkV (Val.mk k n s is ns)) == 0) = true
  · refine iteRP k1 ?_
    exact
      runO_sound (N := 100) (os := [(3, oC w2), (2, oC w3), (1, .b false), (2, oC (w4 k1))]) (ps := [_, _, _, _]) (by kernel_rfl) ⟨w2, w3, (cI (notI k1)), (w4 k1), trivial⟩
  · refine iteRN k1 ?_
    replace k1 := Bool.eq_false_iff.2 k1
    exact
      runO_sound (N := 100) (os := [(3, oC w2), (2, oC w3), (1, .b true)]) (ps := [_, _, _]) (by kernel_rfl) ⟨w2, w3, (cI (notI k1)), trivial⟩
theorem vPuN {k n : Int} {s : List UInt8} {is : List Val} {ns : List (List UInt8)} (w1 : Runs lp 27 [.p (.sl [])] [] (.tight [], [])) (w2 : Runs lp 25 [.agg [.p (.int .i64 k), .p (.int .i64 n), .p (.str s), .p (.sl (rowsV is)), .p (.sl (rowsN ns))]] [] (.p (.int .i64 (checkV (Val.mk k n s is ns))), [])) (w3 : ((checkV (Val.mk k n s is ns)) == 0) = true → Runs lp 26 [.tight [], .agg [.p (.int .i64 k), .p (.int .i64 n), .p (.str s), .p (.sl (rowsV is)), .p (.sl (rowsN ns))]] [] (.sl (bs (encC (Val.mk k n s is ns))) 0 (List.length (encC (Val.mk k n s is ns))), [.spare 1 (List.length (encC (Val.mk k n s is ns)))])) :
    Runs lp 10 [.p (.sl []), .agg [.p (.int .i64 k), .p (.int .i64 n), .p (.str s), .p (.sl (rowsV is)), .p (.sl (rowsN ns))]] [] (if ((checkV (Val.mk k n s is ns)) == 0) = true then ((.p (.sl (bs (encC (Val.mk k n s is ns)))), [])) else ((.p (.sl []), []))) := by
  by_cases k1 : ((checkV (Val.mk k n s is ns)) == 0) = true
  · refine iteRP k1 ?_
    exact
      runO_sound (N := 100) (os := [(3, oC w1), (2, oC w2), (1, .b false), (2, oC (w3 k1))]) (ps := [_, _, _, _]) (by kernel_rfl) ⟨w1, w2, (cI (notI k1)), (w3 k1), trivial⟩
  · refine iteRN k1 ?_
    replace k1 := Bool.eq_false_iff.2 k1
    exact
      runO_sound (N := 100) (os := [(3, oC w1), (2, oC w2), (1, .b true)]) (ps := [_, _, _]) (by kernel_rfl) ⟨w1, w2, (cI (notI k1)), trivial⟩
end Go.Proofs.Ytmflmbfheaaglaa
