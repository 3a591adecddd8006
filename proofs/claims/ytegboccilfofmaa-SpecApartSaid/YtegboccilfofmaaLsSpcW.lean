import Derived.Test.YtegboccilfofmaaLsPth
import Derived.Test.YtegboccilfofmaaLsValD
import Derived.Test.YtegboccilfofmaaLsG6
set_option linter.unusedVariables false
set_option maxRecDepth 100000
namespace Go.Proofs.Ytegboccilfofmaa
open Go Go.LS
theorem sNone0 {vk vn : Int} {vs : List UInt8} {vi : List Val} {vns : List (List UInt8)}  :
    Runs lp 25 [.agg [.p (.int .i64 vk), .p (.int .i64 vn), .p (.str vs), .p (.sl (rowsV vi)), .p (.sl (rowsN vns))]] [] (if (vk == 0) = true then (if (vn == 0) = true then (if (vs == []) = true then ((.p (.bool ((IntKind.wrap .i64 (((List.length (rowsV vi) : Nat) : Int) + ((List.length (rowsN vns) : Nat) : Int))) == 0)), [])) else ((.p (.bool false), []))) else ((.p (.bool false), []))) else ((.p (.bool false), []))) := by
  by_cases k1 : (vk == 0) = true
  · refine iteRP k1 ?_
    by_cases k2 : (vn == 0) = true
    · refine iteRP k2 ?_
      by_cases k3 : (vs == []) = true
      · refine iteRP k3 ?_
        exact
          runO_sound (N := 100) (os := [(6, .b true), (1, .b true), (1, .b true), (1, .b true), (1, .b true), (1, .b true), (1, .b true), (1, .b true), (1, .b true), (1, .b true), (1, .b true), (1, .b true), (1, .b true), (1, .b true), (1, .b true), (1, .b true), (1, .b true)]) (ps := [_, _, _, _, _, _, _, _, _, _, _, _, _, _, _, _, _]) (by kernel_rfl) ⟨cI k1, cI k1, cI k1, cI k1, cI k2, cI k2, cI k2, cI k2, cI k3, cI k3, cI k3, cI k3, cI k3, cI k3, cI k3, cI k3, cI k3, trivial⟩
      · refine iteRN k3 ?_
        replace k3 := Bool.eq_false_iff.2 k3
        exact
          runO_sound (N := 100) (os := [(6, .b true), (1, .b true), (1, .b true), (1, .b true), (1, .b true), (1, .b true), (1, .b true), (1, .b true), (1, .b false), (0, .b false), (0, .b false), (0, .b false), (0, .b false), (0, .b false), (0, .b false), (0, .b false), (0, .b false)]) (ps := [_, _, _, _, _, _, _, _, _, _, _, _, _, _, _, _, _]) (by kernel_rfl) ⟨cI k1, cI k1, cI k1, cI k1, cI k2, cI k2, cI k2, cI k2, cI k3, cI k3, cI k3, cI k3, cI k3, cI k3, cI k3, cI k3, cI k3, trivial⟩
    · refine iteRN k2 ?_
      replace k2 := Bool.eq_false_iff.2 k2
      exact
        runO_sound (N := 100) (os := [(6, .b true), (1, .b true), (1, .b true), (1, .b true), (1, .b false), (0, .b false), (0, .b false), (0, .b false)]) (ps := [_, _, _, _, _, _, _, _]) (by kernel_rfl) ⟨cI k1, cI k1, cI k1, cI k1, cI k2, cI k2, cI k2, cI k2, trivial⟩
  · refine iteRN k1 ?_
    replace k1 := Bool.eq_false_iff.2 k1
    exact
      runO_sound (N := 100) (os := [(6, .b false), (0, .b false), (0, .b false), (0, .b false)]) (ps := [_, _, _, _]) (by kernel_rfl) ⟨cI k1, cI k1, cI k1, cI k1, trivial⟩
theorem sMay0 {ok vk vn : Int} {vs : List UInt8} {vi : List Val} {ps vns ts : List (List UInt8)} (w1 : Runs lp 24 [.p (.sl (rowsN ps))] [] (.p (.bool (pathB' ps)), [])) (w2 : (pathB' ps) = true → (ok == 2) = true → Runs lp 25 [.agg [.p (.int .i64 vk), .p (.int .i64 vn), .p (.str vs), .p (.sl (rowsV vi)), .p (.sl (rowsN vns))]] [] (.p (.bool (noneV (Val.mk vk vn vs vi vns))), [])) (w3 : (pathB' ps) = true → (ok == 2) = false → (ok == 6) = true → Runs lp 25 [.agg [.p (.int .i64 vk), .p (.int .i64 vn), .p (.str vs), .p (.sl (rowsV vi)), .p (.sl (rowsN vns))]] [] (.p (.bool (noneV (Val.mk vk vn vs vi vns))), [])) (w4 : (pathB' ps) = true → (ok == 2) = false → (ok == 6) = true → (noneV (Val.mk vk vn vs vi vns)) = true → Runs lp 24 [.p (.sl (rowsN ts))] [] (.p (.bool (pathB' ts)), [])) (w5 : (pathB' ps) = true → (ok == 2) = false → (ok == 6) = false → (ok == 3) = true → (vk == 3) = true → Runs lp 26 [.agg [.p (.int .i64 vk), .p (.int .i64 vn), .p (.str vs), .p (.sl (rowsV vi)), .p (.sl (rowsN vns))]] [] (.p (.int .i64 (checkW (Val.mk vk vn vs vi vns))), [])) (w6 : (pathB' ps) = true → (ok == 2) = false → (ok == 6) = false → (ok == 3) = false → (ok == 1) = true → Runs lp 26 [.agg [.p (.int .i64 vk), .p (.int .i64 vn), .p (.str vs), .p (.sl (rowsV vi)), .p (.sl (rowsN vns))]] [] (.p (.int .i64 (checkW (Val.mk vk vn vs vi vns))), [])) (w7 : (pathB' ps) = true → (ok == 2) = false → (ok == 6) = false → (ok == 3) = false → (ok == 1) = false → (ok == 4) = true → Runs lp 26 [.agg [.p (.int .i64 vk), .p (.int .i64 vn), .p (.str vs), .p (.sl (rowsV vi)), .p (.sl (rowsN vns))]] [] (.p (.int .i64 (checkW (Val.mk vk vn vs vi vns))), [])) (w8 : (pathB' ps) = true → (ok == 2) = false → (ok == 6) = false → (ok == 3) = false → (ok == 1) = false → (ok == 4) = false → (ok == 5) = true → Runs lp 26 [.agg [.p (.int .i64 vk), .p (.int .i64 vn), .p (.str vs), .p (.sl (rowsV vi)), .p (.sl (rowsN vns))]] [] (.p (.int .i64 (checkW (Val.mk vk vn vs vi vns))), [])) (w9 : (pathB' ps) = true → (ok == 2) = false → (ok == 6) = false → (ok == 3) = false → (ok == 1) = false → (ok == 4) = false → (ok == 5) = false → (ok == 7) = true → Runs lp 26 [.agg [.p (.int .i64 vk), .p (.int .i64 vn), .p (.str vs), .p (.sl (rowsV vi)), .p (.sl (rowsN vns))]] [] (.p (.int .i64 (checkW (Val.mk vk vn vs vi vns))), [])) (w10 : (pathB' ps) = true → (ok == 2) = false → (ok == 6) = false → (ok == 3) = false → (ok == 1) = false → (ok == 4) = false → (ok == 5) = false → (ok == 7) = false → (ok == 8) = true → Runs lp 26 [.agg [.p (.int .i64 vk), .p (.int .i64 vn), .p (.str vs), .p (.sl (rowsV vi)), .p (.sl (rowsN vns))]] [] (.p (.int .i64 (checkW (Val.mk vk vn vs vi vns))), [])) :
    Runs lp 8 [.agg [.p (.int .i64 ok), .p (.sl (rowsN ps)), .p (.int .i64 vk), .p (.int .i64 vn), .p (.str vs), .p (.sl (rowsV vi)), .p (.sl (rowsN vns)), .p (.sl (rowsN ts))]] [] (if (pathB' ps) = true then (if (ok == 2) = true then (if (noneV (Val.mk vk vn vs vi vns)) = true then ((.p (.bool (((List.length (rowsN ts) : Nat) : Int) == 0)), [])) else ((.p (.bool false), []))) else (if (ok == 6) = true then (if (noneV (Val.mk vk vn vs vi vns)) = true then ((.p (.bool (pathB' ts)), [])) else ((.p (.bool false), []))) else (if (ok == 3) = true then (if (vk == 3) = true then (if ((checkW (Val.mk vk vn vs vi vns)) == 0) = true then ((.p (.bool (((List.length (rowsN ts) : Nat) : Int) == 0)), [])) else ((.p (.bool false), []))) else ((.p (.bool false), []))) else (if (ok == 1) = true then (if ((checkW (Val.mk vk vn vs vi vns)) == 0) = true then ((.p (.bool (((List.length (rowsN ts) : Nat) : Int) == 0)), [])) else ((.p (.bool false), []))) else (if (ok == 4) = true then (if ((checkW (Val.mk vk vn vs vi vns)) == 0) = true then ((.p (.bool (((List.length (rowsN ts) : Nat) : Int) == 0)), [])) else ((.p (.bool false), []))) else (if (ok == 5) = true then (if ((checkW (Val.mk vk vn vs vi vns)) == 0) = true then ((.p (.bool (((List.length (rowsN ts) : Nat) : Int) == 0)), [])) else ((.p (.bool false), []))) else (if (ok == 7) = true then (if ((checkW (Val.mk vk vn vs vi vns)) == 0) = true then ((.p (.bool (((List.length (rowsN ts) : Nat) : Int) == 0)), [])) else ((.p (.bool false), []))) else (if (ok == 8) = true then (if ((checkW (Val.mk vk vn vs vi vns)) == 0) = true then ((.p (.bool (((List.length (rowsN ts) : Nat) : Int) == 0)), [])) else ((.p (.bool false), []))) else ((.p (.bool false), [])))))))))) else ((.p (.bool false), []))) := by
  by_cases k1 : (pathB' ps) = true
  · refine iteRP k1 ?_
    by_cases k2 : (ok == 2) = true
    · refine iteRP k2 ?_
      by_cases k3 : (noneV (Val.mk vk vn vs vi vns)) = true
      · refine iteRP k3 ?_
        exact
          runO_sound (N := 100) (os := [(4, oC w1), (1, .b false), (4, .b true), (2, oC (w2 k1 k2)), (1, .b true), (1, .b true), (1, .b true), (1, .b true), (1, .b true)]) (ps := [_, _, _, _, _, _, _, _, _]) (by kernel_rfl) ⟨w1, (cI (notI k1)), cI k2, (w2 k1 k2), cI k3, cI k3, cI k3, cI k3, cI k3, trivial⟩
      · refine iteRN k3 ?_
        replace k3 := Bool.eq_false_iff.2 k3
        exact
          runO_sound (N := 100) (os := [(4, oC w1), (1, .b false), (4, .b true), (2, oC (w2 k1 k2)), (1, .b false), (0, .b false), (0, .b false), (0, .b false), (0, .b false)]) (ps := [_, _, _, _, _, _, _, _, _]) (by kernel_rfl) ⟨w1, (cI (notI k1)), cI k2, (w2 k1 k2), cI k3, cI k3, cI k3, cI k3, cI k3, trivial⟩
    · refine iteRN k2 ?_
      replace k2 := Bool.eq_false_iff.2 k2
      by_cases k3 : (ok == 6) = true
      · refine iteRP k3 ?_
        by_cases k4 : (noneV (Val.mk vk vn vs vi vns)) = true
        · refine iteRP k4 ?_
          exact
            runO_sound (N := 100) (os := [(4, oC w1), (1, .b false), (4, .b false), (2, .b true), (2, oC (w3 k1 k2 k3)), (1, .b true), (1, .b true), (1, .b true), (0, oC (w4 k1 k2 k3 k4)), (0, .b true)]) (ps := [_, _, _, _, _, _, _, _, _, _]) (by kernel_rfl) ⟨w1, (cI (notI k1)), cI k2, cI k3, (w3 k1 k2 k3), cI k4, cI k4, cI k4, (w4 k1 k2 k3 k4), cI k4, trivial⟩
        · refine iteRN k4 ?_
          replace k4 := Bool.eq_false_iff.2 k4
          exact
            runO_sound (N := 100) (os := [(4, oC w1), (1, .b false), (4, .b false), (2, .b true), (2, oC (w3 k1 k2 k3)), (1, .b false), (0, .b false), (0, .b false), (0, .b false)]) (ps := [_, _, _, _, _, _, _, _, _]) (by kernel_rfl) ⟨w1, (cI (notI k1)), cI k2, cI k3, (w3 k1 k2 k3), cI k4, cI k4, cI k4, cI k4, trivial⟩
      · refine iteRN k3 ?_
        replace k3 := Bool.eq_false_iff.2 k3
        by_cases k4 : (ok == 3) = true
        · refine iteRP k4 ?_
          by_cases k5 : (vk == 3) = true
          · refine iteRP k5 ?_
            by_cases k6 : ((checkW (Val.mk vk vn vs vi vns)) == 0) = true
            · refine iteRP k6 ?_
              exact
                runO_sound (N := 100) (os := [(4, oC w1), (1, .b false), (4, .b false), (2, .b false), (2, .b true), (4, .b false), (2, oC (w5 k1 k2 k3 k4 k5)), (2, .b true), (1, .b true), (1, .b true), (1, .b true), (1, .b true)]) (ps := [_, _, _, _, _, _, _, _, _, _, _, _]) (by kernel_rfl) ⟨w1, (cI (notI k1)), cI k2, cI k3, cI k4, (cI (notI k5)), (w5 k1 k2 k3 k4 k5), cI k6, cI k6, cI k6, cI k6, cI k6, trivial⟩
            · refine iteRN k6 ?_
              replace k6 := Bool.eq_false_iff.2 k6
              exact
                runO_sound (N := 100) (os := [(4, oC w1), (1, .b false), (4, .b false), (2, .b false), (2, .b true), (4, .b false), (2, oC (w5 k1 k2 k3 k4 k5)), (2, .b false), (0, .b false), (0, .b false), (0, .b false), (0, .b false)]) (ps := [_, _, _, _, _, _, _, _, _, _, _, _]) (by kernel_rfl) ⟨w1, (cI (notI k1)), cI k2, cI k3, cI k4, (cI (notI k5)), (w5 k1 k2 k3 k4 k5), cI k6, cI k6, cI k6, cI k6, cI k6, trivial⟩
          · refine iteRN k5 ?_
            replace k5 := Bool.eq_false_iff.2 k5
            exact
              runO_sound (N := 100) (os := [(4, oC w1), (1, .b false), (4, .b false), (2, .b false), (2, .b true), (4, .b true)]) (ps := [_, _, _, _, _, _]) (by kernel_rfl) ⟨w1, (cI (notI k1)), cI k2, cI k3, cI k4, (cI (notI k5)), trivial⟩
        · refine iteRN k4 ?_
          replace k4 := Bool.eq_false_iff.2 k4
          by_cases k5 : (ok == 1) = true
          · refine iteRP k5 ?_
            by_cases k6 : ((checkW (Val.mk vk vn vs vi vns)) == 0) = true
            · refine iteRP k6 ?_
              exact
                runO_sound (N := 100) (os := [(4, oC w1), (1, .b false), (4, .b false), (2, .b false), (2, .b false), (2, .b true), (0, .b true), (2, oC (w6 k1 k2 k3 k4 k5)), (2, .b true), (1, .b true), (1, .b true), (1, .b true), (1, .b true)]) (ps := [_, _, _, _, _, _, _, _, _, _, _, _, _]) (by kernel_rfl) ⟨w1, (cI (notI k1)), cI k2, cI k3, cI k4, cI k5, cI k5, (w6 k1 k2 k3 k4 k5), cI k6, cI k6, cI k6, cI k6, cI k6, trivial⟩
            · refine iteRN k6 ?_
              replace k6 := Bool.eq_false_iff.2 k6
              exact
                runO_sound (N := 100) (os := [(4, oC w1), (1, .b false), (4, .b false), (2, .b false), (2, .b false), (2, .b true), (0, .b true), (2, oC (w6 k1 k2 k3 k4 k5)), (2, .b false), (0, .b false), (0, .b false), (0, .b false), (0, .b false)]) (ps := [_, _, _, _, _, _, _, _, _, _, _, _, _]) (by kernel_rfl) ⟨w1, (cI (notI k1)), cI k2, cI k3, cI k4, cI k5, cI k5, (w6 k1 k2 k3 k4 k5), cI k6, cI k6, cI k6, cI k6, cI k6, trivial⟩
          · refine iteRN k5 ?_
            replace k5 := Bool.eq_false_iff.2 k5
            by_cases k6 : (ok == 4) = true
            · refine iteRP k6 ?_
              by_cases k7 : ((checkW (Val.mk vk vn vs vi vns)) == 0) = true
              · refine iteRP k7 ?_
                exact
                  runO_sound (N := 100) (os := [(4, oC w1), (1, .b false), (4, .b false), (2, .b false), (2, .b false), (2, .b false), (2, .b true), (0, .b true), (2, oC (w7 k1 k2 k3 k4 k5 k6)), (2, .b true), (1, .b true), (1, .b true), (1, .b true), (1, .b true)]) (ps := [_, _, _, _, _, _, _, _, _, _, _, _, _, _]) (by kernel_rfl) ⟨w1, (cI (notI k1)), cI k2, cI k3, cI k4, cI k5, cI k6, cI k6, (w7 k1 k2 k3 k4 k5 k6), cI k7, cI k7, cI k7, cI k7, cI k7, trivial⟩
              · refine iteRN k7 ?_
                replace k7 := Bool.eq_false_iff.2 k7
                exact
                  runO_sound (N := 100) (os := [(4, oC w1), (1, .b false), (4, .b false), (2, .b false), (2, .b false), (2, .b false), (2, .b true), (0, .b true), (2, oC (w7 k1 k2 k3 k4 k5 k6)), (2, .b false), (0, .b false), (0, .b false), (0, .b false), (0, .b false)]) (ps := [_, _, _, _, _, _, _, _, _, _, _, _, _, _]) (by kernel_rfl) ⟨w1, (cI (notI k1)), cI k2, cI k3, cI k4, cI k5, cI k6, cI k6, (w7 k1 k2 k3 k4 k5 k6), cI k7, cI k7, cI k7, cI k7, cI k7, trivial⟩
            · refine iteRN k6 ?_
              replace k6 := Bool.eq_false_iff.2 k6
              by_cases k7 : (ok == 5) = true
              · refine iteRP k7 ?_
                by_cases k8 : ((checkW (Val.mk vk vn vs vi vns)) == 0) = true
                · refine iteRP k8 ?_
                  exact
                    runO_sound (N := 100) (os := [(4, oC w1), (1, .b false), (4, .b false), (2, .b false), (2, .b false), (2, .b false), (2, .b false), (2, .b true), (0, .b true), (2, oC (w8 k1 k2 k3 k4 k5 k6 k7)), (2, .b true), (1, .b true), (1, .b true), (1, .b true), (1, .b true)]) (ps := [_, _, _, _, _, _, _, _, _, _, _, _, _, _, _]) (by kernel_rfl) ⟨w1, (cI (notI k1)), cI k2, cI k3, cI k4, cI k5, cI k6, cI k7, cI k7, (w8 k1 k2 k3 k4 k5 k6 k7), cI k8, cI k8, cI k8, cI k8, cI k8, trivial⟩
                · refine iteRN k8 ?_
                  replace k8 := Bool.eq_false_iff.2 k8
                  exact
                    runO_sound (N := 100) (os := [(4, oC w1), (1, .b false), (4, .b false), (2, .b false), (2, .b false), (2, .b false), (2, .b false), (2, .b true), (0, .b true), (2, oC (w8 k1 k2 k3 k4 k5 k6 k7)), (2, .b false), (0, .b false), (0, .b false), (0, .b false), (0, .b false)]) (ps := [_, _, _, _, _, _, _, _, _, _, _, _, _, _, _]) (by kernel_rfl) ⟨w1, (cI (notI k1)), cI k2, cI k3, cI k4, cI k5, cI k6, cI k7, cI k7, (w8 k1 k2 k3 k4 k5 k6 k7), cI k8, cI k8, cI k8, cI k8, cI k8, trivial⟩
              · refine iteRN k7 ?_
                replace k7 := Bool.eq_false_iff.2 k7
                by_cases k8 : (ok == 7) = true
                · refine iteRP k8 ?_
                  by_cases k9 : ((checkW (Val.mk vk vn vs vi vns)) == 0) = true
                  · refine iteRP k9 ?_
                    exact
                      runO_sound (N := 100) (os := [(4, oC w1), (1, .b false), (4, .b false), (2, .b false), (2, .b false), (2, .b false), (2, .b false), (2, .b false), (2, .b true), (0, .b true), (2, oC (w9 k1 k2 k3 k4 k5 k6 k7 k8)), (2, .b true), (1, .b true), (1, .b true), (1, .b true), (1, .b true)]) (ps := [_, _, _, _, _, _, _, _, _, _, _, _, _, _, _, _]) (by kernel_rfl) ⟨w1, (cI (notI k1)), cI k2, cI k3, cI k4, cI k5, cI k6, cI k7, cI k8, cI k8, (w9 k1 k2 k3 k4 k5 k6 k7 k8), cI k9, cI k9, cI k9, cI k9, cI k9, trivial⟩
                  · refine iteRN k9 ?_
                    replace k9 := Bool.eq_false_iff.2 k9
                    exact
                      runO_sound (N := 100) (os := [(4, oC w1), (1, .b false), (4, .b false), (2, .b false), (2, .b false), (2, .b false), (2, .b false), (2, .b false), (2, .b true), (0, .b true), (2, oC (w9 k1 k2 k3 k4 k5 k6 k7 k8)), (2, .b false), (0, .b false), (0, .b false), (0, .b false), (0, .b false)]) (ps := [_, _, _, _, _, _, _, _, _, _, _, _, _, _, _, _]) (by kernel_rfl) ⟨w1, (cI (notI k1)), cI k2, cI k3, cI k4, cI k5, cI k6, cI k7, cI k8, cI k8, (w9 k1 k2 k3 k4 k5 k6 k7 k8), cI k9, cI k9, cI k9, cI k9, cI k9, trivial⟩
                · refine iteRN k8 ?_
                  replace k8 := Bool.eq_false_iff.2 k8
                  by_cases k9 : (ok == 8) = true
                  · refine iteRP k9 ?_
                    by_cases k10 : ((checkW (Val.mk vk vn vs vi vns)) == 0) = true
                    · refine iteRP k10 ?_
                      exact
                        runO_sound (N := 100) (os := [(4, oC w1), (1, .b false), (4, .b false), (2, .b false), (2, .b false), (2, .b false), (2, .b false), (2, .b false), (2, .b false), (2, .b true), (2, oC (w10 k1 k2 k3 k4 k5 k6 k7 k8 k9)), (2, .b true), (1, .b true), (1, .b true), (1, .b true), (1, .b true)]) (ps := [_, _, _, _, _, _, _, _, _, _, _, _, _, _, _, _]) (by kernel_rfl) ⟨w1, (cI (notI k1)), cI k2, cI k3, cI k4, cI k5, cI k6, cI k7, cI k8, cI k9, (w10 k1 k2 k3 k4 k5 k6 k7 k8 k9), cI k10, cI k10, cI k10, cI k10, cI k10, trivial⟩
                    · refine iteRN k10 ?_
                      replace k10 := Bool.eq_false_iff.2 k10
                      exact
                        runO_sound (N := 100) (os := [(4, oC w1), (1, .b false), (4, .b false), (2, .b false), (2, .b false), (2, .b false), (2, .b false), (2, .b false), (2, .b false), (2, .b true), (2, oC (w10 k1 k2 k3 k4 k5 k6 k7 k8 k9)), (2, .b false), (0, .b false), (0, .b false), (0, .b false), (0, .b false)]) (ps := [_, _, _, _, _, _, _, _, _, _, _, _, _, _, _, _]) (by kernel_rfl) ⟨w1, (cI (notI k1)), cI k2, cI k3, cI k4, cI k5, cI k6, cI k7, cI k8, cI k9, (w10 k1 k2 k3 k4 k5 k6 k7 k8 k9), cI k10, cI k10, cI k10, cI k10, cI k10, trivial⟩
                  · refine iteRN k9 ?_
                    replace k9 := Bool.eq_false_iff.2 k9
                    exact
                      runO_sound (N := 100) (os := [(4, oC w1), (1, .b false), (4, .b false), (2, .b false), (2, .b false), (2, .b false), (2, .b false), (2, .b false), (2, .b false), (2, .b false)]) (ps := [_, _, _, _, _, _, _, _, _, _]) (by kernel_rfl) ⟨w1, (cI (notI k1)), cI k2, cI k3, cI k4, cI k5, cI k6, cI k7, cI k8, cI k9, trivial⟩
  · refine iteRN k1 ?_
    replace k1 := Bool.eq_false_iff.2 k1
    exact
      runO_sound (N := 100) (os := [(4, oC w1), (1, .b true)]) (ps := [_, _]) (by kernel_rfl) ⟨w1, (cI (notI k1)), trivial⟩
theorem rNone0 {vk vn : Int} {vs : List UInt8} {vi : List Val} {vns : List (List UInt8)} (w1 : Runs lp 44 [.agg [.p (.int .i64 vk), .p (.int .i64 vn), .p (.str vs), .p (.sl (rowsV vi)), .p (.sl (rowsN vns))], .agg [.p (.int .i64 0), .p (.int .i64 0), .p (.str []), .p (.sl []), .p (.sl [])]] [] (.p (.bool (sameV (Val.mk vk vn vs vi vns) (Val.mk 0 0 [] [] []))), [])) :
    Runs lp 22 [.agg [.p (.int .i64 vk), .p (.int .i64 vn), .p (.str vs), .p (.sl (rowsV vi)), .p (.sl (rowsN vns))]] [] ((.p (.bool (sameV (Val.mk vk vn vs vi vns) (Val.mk 0 0 [] [] []))), [])) := by
  exact
    runO_sound (N := 100) (os := [(4, oC w1)]) (ps := [_]) (by kernel_rfl) ⟨w1, trivial⟩
theorem rOpMay0 {ok vk vn : Int} {vs : List UInt8} {vi : List Val} {ps vns ts : List (List UInt8)} (w1 : Runs lp 14 [.p (.sl (rowsN ps))] [] (.p (.bool (pathB' ps)), [])) (w2 : (pathB' ps) = true → (ok == 2) = true → Runs lp 22 [.agg [.p (.int .i64 vk), .p (.int .i64 vn), .p (.str vs), .p (.sl (rowsV vi)), .p (.sl (rowsN vns))]] [] (.p (.bool (noneV (Val.mk vk vn vs vi vns))), [])) (w3 : (pathB' ps) = true → (ok == 2) = false → (ok == 6) = true → Runs lp 22 [.agg [.p (.int .i64 vk), .p (.int .i64 vn), .p (.str vs), .p (.sl (rowsV vi)), .p (.sl (rowsN vns))]] [] (.p (.bool (noneV (Val.mk vk vn vs vi vns))), [])) (w4 : (pathB' ps) = true → (ok == 2) = false → (ok == 6) = true → (noneV (Val.mk vk vn vs vi vns)) = true → Runs lp 14 [.p (.sl (rowsN ts))] [] (.p (.bool (pathB' ts)), [])) (w5 : (pathB' ps) = true → (ok == 2) = false → (ok == 6) = false → (ok == 3) = true → (vk == 3) = true → Runs lp 23 [.agg [.p (.int .i64 vk), .p (.int .i64 vn), .p (.str vs), .p (.sl (rowsV vi)), .p (.sl (rowsN vns))]] [] (.p (.int .i64 (checkW (Val.mk vk vn vs vi vns))), [])) (w6 : (pathB' ps) = true → (ok == 2) = false → (ok == 6) = false → (ok == 3) = false → (ok == 1) = true → Runs lp 23 [.agg [.p (.int .i64 vk), .p (.int .i64 vn), .p (.str vs), .p (.sl (rowsV vi)), .p (.sl (rowsN vns))]] [] (.p (.int .i64 (checkW (Val.mk vk vn vs vi vns))), [])) (w7 : (pathB' ps) = true → (ok == 2) = false → (ok == 6) = false → (ok == 3) = false → (ok == 1) = false → (ok == 4) = true → Runs lp 23 [.agg [.p (.int .i64 vk), .p (.int .i64 vn), .p (.str vs), .p (.sl (rowsV vi)), .p (.sl (rowsN vns))]] [] (.p (.int .i64 (checkW (Val.mk vk vn vs vi vns))), [])) (w8 : (pathB' ps) = true → (ok == 2) = false → (ok == 6) = false → (ok == 3) = false → (ok == 1) = false → (ok == 4) = false → (ok == 5) = true → Runs lp 23 [.agg [.p (.int .i64 vk), .p (.int .i64 vn), .p (.str vs), .p (.sl (rowsV vi)), .p (.sl (rowsN vns))]] [] (.p (.int .i64 (checkW (Val.mk vk vn vs vi vns))), [])) (w9 : (pathB' ps) = true → (ok == 2) = false → (ok == 6) = false → (ok == 3) = false → (ok == 1) = false → (ok == 4) = false → (ok == 5) = false → (ok == 7) = true → Runs lp 23 [.agg [.p (.int .i64 vk), .p (.int .i64 vn), .p (.str vs), .p (.sl (rowsV vi)), .p (.sl (rowsN vns))]] [] (.p (.int .i64 (checkW (Val.mk vk vn vs vi vns))), [])) (w10 : (pathB' ps) = true → (ok == 2) = false → (ok == 6) = false → (ok == 3) = false → (ok == 1) = false → (ok == 4) = false → (ok == 5) = false → (ok == 7) = false → (ok == 8) = true → Runs lp 23 [.agg [.p (.int .i64 vk), .p (.int .i64 vn), .p (.str vs), .p (.sl (rowsV vi)), .p (.sl (rowsN vns))]] [] (.p (.int .i64 (checkW (Val.mk vk vn vs vi vns))), [])) :
    Runs lp 7 [.agg [.p (.int .i64 ok), .p (.sl (rowsN ps)), .p (.int .i64 vk), .p (.int .i64 vn), .p (.str vs), .p (.sl (rowsV vi)), .p (.sl (rowsN vns)), .p (.sl (rowsN ts))]] [] (if (pathB' ps) = true then (if (ok == 2) = true then (if (noneV (Val.mk vk vn vs vi vns)) = true then ((.p (.bool (((List.length (rowsN ts) : Nat) : Int) == 0)), [])) else ((.p (.bool false), []))) else (if (ok == 6) = true then (if (noneV (Val.mk vk vn vs vi vns)) = true then ((.p (.bool (pathB' ts)), [])) else ((.p (.bool false), []))) else (if (ok == 3) = true then (if (vk == 3) = true then (if ((checkW (Val.mk vk vn vs vi vns)) == 0) = true then ((.p (.bool (((List.length (rowsN ts) : Nat) : Int) == 0)), [])) else ((.p (.bool false), []))) else ((.p (.bool false), []))) else (if (ok == 1) = true then (if ((checkW (Val.mk vk vn vs vi vns)) == 0) = true then ((.p (.bool (((List.length (rowsN ts) : Nat) : Int) == 0)), [])) else ((.p (.bool false), []))) else (if (ok == 4) = true then (if ((checkW (Val.mk vk vn vs vi vns)) == 0) = true then ((.p (.bool (((List.length (rowsN ts) : Nat) : Int) == 0)), [])) else ((.p (.bool false), []))) else (if (ok == 5) = true then (if ((checkW (Val.mk vk vn vs vi vns)) == 0) = true then ((.p (.bool (((List.length (rowsN ts) : Nat) : Int) == 0)), [])) else ((.p (.bool false), []))) else (if (ok == 7) = true then (if ((checkW (Val.mk vk vn vs vi vns)) == 0) = true then ((.p (.bool (((List.length (rowsN ts) : Nat) : Int) == 0)), [])) else ((.p (.bool false), []))) else (if (ok == 8) = true then (if ((checkW (Val.mk vk vn vs vi vns)) == 0) = true then ((.p (.bool (((List.length (rowsN ts) : Nat) : Int) == 0)), [])) else ((.p (.bool false), []))) else ((.p (.bool false), [])))))))))) else ((.p (.bool false), []))) := by
  by_cases k1 : (pathB' ps) = true
  · refine iteRP k1 ?_
    by_cases k2 : (ok == 2) = true
    · refine iteRP k2 ?_
      by_cases k3 : (noneV (Val.mk vk vn vs vi vns)) = true
      · refine iteRP k3 ?_
        exact
          runO_sound (N := 100) (os := [(4, oC w1), (1, .b false), (4, .b true), (2, oC (w2 k1 k2)), (1, .b true), (1, .b true), (1, .b true), (1, .b true), (1, .b true)]) (ps := [_, _, _, _, _, _, _, _, _]) (by kernel_rfl) ⟨w1, (cI (notI k1)), cI k2, (w2 k1 k2), cI k3, cI k3, cI k3, cI k3, cI k3, trivial⟩
      · refine iteRN k3 ?_
        replace k3 := Bool.eq_false_iff.2 k3
        exact
          runO_sound (N := 100) (os := [(4, oC w1), (1, .b false), (4, .b true), (2, oC (w2 k1 k2)), (1, .b false), (0, .b false), (0, .b false), (0, .b false), (0, .b false)]) (ps := [_, _, _, _, _, _, _, _, _]) (by kernel_rfl) ⟨w1, (cI (notI k1)), cI k2, (w2 k1 k2), cI k3, cI k3, cI k3, cI k3, cI k3, trivial⟩
    · refine iteRN k2 ?_
      replace k2 := Bool.eq_false_iff.2 k2
      by_cases k3 : (ok == 6) = true
      · refine iteRP k3 ?_
        by_cases k4 : (noneV (Val.mk vk vn vs vi vns)) = true
        · refine iteRP k4 ?_
          exact
            runO_sound (N := 100) (os := [(4, oC w1), (1, .b false), (4, .b false), (2, .b true), (2, oC (w3 k1 k2 k3)), (1, .b true), (1, .b true), (1, .b true), (0, oC (w4 k1 k2 k3 k4)), (0, .b true)]) (ps := [_, _, _, _, _, _, _, _, _, _]) (by kernel_rfl) ⟨w1, (cI (notI k1)), cI k2, cI k3, (w3 k1 k2 k3), cI k4, cI k4, cI k4, (w4 k1 k2 k3 k4), cI k4, trivial⟩
        · refine iteRN k4 ?_
          replace k4 := Bool.eq_false_iff.2 k4
          exact
            runO_sound (N := 100) (os := [(4, oC w1), (1, .b false), (4, .b false), (2, .b true), (2, oC (w3 k1 k2 k3)), (1, .b false), (0, .b false), (0, .b false), (0, .b false)]) (ps := [_, _, _, _, _, _, _, _, _]) (by kernel_rfl) ⟨w1, (cI (notI k1)), cI k2, cI k3, (w3 k1 k2 k3), cI k4, cI k4, cI k4, cI k4, trivial⟩
      · refine iteRN k3 ?_
        replace k3 := Bool.eq_false_iff.2 k3
        by_cases k4 : (ok == 3) = true
        · refine iteRP k4 ?_
          by_cases k5 : (vk == 3) = true
          · refine iteRP k5 ?_
            by_cases k6 : ((checkW (Val.mk vk vn vs vi vns)) == 0) = true
            · refine iteRP k6 ?_
              exact
                runO_sound (N := 100) (os := [(4, oC w1), (1, .b false), (4, .b false), (2, .b false), (2, .b true), (5, .b true), (1, .b true), (1, .b true), (0, oC (w5 k1 k2 k3 k4 k5)), (0, .b true), (1, .b true), (1, .b true), (1, .b true), (1, .b true), (1, .b true), (1, .b true)]) (ps := [_, _, _, _, _, _, _, _, _, _, _, _, _, _, _, _]) (by kernel_rfl) ⟨w1, (cI (notI k1)), cI k2, cI k3, cI k4, cI k5, cI k5, cI k5, (w5 k1 k2 k3 k4 k5), cI k5, cI k5, cI k6, cI k6, cI k6, cI k6, cI k6, trivial⟩
            · refine iteRN k6 ?_
              replace k6 := Bool.eq_false_iff.2 k6
              exact
                runO_sound (N := 100) (os := [(4, oC w1), (1, .b false), (4, .b false), (2, .b false), (2, .b true), (5, .b true), (1, .b true), (1, .b true), (0, oC (w5 k1 k2 k3 k4 k5)), (0, .b true), (1, .b true), (1, .b false), (0, .b false), (0, .b false), (0, .b false), (0, .b false)]) (ps := [_, _, _, _, _, _, _, _, _, _, _, _, _, _, _, _]) (by kernel_rfl) ⟨w1, (cI (notI k1)), cI k2, cI k3, cI k4, cI k5, cI k5, cI k5, (w5 k1 k2 k3 k4 k5), cI k5, cI k5, cI k6, cI k6, cI k6, cI k6, cI k6, trivial⟩
          · refine iteRN k5 ?_
            replace k5 := Bool.eq_false_iff.2 k5
            exact
              runO_sound (N := 100) (os := [(4, oC w1), (1, .b false), (4, .b false), (2, .b false), (2, .b true), (5, .b false), (0, .b false), (0, .b false), (0, .b false), (0, .b false)]) (ps := [_, _, _, _, _, _, _, _, _, _]) (by kernel_rfl) ⟨w1, (cI (notI k1)), cI k2, cI k3, cI k4, cI k5, cI k5, cI k5, cI k5, cI k5, trivial⟩
        · refine iteRN k4 ?_
          replace k4 := Bool.eq_false_iff.2 k4
          by_cases k5 : (ok == 1) = true
          · refine iteRP k5 ?_
            by_cases k6 : ((checkW (Val.mk vk vn vs vi vns)) == 0) = true
            · refine iteRP k6 ?_
              exact
                runO_sound (N := 100) (os := [(4, oC w1), (1, .b false), (4, .b false), (2, .b false), (2, .b false), (2, .b true), (0, .b true), (2, oC (w6 k1 k2 k3 k4 k5)), (2, .b true), (1, .b true), (1, .b true), (1, .b true), (1, .b true)]) (ps := [_, _, _, _, _, _, _, _, _, _, _, _, _]) (by kernel_rfl) ⟨w1, (cI (notI k1)), cI k2, cI k3, cI k4, cI k5, cI k5, (w6 k1 k2 k3 k4 k5), cI k6, cI k6, cI k6, cI k6, cI k6, trivial⟩
            · refine iteRN k6 ?_
              replace k6 := Bool.eq_false_iff.2 k6
              exact
                runO_sound (N := 100) (os := [(4, oC w1), (1, .b false), (4, .b false), (2, .b false), (2, .b false), (2, .b true), (0, .b true), (2, oC (w6 k1 k2 k3 k4 k5)), (2, .b false), (0, .b false), (0, .b false), (0, .b false), (0, .b false)]) (ps := [_, _, _, _, _, _, _, _, _, _, _, _, _]) (by kernel_rfl) ⟨w1, (cI (notI k1)), cI k2, cI k3, cI k4, cI k5, cI k5, (w6 k1 k2 k3 k4 k5), cI k6, cI k6, cI k6, cI k6, cI k6, trivial⟩
          · refine iteRN k5 ?_
            replace k5 := Bool.eq_false_iff.2 k5
            by_cases k6 : (ok == 4) = true
            · refine iteRP k6 ?_
              by_cases k7 : ((checkW (Val.mk vk vn vs vi vns)) == 0) = true
              · refine iteRP k7 ?_
                exact
                  runO_sound (N := 100) (os := [(4, oC w1), (1, .b false), (4, .b false), (2, .b false), (2, .b false), (2, .b false), (2, .b true), (0, .b true), (2, oC (w7 k1 k2 k3 k4 k5 k6)), (2, .b true), (1, .b true), (1, .b true), (1, .b true), (1, .b true)]) (ps := [_, _, _, _, _, _, _, _, _, _, _, _, _, _]) (by kernel_rfl) ⟨w1, (cI (notI k1)), cI k2, cI k3, cI k4, cI k5, cI k6, cI k6, (w7 k1 k2 k3 k4 k5 k6), cI k7, cI k7, cI k7, cI k7, cI k7, trivial⟩
              · refine iteRN k7 ?_
                replace k7 := Bool.eq_false_iff.2 k7
                exact
                  runO_sound (N := 100) (os := [(4, oC w1), (1, .b false), (4, .b false), (2, .b false), (2, .b false), (2, .b false), (2, .b true), (0, .b true), (2, oC (w7 k1 k2 k3 k4 k5 k6)), (2, .b false), (0, .b false), (0, .b false), (0, .b false), (0, .b false)]) (ps := [_, _, _, _, _, _, _, _, _, _, _, _, _, _]) (by kernel_rfl) ⟨w1, (cI (notI k1)), cI k2, cI k3, cI k4, cI k5, cI k6, cI k6, (w7 k1 k2 k3 k4 k5 k6), cI k7, cI k7, cI k7, cI k7, cI k7, trivial⟩
            · refine iteRN k6 ?_
              replace k6 := Bool.eq_false_iff.2 k6
              by_cases k7 : (ok == 5) = true
              · refine iteRP k7 ?_
                by_cases k8 : ((checkW (Val.mk vk vn vs vi vns)) == 0) = true
                · refine iteRP k8 ?_
                  exact
                    runO_sound (N := 100) (os := [(4, oC w1), (1, .b false), (4, .b false), (2, .b false), (2, .b false), (2, .b false), (2, .b false), (2, .b true), (0, .b true), (2, oC (w8 k1 k2 k3 k4 k5 k6 k7)), (2, .b true), (1, .b true), (1, .b true), (1, .b true), (1, .b true)]) (ps := [_, _, _, _, _, _, _, _, _, _, _, _, _, _, _]) (by kernel_rfl) ⟨w1, (cI (notI k1)), cI k2, cI k3, cI k4, cI k5, cI k6, cI k7, cI k7, (w8 k1 k2 k3 k4 k5 k6 k7), cI k8, cI k8, cI k8, cI k8, cI k8, trivial⟩
                · refine iteRN k8 ?_
                  replace k8 := Bool.eq_false_iff.2 k8
                  exact
                    runO_sound (N := 100) (os := [(4, oC w1), (1, .b false), (4, .b false), (2, .b false), (2, .b false), (2, .b false), (2, .b false), (2, .b true), (0, .b true), (2, oC (w8 k1 k2 k3 k4 k5 k6 k7)), (2, .b false), (0, .b false), (0, .b false), (0, .b false), (0, .b false)]) (ps := [_, _, _, _, _, _, _, _, _, _, _, _, _, _, _]) (by kernel_rfl) ⟨w1, (cI (notI k1)), cI k2, cI k3, cI k4, cI k5, cI k6, cI k7, cI k7, (w8 k1 k2 k3 k4 k5 k6 k7), cI k8, cI k8, cI k8, cI k8, cI k8, trivial⟩
              · refine iteRN k7 ?_
                replace k7 := Bool.eq_false_iff.2 k7
                by_cases k8 : (ok == 7) = true
                · refine iteRP k8 ?_
                  by_cases k9 : ((checkW (Val.mk vk vn vs vi vns)) == 0) = true
                  · refine iteRP k9 ?_
                    exact
                      runO_sound (N := 100) (os := [(4, oC w1), (1, .b false), (4, .b false), (2, .b false), (2, .b false), (2, .b false), (2, .b false), (2, .b false), (2, .b true), (0, .b true), (2, oC (w9 k1 k2 k3 k4 k5 k6 k7 k8)), (2, .b true), (1, .b true), (1, .b true), (1, .b true), (1, .b true)]) (ps := [_, _, _, _, _, _, _, _, _, _, _, _, _, _, _, _]) (by kernel_rfl) ⟨w1, (cI (notI k1)), cI k2, cI k3, cI k4, cI k5, cI k6, cI k7, cI k8, cI k8, (w9 k1 k2 k3 k4 k5 k6 k7 k8), cI k9, cI k9, cI k9, cI k9, cI k9, trivial⟩
                  · refine iteRN k9 ?_
                    replace k9 := Bool.eq_false_iff.2 k9
                    exact
                      runO_sound (N := 100) (os := [(4, oC w1), (1, .b false), (4, .b false), (2, .b false), (2, .b false), (2, .b false), (2, .b false), (2, .b false), (2, .b true), (0, .b true), (2, oC (w9 k1 k2 k3 k4 k5 k6 k7 k8)), (2, .b false), (0, .b false), (0, .b false), (0, .b false), (0, .b false)]) (ps := [_, _, _, _, _, _, _, _, _, _, _, _, _, _, _, _]) (by kernel_rfl) ⟨w1, (cI (notI k1)), cI k2, cI k3, cI k4, cI k5, cI k6, cI k7, cI k8, cI k8, (w9 k1 k2 k3 k4 k5 k6 k7 k8), cI k9, cI k9, cI k9, cI k9, cI k9, trivial⟩
                · refine iteRN k8 ?_
                  replace k8 := Bool.eq_false_iff.2 k8
                  by_cases k9 : (ok == 8) = true
                  · refine iteRP k9 ?_
                    by_cases k10 : ((checkW (Val.mk vk vn vs vi vns)) == 0) = true
                    · refine iteRP k10 ?_
                      exact
                        runO_sound (N := 100) (os := [(4, oC w1), (1, .b false), (4, .b false), (2, .b false), (2, .b false), (2, .b false), (2, .b false), (2, .b false), (2, .b false), (2, .b true), (2, oC (w10 k1 k2 k3 k4 k5 k6 k7 k8 k9)), (2, .b true), (1, .b true), (1, .b true), (1, .b true), (1, .b true)]) (ps := [_, _, _, _, _, _, _, _, _, _, _, _, _, _, _, _]) (by kernel_rfl) ⟨w1, (cI (notI k1)), cI k2, cI k3, cI k4, cI k5, cI k6, cI k7, cI k8, cI k9, (w10 k1 k2 k3 k4 k5 k6 k7 k8 k9), cI k10, cI k10, cI k10, cI k10, cI k10, trivial⟩
                    · refine iteRN k10 ?_
                      replace k10 := Bool.eq_false_iff.2 k10
                      exact
                        runO_sound (N := 100) (os := [(4, oC w1), (1, .b false), (4, .b false), (2, .b false), (2, .b false), (2, .b false), (2, .b false), (2, .b false), (2, .b false), (2, .b true), (2, oC (w10 k1 k2 k3 k4 k5 k6 k7 k8 k9)), (2, .b false), (0, .b false), (0, .b false), (0, .b false), (0, .b false)]) (ps := [_, _, _, _, _, _, _, _, _, _, _, _, _, _, _, _]) (by kernel_rfl) ⟨w1, (cI (notI k1)), cI k2, cI k3, cI k4, cI k5, cI k6, cI k7, cI k8, cI k9, (w10 k1 k2 k3 k4 k5 k6 k7 k8 k9), cI k10, cI k10, cI k10, cI k10, cI k10, trivial⟩
                  · refine iteRN k9 ?_
                    replace k9 := Bool.eq_false_iff.2 k9
                    exact
                      runO_sound (N := 100) (os := [(4, oC w1), (1, .b false), (4, .b false), (2, .b false), (2, .b false), (2, .b false), (2, .b false), (2, .b false), (2, .b false), (2, .b false)]) (ps := [_, _, _, _, _, _, _, _, _, _]) (by kernel_rfl) ⟨w1, (cI (notI k1)), cI k2, cI k3, cI k4, cI k5, cI k6, cI k7, cI k8, cI k9, trivial⟩
  · refine iteRN k1 ?_
    replace k1 := Bool.eq_false_iff.2 k1
    exact
      runO_sound (N := 100) (os := [(4, oC w1), (1, .b true)]) (ps := [_, _]) (by kernel_rfl) ⟨w1, (cI (notI k1)), trivial⟩
end Go.Proofs.Ytegboccilfofmaa
