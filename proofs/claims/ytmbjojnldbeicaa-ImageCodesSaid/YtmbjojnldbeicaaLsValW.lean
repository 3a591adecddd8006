import Derived.Test.YtmbjojnldbeicaaLsCodes2
import Derived.Test.YtmbjojnldbeicaaLsNm2
import Derived.Test.YtmbjojnldbeicaaLsG6
set_option linter.unusedVariables false
set_option linter.unusedSimpArgs false
set_option maxRecDepth 100000
namespace Go.Proofs.Ytmbjojnldbeicaa
open Go Go.LS
theorem rMayI_yy {k n : Int} {s : List UInt8} {is : List Val} {ns : List (List UInt8)} {i : Nat} (ke ne : Int) (se : List UInt8) (ise : List Val) (nse : List (List UInt8)) (c1 : (decide ((i : Int) < ((List.length (rowsV is) : Nat) : Int))) = true) (h2 : is[i]? = some (Val.mk ke ne se ise nse)) (h3 : Runs lp 49 [.agg [.p (.int .i64 ke), .p (.int .i64 ne), .p (.str se), .p (.sl (rowsV ise)), .p (.sl (rowsN nse))]] [] (.p (.bool (mayV (Val.mk ke ne se ise nse))), [])) (c4 : (mayV (Val.mk ke ne se ise nse)) = true) {r : LOut × List LV × List LObj} (hr : LoopN lp 0 (loopNo lf49 0) (tl 0 146 [(1, .ptr 0 0 0), (3, .p (.int .i64 (IntKind.wrap .i64 ((i : Int) + 1))))]) [.row [[.p (.int .i64 k), .p (.int .i64 n), .p (.str s), .p (.sl (rowsV is)), .p (.sl (rowsN ns))]]] r) :
    LoopN lp 0 (loopNo lf49 0) (tl 0 146 [(1, .ptr 0 0 0), (3, .p (.int .i64 (i : Int)))]) [.row [[.p (.int .i64 k), .p (.int .i64 n), .p (.str s), .p (.sl (rowsV is)), .p (.sl (rowsN ns))]]] r :=
  have q1 : OpW [.row [[.p (.int .i64 k), .p (.int .i64 n), .p (.str s), .p (.sl (rowsV is)), .p (.sl (rowsN ns))]]] (.indexAddr 5 (.const (.p (.sl (rowsV is)))) (.const (.p (.int .i64 (i : Int))))) (.pin [.int .i64 ke, .int .i64 ne, .str se, .sl (rowsV ise), .sl (rowsN nse)] 0) [.row [[.p (.int .i64 k), .p (.int .i64 n), .p (.str s), .p (.sl (rowsV is)), .p (.sl (rowsN ns))]]] := (opIs_idxE rfl rfl (rowsV_get h2) rfl)
  LoopAt.on (N := 100) (os := [(5, .b true), (3, oO q1), (1, oC h3), (1, .b false)]) (ps := [_, _, _, _]) (by kernel_rfl) ⟨cI c1, q1, h3, (cI (notI c4)), trivial⟩ hr
theorem rMayI_yn {k n : Int} {s : List UInt8} {is : List Val} {ns : List (List UInt8)} {i : Nat} (ke ne : Int) (se : List UInt8) (ise : List Val) (nse : List (List UInt8)) (c1 : (decide ((i : Int) < ((List.length (rowsV is) : Nat) : Int))) = true) (h2 : is[i]? = some (Val.mk ke ne se ise nse)) (h3 : Runs lp 49 [.agg [.p (.int .i64 ke), .p (.int .i64 ne), .p (.str se), .p (.sl (rowsV ise)), .p (.sl (rowsN nse))]] [] (.p (.bool (mayV (Val.mk ke ne se ise nse))), [])) (c4 : (mayV (Val.mk ke ne se ise nse)) = false) :
    LoopN lp 0 (loopNo lf49 0) (tl 0 146 [(1, .ptr 0 0 0), (3, .p (.int .i64 (i : Int)))]) [.row [[.p (.int .i64 k), .p (.int .i64 n), .p (.str s), .p (.sl (rowsV is)), .p (.sl (rowsN ns))]]] (.ret, (tl 0 146 [(2, .p (.bool false))]), [.row [[.p (.int .i64 k), .p (.int .i64 n), .p (.str s), .p (.sl (rowsV is)), .p (.sl (rowsN ns))]]]) :=
  have q1 : OpW [.row [[.p (.int .i64 k), .p (.int .i64 n), .p (.str s), .p (.sl (rowsV is)), .p (.sl (rowsN ns))]]] (.indexAddr 5 (.const (.p (.sl (rowsV is)))) (.const (.p (.int .i64 (i : Int))))) (.pin [.int .i64 ke, .int .i64 ne, .str se, .sl (rowsV ise), .sl (rowsN nse)] 0) [.row [[.p (.int .i64 k), .p (.int .i64 n), .p (.str s), .p (.sl (rowsV is)), .p (.sl (rowsN ns))]]] := (opIs_idxE rfl rfl (rowsV_get h2) rfl)
  LoopAt.out (N := 100) (os := [(5, .b true), (3, oO q1), (1, oC h3), (1, .b true)]) (ps := [_, _, _, _]) (by kernel_rfl) (by kernel_rfl) ⟨cI c1, q1, h3, (cI (notI c4)), trivial⟩
theorem rMayI_n {k n : Int} {s : List UInt8} {is : List Val} {ns : List (List UInt8)} {i : Nat} (c1 : (decide ((i : Int) < ((List.length (rowsV is) : Nat) : Int))) = false) :
    LoopN lp 0 (loopNo lf49 0) (tl 0 146 [(1, .ptr 0 0 0), (3, .p (.int .i64 (i : Int)))]) [.row [[.p (.int .i64 k), .p (.int .i64 n), .p (.str s), .p (.sl (rowsV is)), .p (.sl (rowsN ns))]]] (.exit 0, (tl 0 146 [(1, .ptr 0 0 0)]), [.row [[.p (.int .i64 k), .p (.int .i64 n), .p (.str s), .p (.sl (rowsV is)), .p (.sl (rowsN ns))]]]) :=
  LoopAt.out (N := 100) (os := [(5, .b false)]) (ps := [_]) (by kernel_rfl) (by kernel_rfl) ⟨cI c1, trivial⟩
theorem rMayN_yy {k n : Int} {s : List UInt8} {is : List Val} {ns : List (List UInt8)} {i : Nat} (c1 : (decide ((i : Int) < ((List.length (rowsN ns) : Nat) : Int))) = true) (h2 : i < List.length (α := List UInt8) ns) (h3 : Runs lp 68 [.p (.str (List.getD (α := List UInt8) ns i []))] [] (.p (.bool (nameB (List.getD (α := List UInt8) ns i []))), [])) (c4 : (nameB (List.getD (α := List UInt8) ns i [])) = true) {r : LOut × List LV × List LObj} (hr : LoopN lp 0 (loopNo lf49 1) (tl 0 146 [(1, .ptr 0 0 0), (4, .p (.int .i64 (IntKind.wrap .i64 ((i : Int) + 1))))]) [.row [[.p (.int .i64 k), .p (.int .i64 n), .p (.str s), .p (.sl (rowsV is)), .p (.sl (rowsN ns))]]] r) :
    LoopN lp 0 (loopNo lf49 1) (tl 0 146 [(1, .ptr 0 0 0), (4, .p (.int .i64 (i : Int)))]) [.row [[.p (.int .i64 k), .p (.int .i64 n), .p (.str s), .p (.sl (rowsV is)), .p (.sl (rowsN ns))]]] r :=
  have q1 : OpW [.row [[.p (.int .i64 k), .p (.int .i64 n), .p (.str s), .p (.sl (rowsV is)), .p (.sl (rowsN ns))]]] (.indexAddr 1 (.const (.p (.sl (rowsN ns)))) (.const (.p (.int .i64 (i : Int))))) (.pin [.str (List.getD (α := List UInt8) ns i [])] 0) [.row [[.p (.int .i64 k), .p (.int .i64 n), .p (.str s), .p (.sl (rowsV is)), .p (.sl (rowsN ns))]]] := (opIs_idxE rfl rfl (rowsN_get h2) rfl)
  LoopAt.on (N := 100) (os := [(5, .b true), (3, oO q1), (1, oC h3), (1, .b false)]) (ps := [_, _, _, _]) (by kernel_rfl) ⟨cI c1, q1, h3, (cI (notI c4)), trivial⟩ hr
theorem rMayN_yn {k n : Int} {s : List UInt8} {is : List Val} {ns : List (List UInt8)} {i : Nat} (c1 : (decide ((i : Int) < ((List.length (rowsN ns) : Nat) : Int))) = true) (h2 : i < List.length (α := List UInt8) ns) (h3 : Runs lp 68 [.p (.str (List.getD (α := List UInt8) ns i []))] [] (.p (.bool (nameB (List.getD (α := List UInt8) ns i []))), [])) (c4 : (nameB (List.getD (α := List UInt8) ns i [])) = false) :
    LoopN lp 0 (loopNo lf49 1) (tl 0 146 [(1, .ptr 0 0 0), (4, .p (.int .i64 (i : Int)))]) [.row [[.p (.int .i64 k), .p (.int .i64 n), .p (.str s), .p (.sl (rowsV is)), .p (.sl (rowsN ns))]]] (.ret, (tl 0 146 [(2, .p (.bool false))]), [.row [[.p (.int .i64 k), .p (.int .i64 n), .p (.str s), .p (.sl (rowsV is)), .p (.sl (rowsN ns))]]]) :=
  have q1 : OpW [.row [[.p (.int .i64 k), .p (.int .i64 n), .p (.str s), .p (.sl (rowsV is)), .p (.sl (rowsN ns))]]] (.indexAddr 1 (.const (.p (.sl (rowsN ns)))) (.const (.p (.int .i64 (i : Int))))) (.pin [.str (List.getD (α := List UInt8) ns i [])] 0) [.row [[.p (.int .i64 k), .p (.int .i64 n), .p (.str s), .p (.sl (rowsV is)), .p (.sl (rowsN ns))]]] := (opIs_idxE rfl rfl (rowsN_get h2) rfl)
  LoopAt.out (N := 100) (os := [(5, .b true), (3, oO q1), (1, oC h3), (1, .b true)]) (ps := [_, _, _, _]) (by kernel_rfl) (by kernel_rfl) ⟨cI c1, q1, h3, (cI (notI c4)), trivial⟩
theorem rMayN_n {k n : Int} {s : List UInt8} {is : List Val} {ns : List (List UInt8)} {i : Nat} (c1 : (decide ((i : Int) < ((List.length (rowsN ns) : Nat) : Int))) = false) :
    LoopN lp 0 (loopNo lf49 1) (tl 0 146 [(1, .ptr 0 0 0), (4, .p (.int .i64 (i : Int)))]) [.row [[.p (.int .i64 k), .p (.int .i64 n), .p (.str s), .p (.sl (rowsV is)), .p (.sl (rowsN ns))]]] (.exit 2, (tl 0 146 [(1, .ptr 0 0 0)]), [.row [[.p (.int .i64 k), .p (.int .i64 n), .p (.str s), .p (.sl (rowsV is)), .p (.sl (rowsN ns))]]]) :=
  LoopAt.out (N := 100) (os := [(5, .b false)]) (ps := [_]) (by kernel_rfl) (by kernel_rfl) ⟨cI c1, trivial⟩
theorem rMay0 {k n : Int} {s : List UInt8} {is : List Val} {ns : List (List UInt8)} (w1 : (mayL is) = true → LoopN lp 0 (loopNo lf49 0) (tl 0 146 [(1, .ptr 0 0 0), (3, .p (.int .i64 0))]) [.row [[.p (.int .i64 k), .p (.int .i64 n), .p (.str s), .p (.sl (rowsV is)), .p (.sl (rowsN ns))]]] (.exit 0, (tl 0 146 [(1, .ptr 0 0 0)]), [.row [[.p (.int .i64 k), .p (.int .i64 n), .p (.str s), .p (.sl (rowsV is)), .p (.sl (rowsN ns))]]])) (w2 : (mayL is) = true → (ns.all nameB) = true → LoopN lp 0 (loopNo lf49 1) (tl 0 146 [(1, .ptr 0 0 0), (4, .p (.int .i64 0))]) [.row [[.p (.int .i64 k), .p (.int .i64 n), .p (.str s), .p (.sl (rowsV is)), .p (.sl (rowsN ns))]]] (.exit 2, (tl 0 146 [(1, .ptr 0 0 0)]), [.row [[.p (.int .i64 k), .p (.int .i64 n), .p (.str s), .p (.sl (rowsV is)), .p (.sl (rowsN ns))]]])) (w3 : (mayL is) = true → (ns.all nameB) = true → (k == 1) = false → (k == 2) = false → (k == 3) = false → (k == 4) = false → (k == 5) = false → (k == 6) = false → (k == 7) = true → (n == 0) = true → (s == []) = true → (((List.length (rowsN ns) : Nat) : Int) == ((List.length (rowsV is) : Nat) : Int)) = true → Runs lp 69 [.p (.sl (rowsN ns))] [] (.p (.bool (twiceB ns)), [])) (w4 : (mayL is) = true → (ns.all nameB) = false → LoopN lp 0 (loopNo lf49 1) (tl 0 146 [(1, .ptr 0 0 0), (4, .p (.int .i64 0))]) [.row [[.p (.int .i64 k), .p (.int .i64 n), .p (.str s), .p (.sl (rowsV is)), .p (.sl (rowsN ns))]]] (.ret, (tl 0 146 [(2, .p (.bool false))]), [.row [[.p (.int .i64 k), .p (.int .i64 n), .p (.str s), .p (.sl (rowsV is)), .p (.sl (rowsN ns))]]])) (w5 : (mayL is) = false → LoopN lp 0 (loopNo lf49 0) (tl 0 146 [(1, .ptr 0 0 0), (3, .p (.int .i64 0))]) [.row [[.p (.int .i64 k), .p (.int .i64 n), .p (.str s), .p (.sl (rowsV is)), .p (.sl (rowsN ns))]]] (.ret, (tl 0 146 [(2, .p (.bool false))]), [.row [[.p (.int .i64 k), .p (.int .i64 n), .p (.str s), .p (.sl (rowsV is)), .p (.sl (rowsN ns))]]])) :
    Runs lp 49 [.agg [.p (.int .i64 k), .p (.int .i64 n), .p (.str s), .p (.sl (rowsV is)), .p (.sl (rowsN ns))]] [] (if (mayL is) = true then (if (ns.all nameB) = true then (if (k == 1) = true then (if (n == 0) = true then (if (s == []) = true then (if (((List.length (rowsV is) : Nat) : Int) == 0) = true then ((.p (.bool (((List.length (rowsN ns) : Nat) : Int) == 0)), [])) else ((.p (.bool false), []))) else ((.p (.bool false), []))) else ((.p (.bool false), []))) else (if (k == 2) = true then (if (decide (n ≥ 0)) = true then (if (decide (n ≤ 1)) = true then (if (s == []) = true then (if (((List.length (rowsV is) : Nat) : Int) == 0) = true then ((.p (.bool (((List.length (rowsN ns) : Nat) : Int) == 0)), [])) else ((.p (.bool false), []))) else ((.p (.bool false), []))) else ((.p (.bool false), []))) else ((.p (.bool false), []))) else (if (k == 3) = true then (if (s == []) = true then (if (((List.length (rowsV is) : Nat) : Int) == 0) = true then ((.p (.bool (((List.length (rowsN ns) : Nat) : Int) == 0)), [])) else ((.p (.bool false), []))) else ((.p (.bool false), []))) else (if (k == 4) = true then (if (n == 0) = true then (if (((List.length (rowsV is) : Nat) : Int) == 0) = true then ((.p (.bool (((List.length (rowsN ns) : Nat) : Int) == 0)), [])) else ((.p (.bool false), []))) else ((.p (.bool false), []))) else (if (k == 5) = true then (if (n == 0) = true then (if (((List.length (rowsV is) : Nat) : Int) == 0) = true then ((.p (.bool (((List.length (rowsN ns) : Nat) : Int) == 0)), [])) else ((.p (.bool false), []))) else ((.p (.bool false), []))) else (if (k == 6) = true then (if (n == 0) = true then (if (s == []) = true then ((.p (.bool (((List.length (rowsN ns) : Nat) : Int) == 0)), [])) else ((.p (.bool false), []))) else ((.p (.bool false), []))) else (if (k == 7) = true then (if (n == 0) = true then (if (s == []) = true then (if (((List.length (rowsN ns) : Nat) : Int) == ((List.length (rowsV is) : Nat) : Int)) = true then ((.p (.bool (!(twiceB ns))), [])) else ((.p (.bool false), []))) else ((.p (.bool false), []))) else ((.p (.bool false), []))) else ((.p (.bool false), []))))))))) else ((.p (.bool false), []))) else ((.p (.bool false), []))) := by
  by_cases k1 : (mayL is) = true
  · refine iteRP k1 ?_
    by_cases k2 : (ns.all nameB) = true
    · refine iteRP k2 ?_
      by_cases k3 : (k == 1) = true
      · refine iteRP k3 ?_
        by_cases k4 : (n == 0) = true
        · refine iteRP k4 ?_
          by_cases k5 : (s == []) = true
          · refine iteRP k5 ?_
            by_cases k6 : (((List.length (rowsV is) : Nat) : Int) == 0) = true
            · refine iteRP k6 ?_
              exact
                runO_sound (N := 100) (os := [(3, oL (w1 k1)), (1, oL (w2 k1 k2)), (12, .b true), (4, .b true), (1, .b true), (1, .b true), (1, .b true), (1, .b true), (1, .b true), (1, .b true), (1, .b true), (1, .b true), (1, .b true)]) (ps := [_, _, _, _, _, _, _, _, _, _, _, _, _]) (by kernel_rfl) ⟨(w1 k1), (w2 k1 k2), cI k3, cI k4, cI k4, cI k4, cI k4, cI k5, cI k5, cI k5, cI k6, cI k6, cI k6, trivial⟩
            · refine iteRN k6 ?_
              replace k6 := Bool.eq_false_iff.2 k6
              exact
                runO_sound (N := 100) (os := [(3, oL (w1 k1)), (1, oL (w2 k1 k2)), (12, .b true), (4, .b true), (1, .b true), (1, .b true), (1, .b true), (1, .b true), (1, .b true), (1, .b true), (1, .b false), (0, .b false), (0, .b false)]) (ps := [_, _, _, _, _, _, _, _, _, _, _, _, _]) (by kernel_rfl) ⟨(w1 k1), (w2 k1 k2), cI k3, cI k4, cI k4, cI k4, cI k4, cI k5, cI k5, cI k5, cI k6, cI k6, cI k6, trivial⟩
          · refine iteRN k5 ?_
            replace k5 := Bool.eq_false_iff.2 k5
            exact
              runO_sound (N := 100) (os := [(3, oL (w1 k1)), (1, oL (w2 k1 k2)), (12, .b true), (4, .b true), (1, .b true), (1, .b true), (1, .b true), (1, .b false), (0, .b false), (0, .b false)]) (ps := [_, _, _, _, _, _, _, _, _, _]) (by kernel_rfl) ⟨(w1 k1), (w2 k1 k2), cI k3, cI k4, cI k4, cI k4, cI k4, cI k5, cI k5, cI k5, trivial⟩
        · refine iteRN k4 ?_
          replace k4 := Bool.eq_false_iff.2 k4
          exact
            runO_sound (N := 100) (os := [(3, oL (w1 k1)), (1, oL (w2 k1 k2)), (12, .b true), (4, .b false), (0, .b false), (0, .b false), (0, .b false)]) (ps := [_, _, _, _, _, _, _]) (by kernel_rfl) ⟨(w1 k1), (w2 k1 k2), cI k3, cI k4, cI k4, cI k4, cI k4, trivial⟩
      · refine iteRN k3 ?_
        replace k3 := Bool.eq_false_iff.2 k3
        by_cases k4 : (k == 2) = true
        · refine iteRP k4 ?_
          by_cases k5 : (decide (n ≥ 0)) = true
          · refine iteRP k5 ?_
            by_cases k6 : (decide (n ≤ 1)) = true
            · refine iteRP k6 ?_
              by_cases k7 : (s == []) = true
              · refine iteRP k7 ?_
                by_cases k8 : (((List.length (rowsV is) : Nat) : Int) == 0) = true
                · refine iteRP k8 ?_
                  exact
                    runO_sound (N := 100) (os := [(3, oL (w1 k1)), (1, oL (w2 k1 k2)), (12, .b false), (2, .b true), (4, .b true), (1, .b true), (1, .b true), (1, .b true), (1, .b true), (1, .b true), (1, .b true), (1, .b true), (1, .b true), (1, .b true), (1, .b true), (1, .b true), (1, .b true), (1, .b true)]) (ps := [_, _, _, _, _, _, _, _, _, _, _, _, _, _, _, _, _, _]) (by kernel_rfl) ⟨(w1 k1), (w2 k1 k2), cI k3, cI k4, cI k5, cI k5, cI k5, cI k5, cI k6, cI k6, cI k6, cI k6, cI k7, cI k7, cI k7, cI k8, cI k8, cI k8, trivial⟩
                · refine iteRN k8 ?_
                  replace k8 := Bool.eq_false_iff.2 k8
                  exact
                    runO_sound (N := 100) (os := [(3, oL (w1 k1)), (1, oL (w2 k1 k2)), (12, .b false), (2, .b true), (4, .b true), (1, .b true), (1, .b true), (1, .b true), (1, .b true), (1, .b true), (1, .b true), (1, .b true), (1, .b true), (1, .b true), (1, .b true), (1, .b false), (0, .b false), (0, .b false)]) (ps := [_, _, _, _, _, _, _, _, _, _, _, _, _, _, _, _, _, _]) (by kernel_rfl) ⟨(w1 k1), (w2 k1 k2), cI k3, cI k4, cI k5, cI k5, cI k5, cI k5, cI k6, cI k6, cI k6, cI k6, cI k7, cI k7, cI k7, cI k8, cI k8, cI k8, trivial⟩
              · refine iteRN k7 ?_
                replace k7 := Bool.eq_false_iff.2 k7
                exact
                  runO_sound (N := 100) (os := [(3, oL (w1 k1)), (1, oL (w2 k1 k2)), (12, .b false), (2, .b true), (4, .b true), (1, .b true), (1, .b true), (1, .b true), (1, .b true), (1, .b true), (1, .b true), (1, .b true), (1, .b false), (0, .b false), (0, .b false)]) (ps := [_, _, _, _, _, _, _, _, _, _, _, _, _, _, _]) (by kernel_rfl) ⟨(w1 k1), (w2 k1 k2), cI k3, cI k4, cI k5, cI k5, cI k5, cI k5, cI k6, cI k6, cI k6, cI k6, cI k7, cI k7, cI k7, trivial⟩
            · refine iteRN k6 ?_
              replace k6 := Bool.eq_false_iff.2 k6
              exact
                runO_sound (N := 100) (os := [(3, oL (w1 k1)), (1, oL (w2 k1 k2)), (12, .b false), (2, .b true), (4, .b true), (1, .b true), (1, .b true), (1, .b true), (1, .b false), (0, .b false), (0, .b false), (0, .b false)]) (ps := [_, _, _, _, _, _, _, _, _, _, _, _]) (by kernel_rfl) ⟨(w1 k1), (w2 k1 k2), cI k3, cI k4, cI k5, cI k5, cI k5, cI k5, cI k6, cI k6, cI k6, cI k6, trivial⟩
          · refine iteRN k5 ?_
            replace k5 := Bool.eq_false_iff.2 k5
            exact
              runO_sound (N := 100) (os := [(3, oL (w1 k1)), (1, oL (w2 k1 k2)), (12, .b false), (2, .b true), (4, .b false), (0, .b false), (0, .b false), (0, .b false)]) (ps := [_, _, _, _, _, _, _, _]) (by kernel_rfl) ⟨(w1 k1), (w2 k1 k2), cI k3, cI k4, cI k5, cI k5, cI k5, cI k5, trivial⟩
        · refine iteRN k4 ?_
          replace k4 := Bool.eq_false_iff.2 k4
          by_cases k5 : (k == 3) = true
          · refine iteRP k5 ?_
            by_cases k6 : (s == []) = true
            · refine iteRP k6 ?_
              by_cases k7 : (((List.length (rowsV is) : Nat) : Int) == 0) = true
              · refine iteRP k7 ?_
                exact
                  runO_sound (N := 100) (os := [(3, oL (w1 k1)), (1, oL (w2 k1 k2)), (12, .b false), (2, .b false), (2, .b true), (4, .b true), (1, .b true), (1, .b true), (1, .b true), (1, .b true), (1, .b true)]) (ps := [_, _, _, _, _, _, _, _, _, _, _]) (by kernel_rfl) ⟨(w1 k1), (w2 k1 k2), cI k3, cI k4, cI k5, cI k6, cI k6, cI k6, cI k7, cI k7, cI k7, trivial⟩
              · refine iteRN k7 ?_
                replace k7 := Bool.eq_false_iff.2 k7
                exact
                  runO_sound (N := 100) (os := [(3, oL (w1 k1)), (1, oL (w2 k1 k2)), (12, .b false), (2, .b false), (2, .b true), (4, .b true), (1, .b true), (1, .b true), (1, .b false), (0, .b false), (0, .b false)]) (ps := [_, _, _, _, _, _, _, _, _, _, _]) (by kernel_rfl) ⟨(w1 k1), (w2 k1 k2), cI k3, cI k4, cI k5, cI k6, cI k6, cI k6, cI k7, cI k7, cI k7, trivial⟩
            · refine iteRN k6 ?_
              replace k6 := Bool.eq_false_iff.2 k6
              exact
                runO_sound (N := 100) (os := [(3, oL (w1 k1)), (1, oL (w2 k1 k2)), (12, .b false), (2, .b false), (2, .b true), (4, .b false), (0, .b false), (0, .b false)]) (ps := [_, _, _, _, _, _, _, _]) (by kernel_rfl) ⟨(w1 k1), (w2 k1 k2), cI k3, cI k4, cI k5, cI k6, cI k6, cI k6, trivial⟩
          · refine iteRN k5 ?_
            replace k5 := Bool.eq_false_iff.2 k5
            by_cases k6 : (k == 4) = true
            · refine iteRP k6 ?_
              by_cases k7 : (n == 0) = true
              · refine iteRP k7 ?_
                by_cases k8 : (((List.length (rowsV is) : Nat) : Int) == 0) = true
                · refine iteRP k8 ?_
                  exact
                    runO_sound (N := 100) (os := [(3, oL (w1 k1)), (1, oL (w2 k1 k2)), (12, .b false), (2, .b false), (2, .b false), (2, .b true), (0, .b true), (4, .b true), (1, .b true), (1, .b true), (1, .b true), (1, .b true), (1, .b true)]) (ps := [_, _, _, _, _, _, _, _, _, _, _, _, _]) (by kernel_rfl) ⟨(w1 k1), (w2 k1 k2), cI k3, cI k4, cI k5, cI k6, cI k6, cI k7, cI k7, cI k7, cI k8, cI k8, cI k8, trivial⟩
                · refine iteRN k8 ?_
                  replace k8 := Bool.eq_false_iff.2 k8
                  exact
                    runO_sound (N := 100) (os := [(3, oL (w1 k1)), (1, oL (w2 k1 k2)), (12, .b false), (2, .b false), (2, .b false), (2, .b true), (0, .b true), (4, .b true), (1, .b true), (1, .b true), (1, .b false), (0, .b false), (0, .b false)]) (ps := [_, _, _, _, _, _, _, _, _, _, _, _, _]) (by kernel_rfl) ⟨(w1 k1), (w2 k1 k2), cI k3, cI k4, cI k5, cI k6, cI k6, cI k7, cI k7, cI k7, cI k8, cI k8, cI k8, trivial⟩
              · refine iteRN k7 ?_
                replace k7 := Bool.eq_false_iff.2 k7
                exact
                  runO_sound (N := 100) (os := [(3, oL (w1 k1)), (1, oL (w2 k1 k2)), (12, .b false), (2, .b false), (2, .b false), (2, .b true), (0, .b true), (4, .b false), (0, .b false), (0, .b false)]) (ps := [_, _, _, _, _, _, _, _, _, _]) (by kernel_rfl) ⟨(w1 k1), (w2 k1 k2), cI k3, cI k4, cI k5, cI k6, cI k6, cI k7, cI k7, cI k7, trivial⟩
            · refine iteRN k6 ?_
              replace k6 := Bool.eq_false_iff.2 k6
              by_cases k7 : (k == 5) = true
              · refine iteRP k7 ?_
                by_cases k8 : (n == 0) = true
                · refine iteRP k8 ?_
                  by_cases k9 : (((List.length (rowsV is) : Nat) : Int) == 0) = true
                  · refine iteRP k9 ?_
                    exact
                      runO_sound (N := 100) (os := [(3, oL (w1 k1)), (1, oL (w2 k1 k2)), (12, .b false), (2, .b false), (2, .b false), (2, .b false), (2, .b true), (4, .b true), (1, .b true), (1, .b true), (1, .b true), (1, .b true), (1, .b true)]) (ps := [_, _, _, _, _, _, _, _, _, _, _, _, _]) (by kernel_rfl) ⟨(w1 k1), (w2 k1 k2), cI k3, cI k4, cI k5, cI k6, cI k7, cI k8, cI k8, cI k8, cI k9, cI k9, cI k9, trivial⟩
                  · refine iteRN k9 ?_
                    replace k9 := Bool.eq_false_iff.2 k9
                    exact
                      runO_sound (N := 100) (os := [(3, oL (w1 k1)), (1, oL (w2 k1 k2)), (12, .b false), (2, .b false), (2, .b false), (2, .b false), (2, .b true), (4, .b true), (1, .b true), (1, .b true), (1, .b false), (0, .b false), (0, .b false)]) (ps := [_, _, _, _, _, _, _, _, _, _, _, _, _]) (by kernel_rfl) ⟨(w1 k1), (w2 k1 k2), cI k3, cI k4, cI k5, cI k6, cI k7, cI k8, cI k8, cI k8, cI k9, cI k9, cI k9, trivial⟩
                · refine iteRN k8 ?_
                  replace k8 := Bool.eq_false_iff.2 k8
                  exact
                    runO_sound (N := 100) (os := [(3, oL (w1 k1)), (1, oL (w2 k1 k2)), (12, .b false), (2, .b false), (2, .b false), (2, .b false), (2, .b true), (4, .b false), (0, .b false), (0, .b false)]) (ps := [_, _, _, _, _, _, _, _, _, _]) (by kernel_rfl) ⟨(w1 k1), (w2 k1 k2), cI k3, cI k4, cI k5, cI k6, cI k7, cI k8, cI k8, cI k8, trivial⟩
              · refine iteRN k7 ?_
                replace k7 := Bool.eq_false_iff.2 k7
                by_cases k8 : (k == 6) = true
                · refine iteRP k8 ?_
                  by_cases k9 : (n == 0) = true
                  · refine iteRP k9 ?_
                    by_cases k10 : (s == []) = true
                    · refine iteRP k10 ?_
                      exact
                        runO_sound (N := 100) (os := [(3, oL (w1 k1)), (1, oL (w2 k1 k2)), (12, .b false), (2, .b false), (2, .b false), (2, .b false), (2, .b false), (2, .b true), (4, .b true), (1, .b true), (1, .b true), (1, .b true), (1, .b true), (1, .b true), (1, .b true)]) (ps := [_, _, _, _, _, _, _, _, _, _, _, _, _, _, _]) (by kernel_rfl) ⟨(w1 k1), (w2 k1 k2), cI k3, cI k4, cI k5, cI k6, cI k7, cI k8, cI k9, cI k9, cI k9, cI k9, cI k10, cI k10, cI k10, trivial⟩
                    · refine iteRN k10 ?_
                      replace k10 := Bool.eq_false_iff.2 k10
                      exact
                        runO_sound (N := 100) (os := [(3, oL (w1 k1)), (1, oL (w2 k1 k2)), (12, .b false), (2, .b false), (2, .b false), (2, .b false), (2, .b false), (2, .b true), (4, .b true), (1, .b true), (1, .b true), (1, .b true), (1, .b false), (0, .b false), (0, .b false)]) (ps := [_, _, _, _, _, _, _, _, _, _, _, _, _, _, _]) (by kernel_rfl) ⟨(w1 k1), (w2 k1 k2), cI k3, cI k4, cI k5, cI k6, cI k7, cI k8, cI k9, cI k9, cI k9, cI k9, cI k10, cI k10, cI k10, trivial⟩
                  · refine iteRN k9 ?_
                    replace k9 := Bool.eq_false_iff.2 k9
                    exact
                      runO_sound (N := 100) (os := [(3, oL (w1 k1)), (1, oL (w2 k1 k2)), (12, .b false), (2, .b false), (2, .b false), (2, .b false), (2, .b false), (2, .b true), (4, .b false), (0, .b false), (0, .b false), (0, .b false)]) (ps := [_, _, _, _, _, _, _, _, _, _, _, _]) (by kernel_rfl) ⟨(w1 k1), (w2 k1 k2), cI k3, cI k4, cI k5, cI k6, cI k7, cI k8, cI k9, cI k9, cI k9, cI k9, trivial⟩
                · refine iteRN k8 ?_
                  replace k8 := Bool.eq_false_iff.2 k8
                  by_cases k9 : (k == 7) = true
                  · refine iteRP k9 ?_
                    by_cases k10 : (n == 0) = true
                    · refine iteRP k10 ?_
                      by_cases k11 : (s == []) = true
                      · refine iteRP k11 ?_
                        by_cases k12 : (((List.length (rowsN ns) : Nat) : Int) == ((List.length (rowsV is) : Nat) : Int)) = true
                        · refine iteRP k12 ?_
                          exact
                            runO_sound (N := 100) (os := [(3, oL (w1 k1)), (1, oL (w2 k1 k2)), (12, .b false), (2, .b false), (2, .b false), (2, .b false), (2, .b false), (2, .b false), (2, .b true), (4, .b true), (1, .b true), (1, .b true), (1, .b true), (1, .b true), (1, .b true), (1, .b true), (1, .b true), (1, .b true), (1, .b true), (1, .b true), (0, oC (w3 k1 k2 k3 k4 k5 k6 k7 k8 k9 k10 k11 k12)), (0, .b true), (1, .b true)]) (ps := [_, _, _, _, _, _, _, _, _, _, _, _, _, _, _, _, _, _, _, _, _, _, _]) (by kernel_rfl) ⟨(w1 k1), (w2 k1 k2), cI k3, cI k4, cI k5, cI k6, cI k7, cI k8, cI k9, cI k10, cI k10, cI k10, cI k10, cI k11, cI k11, cI k11, cI k11, cI k12, cI k12, cI k12, (w3 k1 k2 k3 k4 k5 k6 k7 k8 k9 k10 k11 k12), cI k12, cI k12, trivial⟩
                        · refine iteRN k12 ?_
                          replace k12 := Bool.eq_false_iff.2 k12
                          exact
                            runO_sound (N := 100) (os := [(3, oL (w1 k1)), (1, oL (w2 k1 k2)), (12, .b false), (2, .b false), (2, .b false), (2, .b false), (2, .b false), (2, .b false), (2, .b true), (4, .b true), (1, .b true), (1, .b true), (1, .b true), (1, .b true), (1, .b true), (1, .b true), (1, .b true), (1, .b false), (0, .b false), (0, .b false), (0, .b false), (0, .b false)]) (ps := [_, _, _, _, _, _, _, _, _, _, _, _, _, _, _, _, _, _, _, _, _, _]) (by kernel_rfl) ⟨(w1 k1), (w2 k1 k2), cI k3, cI k4, cI k5, cI k6, cI k7, cI k8, cI k9, cI k10, cI k10, cI k10, cI k10, cI k11, cI k11, cI k11, cI k11, cI k12, cI k12, cI k12, cI k12, cI k12, trivial⟩
                      · refine iteRN k11 ?_
                        replace k11 := Bool.eq_false_iff.2 k11
                        exact
                          runO_sound (N := 100) (os := [(3, oL (w1 k1)), (1, oL (w2 k1 k2)), (12, .b false), (2, .b false), (2, .b false), (2, .b false), (2, .b false), (2, .b false), (2, .b true), (4, .b true), (1, .b true), (1, .b true), (1, .b true), (1, .b false), (0, .b false), (0, .b false), (0, .b false)]) (ps := [_, _, _, _, _, _, _, _, _, _, _, _, _, _, _, _, _]) (by kernel_rfl) ⟨(w1 k1), (w2 k1 k2), cI k3, cI k4, cI k5, cI k6, cI k7, cI k8, cI k9, cI k10, cI k10, cI k10, cI k10, cI k11, cI k11, cI k11, cI k11, trivial⟩
                    · refine iteRN k10 ?_
                      replace k10 := Bool.eq_false_iff.2 k10
                      exact
                        runO_sound (N := 100) (os := [(3, oL (w1 k1)), (1, oL (w2 k1 k2)), (12, .b false), (2, .b false), (2, .b false), (2, .b false), (2, .b false), (2, .b false), (2, .b true), (4, .b false), (0, .b false), (0, .b false), (0, .b false)]) (ps := [_, _, _, _, _, _, _, _, _, _, _, _, _]) (by kernel_rfl) ⟨(w1 k1), (w2 k1 k2), cI k3, cI k4, cI k5, cI k6, cI k7, cI k8, cI k9, cI k10, cI k10, cI k10, cI k10, trivial⟩
                  · refine iteRN k9 ?_
                    replace k9 := Bool.eq_false_iff.2 k9
                    exact
                      runO_sound (N := 100) (os := [(3, oL (w1 k1)), (1, oL (w2 k1 k2)), (12, .b false), (2, .b false), (2, .b false), (2, .b false), (2, .b false), (2, .b false), (2, .b false)]) (ps := [_, _, _, _, _, _, _, _, _]) (by kernel_rfl) ⟨(w1 k1), (w2 k1 k2), cI k3, cI k4, cI k5, cI k6, cI k7, cI k8, cI k9, trivial⟩
    · refine iteRN k2 ?_
      replace k2 := Bool.eq_false_iff.2 k2
      exact
        runO_sound (N := 100) (os := [(3, oL (w1 k1)), (1, oL (w4 k1 k2))]) (ps := [_, _]) (by kernel_rfl) ⟨(w1 k1), (w4 k1 k2), trivial⟩
  · refine iteRN k1 ?_
    replace k1 := Bool.eq_false_iff.2 k1
    exact
      runO_sound (N := 100) (os := [(3, oL (w5 k1))]) (ps := [_]) (by kernel_rfl) ⟨(w5 k1), trivial⟩
theorem rTwJ_yy {ns : List (List UInt8)} {i j : Nat} (c1 : (decide ((j : Int) < (i : Int))) = true) (h2 : i < List.length (α := List UInt8) ns) (h3 : j < List.length (α := List UInt8) ns) (c4 : ((List.getD (α := List UInt8) ns i []) == (List.getD (α := List UInt8) ns j [])) = true) :
    LoopN lp 0 (loopNo lf69 1) (tl 0 25 [(0, .p (.sl (rowsN ns))), (3, .p (.int .i64 (i : Int))), (4, .p (.int .i64 (j : Int)))]) [] (.ret, (tl 0 25 [(2, .p (.bool true))]), []) :=
  have q1 : OpW [] (.indexAddr 1 (.const (.p (.sl (rowsN ns)))) (.const (.p (.int .i64 (i : Int))))) (.pin [.str (List.getD (α := List UInt8) ns i [])] 0) [] := (opIs_idxE rfl rfl (rowsN_get h2) rfl)
  have q2 : OpW [] (.indexAddr 1 (.const (.p (.sl (rowsN ns)))) (.const (.p (.int .i64 (j : Int))))) (.pin [.str (List.getD (α := List UInt8) ns j [])] 0) [] := (opIs_idxE rfl rfl (rowsN_get h3) rfl)
  LoopAt.out (N := 100) (os := [(3, .b true), (2, oO q1), (3, oO q2), (2, .b true)]) (ps := [_, _, _, _]) (by kernel_rfl) (by kernel_rfl) ⟨cI c1, q1, q2, cI c4, trivial⟩
theorem rTwJ_yn {ns : List (List UInt8)} {i j : Nat} (c1 : (decide ((j : Int) < (i : Int))) = true) (h2 : i < List.length (α := List UInt8) ns) (h3 : j < List.length (α := List UInt8) ns) (c4 : ((List.getD (α := List UInt8) ns i []) == (List.getD (α := List UInt8) ns j [])) = false) {r : LOut × List LV × List LObj} (hr : LoopN lp 0 (loopNo lf69 1) (tl 0 25 [(0, .p (.sl (rowsN ns))), (3, .p (.int .i64 (i : Int))), (4, .p (.int .i64 (IntKind.wrap .i64 ((j : Int) + 1))))]) [] r) :
    LoopN lp 0 (loopNo lf69 1) (tl 0 25 [(0, .p (.sl (rowsN ns))), (3, .p (.int .i64 (i : Int))), (4, .p (.int .i64 (j : Int)))]) [] r :=
  have q1 : OpW [] (.indexAddr 1 (.const (.p (.sl (rowsN ns)))) (.const (.p (.int .i64 (i : Int))))) (.pin [.str (List.getD (α := List UInt8) ns i [])] 0) [] := (opIs_idxE rfl rfl (rowsN_get h2) rfl)
  have q2 : OpW [] (.indexAddr 1 (.const (.p (.sl (rowsN ns)))) (.const (.p (.int .i64 (j : Int))))) (.pin [.str (List.getD (α := List UInt8) ns j [])] 0) [] := (opIs_idxE rfl rfl (rowsN_get h3) rfl)
  LoopAt.on (N := 100) (os := [(3, .b true), (2, oO q1), (3, oO q2), (2, .b false)]) (ps := [_, _, _, _]) (by kernel_rfl) ⟨cI c1, q1, q2, cI c4, trivial⟩ hr
theorem rTwJ_n {ns : List (List UInt8)} {i j : Nat} (c1 : (decide ((j : Int) < (i : Int))) = false) :
    LoopN lp 0 (loopNo lf69 1) (tl 0 25 [(0, .p (.sl (rowsN ns))), (3, .p (.int .i64 (i : Int))), (4, .p (.int .i64 (j : Int)))]) [] (.exit 2, (tl 0 25 [(0, .p (.sl (rowsN ns))), (3, .p (.int .i64 (i : Int)))]), []) :=
  LoopAt.out (N := 100) (os := [(3, .b false)]) (ps := [_]) (by kernel_rfl) (by kernel_rfl) ⟨cI c1, trivial⟩
theorem rTwI_yy {ns : List (List UInt8)} {i : Nat} {metB : Bool} (c1 : (decide ((i : Int) < ((List.length (rowsN ns) : Nat) : Int))) = true) (c2 : (metB) = true) (h3 : LoopN lp 0 (loopNo lf69 1) (tl 0 25 [(0, .p (.sl (rowsN ns))), (3, .p (.int .i64 (i : Int))), (4, .p (.int .i64 0))]) [] (.ret, (tl 0 25 [(2, .p (.bool true))]), [])) :
    LoopN lp 0 (loopNo lf69 0) (tl 0 25 [(0, .p (.sl (rowsN ns))), (3, .p (.int .i64 (i : Int)))]) [] (.ret, (tl 0 25 [(2, .p (.bool true))]), []) :=
  LoopAt.out (N := 100) (os := [(4, .b true), (1, oL h3)]) (ps := [_, _]) (by kernel_rfl) (by kernel_rfl) ⟨cI c1, h3, trivial⟩
theorem rTwI_yn {ns : List (List UInt8)} {i : Nat} {metB : Bool} (c1 : (decide ((i : Int) < ((List.length (rowsN ns) : Nat) : Int))) = true) (c2 : (metB) = false) (h3 : LoopN lp 0 (loopNo lf69 1) (tl 0 25 [(0, .p (.sl (rowsN ns))), (3, .p (.int .i64 (i : Int))), (4, .p (.int .i64 0))]) [] (.exit 2, (tl 0 25 [(0, .p (.sl (rowsN ns))), (3, .p (.int .i64 (i : Int)))]), [])) {r : LOut × List LV × List LObj} (hr : LoopN lp 0 (loopNo lf69 0) (tl 0 25 [(0, .p (.sl (rowsN ns))), (3, .p (.int .i64 (IntKind.wrap .i64 ((i : Int) + 1))))]) [] r) :
    LoopN lp 0 (loopNo lf69 0) (tl 0 25 [(0, .p (.sl (rowsN ns))), (3, .p (.int .i64 (i : Int)))]) [] r :=
  LoopAt.on (N := 100) (os := [(4, .b true), (1, oL h3)]) (ps := [_, _]) (by kernel_rfl) ⟨cI c1, h3, trivial⟩ hr
theorem rTwI_n {ns : List (List UInt8)} {i : Nat} (c1 : (decide ((i : Int) < ((List.length (rowsN ns) : Nat) : Int))) = false) :
    LoopN lp 0 (loopNo lf69 0) (tl 0 25 [(0, .p (.sl (rowsN ns))), (3, .p (.int .i64 (i : Int)))]) [] (.exit 0, (tl 0 25 []), []) :=
  LoopAt.out (N := 100) (os := [(4, .b false)]) (ps := [_]) (by kernel_rfl) (by kernel_rfl) ⟨cI c1, trivial⟩
theorem rTw {ns : List (List UInt8)} (w1 : (twiceB ns) = true → LoopN lp 0 (loopNo lf69 0) (tl 0 25 [(0, .p (.sl (rowsN ns))), (3, .p (.int .i64 0))]) [] (.ret, (tl 0 25 [(2, .p (.bool true))]), [])) (w2 : (twiceB ns) = false → LoopN lp 0 (loopNo lf69 0) (tl 0 25 [(0, .p (.sl (rowsN ns))), (3, .p (.int .i64 0))]) [] (.exit 0, (tl 0 25 []), [])) :
    Runs lp 69 [.p (.sl (rowsN ns))] [] (if (twiceB ns) = true then ((.p (.bool true), [])) else ((.p (.bool false), []))) := by
  by_cases k1 : (twiceB ns) = true
  · refine iteRP k1 ?_
    exact
      runO_sound (N := 100) (os := [(2, oL (w1 k1))]) (ps := [_]) (by kernel_rfl) ⟨(w1 k1), trivial⟩
  · refine iteRN k1 ?_
    replace k1 := Bool.eq_false_iff.2 k1
    exact
      runO_sound (N := 100) (os := [(2, oL (w2 k1))]) (ps := [_]) (by kernel_rfl) ⟨(w2 k1), trivial⟩
theorem vMay1 {k n : Int} {s : List UInt8} {is : List Val} {ns : List (List UInt8)} (w1 : Runs lp 52 [.agg [.p (.int .i64 k), .p (.int .i64 n), .p (.str s), .p (.sl (rowsV is)), .p (.sl (rowsN ns))]] [] (.p (.bool (mayV (Val.mk k n s is ns))), [])) :
    Runs lp 72 [.agg [.p (.int .i64 k), .p (.int .i64 n), .p (.str s), .p (.sl (rowsV is)), .p (.sl (rowsN ns))]] [] ((.p (.bool (!(mayV (Val.mk k n s is ns)))), [])) := by
  exact
    runO_sound (N := 100) (os := [(3, oC w1)]) (ps := [_]) (by kernel_rfl) ⟨w1, trivial⟩
theorem vIdxR_yy {is : List Val} {i : Nat} (ke ne : Int) (se : List UInt8) (ise : List Val) (nse : List (List UInt8)) (c1 : (decide ((i : Int) < ((List.length (rowsV is) : Nat) : Int))) = true) (h2 : is[i]? = some (Val.mk ke ne se ise nse)) (h3 : Runs lp 72 [.agg [.p (.int .i64 ke), .p (.int .i64 ne), .p (.str se), .p (.sl (rowsV ise)), .p (.sl (rowsN nse))]] [] (.p (.bool (!(mayV (Val.mk ke ne se ise nse)))), [])) (c4 : (mayV (Val.mk ke ne se ise nse)) = true) {r : LOut × List LV × List LObj} (hr : LoopN lp 0 (loopNo lf82 0) (tl 0 19 [(0, .p (.sl (rowsV is))), (1, .fn (.func 72) [] []), (7, .p (.int .i64 ((List.length (rowsV is) : Nat) : Int))), (8, .p (.int .i64 (IntKind.wrap .i64 ((i : Int) + 1))))]) [] r) :
    LoopN lp 0 (loopNo lf82 0) (tl 0 19 [(0, .p (.sl (rowsV is))), (1, .fn (.func 72) [] []), (7, .p (.int .i64 ((List.length (rowsV is) : Nat) : Int))), (8, .p (.int .i64 (i : Int)))]) [] r :=
  have q1 : OpW [] (.indexAddr 5 (.const (.p (.sl (rowsV is)))) (.const (.p (.int .i64 (i : Int))))) (.pin [.int .i64 ke, .int .i64 ne, .str se, .sl (rowsV ise), .sl (rowsN nse)] 0) [] := (opIs_idxE rfl rfl (rowsV_get h2) rfl)
  LoopAt.on (N := 100) (os := [(1, .b true), (5, oO q1), (1, oC h3), (0, .b false)]) (ps := [_, _, _, _]) (by kernel_rfl) ⟨cI c1, q1, h3, (cI (notI c4)), trivial⟩ hr
theorem vIdxR_yn {is : List Val} {i : Nat} (ke ne : Int) (se : List UInt8) (ise : List Val) (nse : List (List UInt8)) (c1 : (decide ((i : Int) < ((List.length (rowsV is) : Nat) : Int))) = true) (h2 : is[i]? = some (Val.mk ke ne se ise nse)) (h3 : Runs lp 72 [.agg [.p (.int .i64 ke), .p (.int .i64 ne), .p (.str se), .p (.sl (rowsV ise)), .p (.sl (rowsN nse))]] [] (.p (.bool (!(mayV (Val.mk ke ne se ise nse)))), [])) (c4 : (mayV (Val.mk ke ne se ise nse)) = false) :
    LoopN lp 0 (loopNo lf82 0) (tl 0 19 [(0, .p (.sl (rowsV is))), (1, .fn (.func 72) [] []), (7, .p (.int .i64 ((List.length (rowsV is) : Nat) : Int))), (8, .p (.int .i64 (i : Int)))]) [] (.ret, (tl 0 19 [(4, .p (.int .i64 (i : Int)))]), []) :=
  have q1 : OpW [] (.indexAddr 5 (.const (.p (.sl (rowsV is)))) (.const (.p (.int .i64 (i : Int))))) (.pin [.int .i64 ke, .int .i64 ne, .str se, .sl (rowsV ise), .sl (rowsN nse)] 0) [] := (opIs_idxE rfl rfl (rowsV_get h2) rfl)
  LoopAt.out (N := 100) (os := [(1, .b true), (5, oO q1), (1, oC h3), (0, .b true)]) (ps := [_, _, _, _]) (by kernel_rfl) (by kernel_rfl) ⟨cI c1, q1, h3, (cI (notI c4)), trivial⟩
theorem vIdxR_n {is : List Val} {i : Nat} (c1 : (decide ((i : Int) < ((List.length (rowsV is) : Nat) : Int))) = false) :
    LoopN lp 0 (loopNo lf82 0) (tl 0 19 [(0, .p (.sl (rowsV is))), (1, .fn (.func 72) [] []), (7, .p (.int .i64 ((List.length (rowsV is) : Nat) : Int))), (8, .p (.int .i64 (i : Int)))]) [] (.exit 0, (tl 0 19 []), []) :=
  LoopAt.out (N := 100) (os := [(1, .b false)]) (ps := [_]) (by kernel_rfl) (by kernel_rfl) ⟨cI c1, trivial⟩
theorem vIdx0 {is : List Val} {i : Nat} (w1 : (mayL is) = true → LoopN lp 0 (loopNo lf82 0) (tl 0 19 [(0, .p (.sl (rowsV is))), (1, .fn (.func 72) [] []), (7, .p (.int .i64 ((List.length (rowsV is) : Nat) : Int))), (8, .p (.int .i64 0))]) [] (.exit 0, (tl 0 19 []), [])) (w2 : (mayL is) = false → LoopN lp 0 (loopNo lf82 0) (tl 0 19 [(0, .p (.sl (rowsV is))), (1, .fn (.func 72) [] []), (7, .p (.int .i64 ((List.length (rowsV is) : Nat) : Int))), (8, .p (.int .i64 0))]) [] (.ret, (tl 0 19 [(4, .p (.int .i64 (i : Int)))]), [])) :
    Runs lp 82 [.p (.sl (rowsV is)), .fn (.func 72) [] []] [] (if (mayL is) = true then ((.p (.int .i64 (-1)), [])) else ((.p (.int .i64 (i : Int)), []))) := by
  by_cases k1 : (mayL is) = true
  · refine iteRP k1 ?_
    exact
      runO_sound (N := 100) (os := [(4, oL (w1 k1))]) (ps := [_]) (by kernel_rfl) ⟨(w1 k1), trivial⟩
  · refine iteRN k1 ?_
    replace k1 := Bool.eq_false_iff.2 k1
    exact
      runO_sound (N := 100) (os := [(4, oL (w2 k1))]) (ps := [_]) (by kernel_rfl) ⟨(w2 k1), trivial⟩
theorem vCon0 {is : List Val} {i : Nat} (w1 : (mayL is) = true → Runs lp 82 [.p (.sl (rowsV is)), .fn (.func 72) [] []] [] (.p (.int .i64 (-1)), [])) (w2 : (mayL is) = false → Runs lp 82 [.p (.sl (rowsV is)), .fn (.func 72) [] []] [] (.p (.int .i64 (i : Int)), [])) :
    Runs lp 71 [.p (.sl (rowsV is)), .fn (.func 72) [] []] [] (if (mayL is) = true then ((.p (.bool false), [])) else ((.p (.bool (decide ((i : Int) ≥ 0))), []))) := by
  by_cases k1 : (mayL is) = true
  · refine iteRP k1 ?_
    exact
      runO_sound (N := 100) (os := [(3, oC (w1 k1))]) (ps := [_]) (by kernel_rfl) ⟨(w1 k1), trivial⟩
  · refine iteRN k1 ?_
    replace k1 := Bool.eq_false_iff.2 k1
    exact
      runO_sound (N := 100) (os := [(3, oC (w2 k1))]) (ps := [_]) (by kernel_rfl) ⟨(w2 k1), trivial⟩
theorem vNamesR_yyy {ns ms : List (List UInt8)} {i : Nat} (c1 : (decide ((i : Int) < ((List.length (rowsN ns) : Nat) : Int))) = true) (h2 : i < List.length (α := List UInt8) ns) (h3 : Runs lp 81 [.p (.str (List.getD (α := List UInt8) ns i []))] [] (.p (.bool (nameB (List.getD (α := List UInt8) ns i []))), [])) (c4 : (nameB (List.getD (α := List UInt8) ns i [])) = true) (c5 : (List.contains ms (List.getD (α := List UInt8) ns i [])) = true) :
    LoopN lp 0 (loopNo lf70 0) (tl 0 24 [(3, .mp 0), (7, .p (.sl (rowsN ns))), (8, .p (.int .i64 ((List.length (rowsN ns) : Nat) : Int))), (9, .p (.int .i64 (i : Int)))]) [.map (seenM ms)] (.ret, (tl 0 24 [(2, .p (.bool false))]), [.map (seenM ms)]) :=
  have q1 : OpW [.map (seenM ms)] (.indexAddr 1 (.const (.p (.sl (rowsN ns)))) (.const (.p (.int .i64 (i : Int))))) (.pin [.str (List.getD (α := List UInt8) ns i [])] 0) [.map (seenM ms)] := (opIs_idxE rfl rfl (rowsN_get h2) rfl)
  have q2 : OpW [.map (seenM ms)] (.lookup .str (.p (.bool false)) false (.const (.mp 0)) (.const (.p (.str (List.getD (α := List UInt8) ns i []))))) (.p (.bool (List.contains ms (List.getD (α := List UInt8) ns i [])))) [.map (seenM ms)] := (opIs_seen rfl)
  LoopAt.out (N := 100) (os := [(1, .b true), (0, oO q1), (3, oC h3), (2, .b false), (1, .b false), (1, .b false), (0, oO q2), (0, .b false), (0, .b true)]) (ps := [_, _, _, _, _, _, _, _, _]) (by kernel_rfl) (by kernel_rfl) ⟨cI c1, q1, h3, (cI (notI c4)), (cI (notI c4)), (cI (notI c4)), q2, (cI (notI c4)), cI c5, trivial⟩
theorem vNamesR_yyn {ns ms : List (List UInt8)} {i : Nat} (c1 : (decide ((i : Int) < ((List.length (rowsN ns) : Nat) : Int))) = true) (h2 : i < List.length (α := List UInt8) ns) (h3 : Runs lp 81 [.p (.str (List.getD (α := List UInt8) ns i []))] [] (.p (.bool (nameB (List.getD (α := List UInt8) ns i []))), [])) (c4 : (nameB (List.getD (α := List UInt8) ns i [])) = true) (c5 : (List.contains ms (List.getD (α := List UInt8) ns i [])) = false) (h6 : List.contains ms (List.getD (α := List UInt8) ns i []) = false) {r : LOut × List LV × List LObj} (hr : LoopN lp 0 (loopNo lf70 0) (tl 0 24 [(3, .mp 0), (7, .p (.sl (rowsN ns))), (8, .p (.int .i64 ((List.length (rowsN ns) : Nat) : Int))), (9, .p (.int .i64 (IntKind.wrap .i64 ((i : Int) + 1))))]) [.map (seenM (ms ++ [(List.getD (α := List UInt8) ns i [])]))] r) :
    LoopN lp 0 (loopNo lf70 0) (tl 0 24 [(3, .mp 0), (7, .p (.sl (rowsN ns))), (8, .p (.int .i64 ((List.length (rowsN ns) : Nat) : Int))), (9, .p (.int .i64 (i : Int)))]) [.map (seenM ms)] r :=
  have q1 : OpW [.map (seenM ms)] (.indexAddr 1 (.const (.p (.sl (rowsN ns)))) (.const (.p (.int .i64 (i : Int))))) (.pin [.str (List.getD (α := List UInt8) ns i [])] 0) [.map (seenM ms)] := (opIs_idxE rfl rfl (rowsN_get h2) rfl)
  have q2 : OpW [.map (seenM ms)] (.lookup .str (.p (.bool false)) false (.const (.mp 0)) (.const (.p (.str (List.getD (α := List UInt8) ns i []))))) (.p (.bool (List.contains ms (List.getD (α := List UInt8) ns i [])))) [.map (seenM ms)] := (opIs_seen rfl)
  have q3 : OpW [.map (seenM ms)] (.mapUpdate .str (.const (.mp 0)) (.const (.p (.str (List.getD (α := List UInt8) ns i [])))) (.const (.p (.bool true)))) (.tup []) [.map (seenM (ms ++ [(List.getD (α := List UInt8) ns i [])]))] := (opIs_see rfl h6)
  LoopAt.onG (N := 100) (t1 := (tl 0 24 [(3, .mp 0), (7, .p (.sl (rowsN ns))), (8, .p (.int .i64 ((List.length (rowsN ns) : Nat) : Int))), (9, .p (.int .i64 (IntKind.wrap .i64 ((i : Int) + 1)))), (23, .p (.int .i64 (IntKind.wrap .i64 ((i : Int) + 1))))])) (st1 := [.map (seenM (ms ++ [(List.getD (α := List UInt8) ns i [])]))]) (os := [(1, .b true), (0, oO q1), (3, oC h3), (2, .b false), (1, .b false), (1, .b false), (0, oO q2), (0, .b false), (0, .b false), (2, oO q3)]) (ps := [_, _, _, _, _, _, _, _, _, _]) (os' := []) (by kernel_rfl) (by kernel_rfl) (gc_seen (by kernel_rfl) (by kernel_rfl)) ⟨cI c1, q1, h3, (cI (notI c4)), (cI (notI c4)), (cI (notI c4)), q2, (cI (notI c4)), cI c5, q3, trivial⟩ hr
theorem vNamesR_yn {ns ms : List (List UInt8)} {i : Nat} (c1 : (decide ((i : Int) < ((List.length (rowsN ns) : Nat) : Int))) = true) (h2 : i < List.length (α := List UInt8) ns) (h3 : Runs lp 81 [.p (.str (List.getD (α := List UInt8) ns i []))] [] (.p (.bool (nameB (List.getD (α := List UInt8) ns i []))), [])) (c4 : (nameB (List.getD (α := List UInt8) ns i [])) = false) :
    LoopN lp 0 (loopNo lf70 0) (tl 0 24 [(3, .mp 0), (7, .p (.sl (rowsN ns))), (8, .p (.int .i64 ((List.length (rowsN ns) : Nat) : Int))), (9, .p (.int .i64 (i : Int)))]) [.map (seenM ms)] (.ret, (tl 0 24 [(2, .p (.bool false))]), [.map (seenM ms)]) :=
  have q1 : OpW [.map (seenM ms)] (.indexAddr 1 (.const (.p (.sl (rowsN ns)))) (.const (.p (.int .i64 (i : Int))))) (.pin [.str (List.getD (α := List UInt8) ns i [])] 0) [.map (seenM ms)] := (opIs_idxE rfl rfl (rowsN_get h2) rfl)
  LoopAt.out (N := 100) (os := [(1, .b true), (0, oO q1), (3, oC h3), (2, .b true), (0, .b true), (0, .b true), (0, .b true)]) (ps := [_, _, _, _, _, _, _]) (by kernel_rfl) (by kernel_rfl) ⟨cI c1, q1, h3, (cI (notI c4)), (cI (notI c4)), (cI (notI c4)), (cI (notI c4)), trivial⟩
theorem vNamesR_n {ns ms : List (List UInt8)} {i : Nat} (c1 : (decide ((i : Int) < ((List.length (rowsN ns) : Nat) : Int))) = false) :
    LoopN lp 0 (loopNo lf70 0) (tl 0 24 [(3, .mp 0), (7, .p (.sl (rowsN ns))), (8, .p (.int .i64 ((List.length (rowsN ns) : Nat) : Int))), (9, .p (.int .i64 (i : Int)))]) [.map (seenM ms)] (.exit 0, (tl 0 24 []), [.map (seenM ms)]) :=
  LoopAt.out (N := 100) (os := [(1, .b false)]) (ps := [_]) (by kernel_rfl) (by kernel_rfl) ⟨cI c1, trivial⟩
theorem vNames0_y {ns ms : List (List UInt8)} {okN : Bool} (c1 : (okN) = true) (h2 : LoopN lp 0 (loopNo lf70 0) (tl 0 24 [(3, .mp 0), (7, .p (.sl (rowsN ns))), (8, .p (.int .i64 ((List.length (rowsN ns) : Nat) : Int))), (9, .p (.int .i64 0))]) [.map []] (.exit 0, (tl 0 24 []), [.map (seenM ms)])) :
    Runs lp 70 [.p (.sl (rowsN ns))] [] (.p (.bool true), []) :=
  runO_sound (N := 100) (os := [(6, oL h2)]) (ps := [_]) (by kernel_rfl) ⟨h2, trivial⟩
theorem vNames0_n {ns ms : List (List UInt8)} {okN : Bool} (c1 : (okN) = false) (h2 : LoopN lp 0 (loopNo lf70 0) (tl 0 24 [(3, .mp 0), (7, .p (.sl (rowsN ns))), (8, .p (.int .i64 ((List.length (rowsN ns) : Nat) : Int))), (9, .p (.int .i64 0))]) [.map []] (.ret, (tl 0 24 [(2, .p (.bool false))]), [.map (seenM ms)])) :
    Runs lp 70 [.p (.sl (rowsN ns))] [] (.p (.bool false), []) :=
  runO_sound (N := 100) (os := [(6, oL h2)]) (ps := [_]) (by kernel_rfl) ⟨h2, trivial⟩
theorem vMay1_ {n : Int} {s : List UInt8} {is : List Val} {ns : List (List UInt8)} (w1 : (decide (((List.length (rowsV is) : Nat) : Int) > 0)) = false → (n == 0) = true → (s == []) = true → (decide (((List.length (rowsN ns) : Nat) : Int) > 0)) = false → Runs lp 71 [.p (.sl (rowsV is)), .fn (.func 72) [] []] [] (.p (.bool (!(mayL is))), [])) :
    Runs lp 52 [.agg [.p (.int .i64 1), .p (.int .i64 n), .p (.str s), .p (.sl (rowsV is)), .p (.sl (rowsN ns))]] [] (if (decide (((List.length (rowsV is) : Nat) : Int) > 0)) = true then ((.p (.bool false), [])) else (if (n == 0) = true then (if (s == []) = true then (if (decide (((List.length (rowsN ns) : Nat) : Int) > 0)) = true then ((.p (.bool false), [])) else ((.p (.bool (!(!(mayL is)))), []))) else ((.p (.bool false), []))) else ((.p (.bool false), [])))) := by
  by_cases k1 : (decide (((List.length (rowsV is) : Nat) : Int) > 0)) = true
  · refine iteRP k1 ?_
    exact
      runO_sound (N := 100) (os := [(56, .b true), (1, .b true), (1, .b true)]) (ps := [_, _, _]) (by kernel_rfl) ⟨cI k1, cI k1, cI k1, trivial⟩
  · refine iteRN k1 ?_
    replace k1 := Bool.eq_false_iff.2 k1
    by_cases k2 : (n == 0) = true
    · refine iteRP k2 ?_
      by_cases k3 : (s == []) = true
      · refine iteRP k3 ?_
        by_cases k4 : (decide (((List.length (rowsN ns) : Nat) : Int) > 0)) = true
        · refine iteRP k4 ?_
          exact
            runO_sound (N := 100) (os := [(56, .b false), (0, .b false), (0, .b false), (6, .b false), (0, .b false), (0, .b false), (6, .b false), (0, .b false), (0, .b false), (31, .b true)]) (ps := [_, _, _, _, _, _, _, _, _, _]) (by kernel_rfl) ⟨cI k1, cI k1, cI k1, (cI (notI k2)), (cI (notI k2)), (cI (notI k2)), (cI (notI k3)), (cI (notI k3)), (cI (notI k3)), cI k4, trivial⟩
        · refine iteRN k4 ?_
          replace k4 := Bool.eq_false_iff.2 k4
          exact
            runO_sound (N := 100) (os := [(56, .b false), (0, .b false), (0, .b false), (6, .b false), (0, .b false), (0, .b false), (6, .b false), (0, .b false), (0, .b false), (31, .b false), (22, oC (w1 k1 k2 k3 k4))]) (ps := [_, _, _, _, _, _, _, _, _, _, _]) (by kernel_rfl) ⟨cI k1, cI k1, cI k1, (cI (notI k2)), (cI (notI k2)), (cI (notI k2)), (cI (notI k3)), (cI (notI k3)), (cI (notI k3)), cI k4, (w1 k1 k2 k3 k4), trivial⟩
      · refine iteRN k3 ?_
        replace k3 := Bool.eq_false_iff.2 k3
        exact
          runO_sound (N := 100) (os := [(56, .b false), (0, .b false), (0, .b false), (6, .b false), (0, .b false), (0, .b false), (6, .b true), (1, .b true), (1, .b true)]) (ps := [_, _, _, _, _, _, _, _, _]) (by kernel_rfl) ⟨cI k1, cI k1, cI k1, (cI (notI k2)), (cI (notI k2)), (cI (notI k2)), (cI (notI k3)), (cI (notI k3)), (cI (notI k3)), trivial⟩
    · refine iteRN k2 ?_
      replace k2 := Bool.eq_false_iff.2 k2
      exact
        runO_sound (N := 100) (os := [(56, .b false), (0, .b false), (0, .b false), (6, .b true), (1, .b true), (1, .b true)]) (ps := [_, _, _, _, _, _]) (by kernel_rfl) ⟨cI k1, cI k1, cI k1, (cI (notI k2)), (cI (notI k2)), (cI (notI k2)), trivial⟩
theorem vMay2_ {n : Int} {s : List UInt8} {is : List Val} {ns : List (List UInt8)} (w1 : (decide (((List.length (rowsV is) : Nat) : Int) > 0)) = false → (n == 0) = true → (s == []) = true → (decide (((List.length (rowsN ns) : Nat) : Int) > 0)) = false → Runs lp 71 [.p (.sl (rowsV is)), .fn (.func 72) [] []] [] (.p (.bool (!(mayL is))), [])) (w2 : (decide (((List.length (rowsV is) : Nat) : Int) > 0)) = false → (n == 0) = false → (s == []) = true → (n == 1) = true → (decide (((List.length (rowsN ns) : Nat) : Int) > 0)) = false → Runs lp 71 [.p (.sl (rowsV is)), .fn (.func 72) [] []] [] (.p (.bool (!(mayL is))), [])) :
    Runs lp 52 [.agg [.p (.int .i64 2), .p (.int .i64 n), .p (.str s), .p (.sl (rowsV is)), .p (.sl (rowsN ns))]] [] (if (decide (((List.length (rowsV is) : Nat) : Int) > 0)) = true then ((.p (.bool false), [])) else (if (n == 0) = true then (if (s == []) = true then (if (decide (((List.length (rowsN ns) : Nat) : Int) > 0)) = true then ((.p (.bool false), [])) else ((.p (.bool (!(!(mayL is)))), []))) else ((.p (.bool false), []))) else (if (s == []) = true then (if (n == 1) = true then (if (decide (((List.length (rowsN ns) : Nat) : Int) > 0)) = true then ((.p (.bool false), [])) else ((.p (.bool (!(!(mayL is)))), []))) else ((.p (.bool false), []))) else ((.p (.bool false), []))))) := by
  by_cases k1 : (decide (((List.length (rowsV is) : Nat) : Int) > 0)) = true
  · refine iteRP k1 ?_
    exact
      runO_sound (N := 100) (os := [(56, .b true), (1, .b true), (1, .b true)]) (ps := [_, _, _]) (by kernel_rfl) ⟨cI k1, cI k1, cI k1, trivial⟩
  · refine iteRN k1 ?_
    replace k1 := Bool.eq_false_iff.2 k1
    by_cases k2 : (n == 0) = true
    · refine iteRP k2 ?_
      by_cases k3 : (s == []) = true
      · refine iteRP k3 ?_
        by_cases k4 : (decide (((List.length (rowsN ns) : Nat) : Int) > 0)) = true
        · refine iteRP k4 ?_
          exact
            runO_sound (N := 100) (os := [(56, .b false), (0, .b false), (0, .b false), (6, .b false), (0, .b false), (0, .b false), (6, .b false), (0, .b false), (0, .b false), (14, .b false), (0, .b false), (0, .b false), (0, .b false), (16, .b true)]) (ps := [_, _, _, _, _, _, _, _, _, _, _, _, _, _]) (by kernel_rfl) ⟨cI k1, cI k1, cI k1, (cI (notI k2)), (cI (notI k2)), (cI (notI k2)), (cI (notI k3)), (cI (notI k3)), (cI (notI k3)), (cI (notI k2)), (cI (notI k2)), (cI (notI k2)), (cI (notI k2)), cI k4, trivial⟩
        · refine iteRN k4 ?_
          replace k4 := Bool.eq_false_iff.2 k4
          exact
            runO_sound (N := 100) (os := [(56, .b false), (0, .b false), (0, .b false), (6, .b false), (0, .b false), (0, .b false), (6, .b false), (0, .b false), (0, .b false), (14, .b false), (0, .b false), (0, .b false), (0, .b false), (16, .b false), (22, oC (w1 k1 k2 k3 k4))]) (ps := [_, _, _, _, _, _, _, _, _, _, _, _, _, _, _]) (by kernel_rfl) ⟨cI k1, cI k1, cI k1, (cI (notI k2)), (cI (notI k2)), (cI (notI k2)), (cI (notI k3)), (cI (notI k3)), (cI (notI k3)), (cI (notI k2)), (cI (notI k2)), (cI (notI k2)), (cI (notI k2)), cI k4, (w1 k1 k2 k3 k4), trivial⟩
      · refine iteRN k3 ?_
        replace k3 := Bool.eq_false_iff.2 k3
        exact
          runO_sound (N := 100) (os := [(56, .b false), (0, .b false), (0, .b false), (6, .b false), (0, .b false), (0, .b false), (6, .b true), (1, .b true), (1, .b true)]) (ps := [_, _, _, _, _, _, _, _, _]) (by kernel_rfl) ⟨cI k1, cI k1, cI k1, (cI (notI k2)), (cI (notI k2)), (cI (notI k2)), (cI (notI k3)), (cI (notI k3)), (cI (notI k3)), trivial⟩
    · refine iteRN k2 ?_
      replace k2 := Bool.eq_false_iff.2 k2
      by_cases k3 : (s == []) = true
      · refine iteRP k3 ?_
        by_cases k4 : (n == 1) = true
        · refine iteRP k4 ?_
          by_cases k5 : (decide (((List.length (rowsN ns) : Nat) : Int) > 0)) = true
          · refine iteRP k5 ?_
            exact
              runO_sound (N := 100) (os := [(56, .b false), (0, .b false), (0, .b false), (6, .b true), (1, .b true), (1, .b true), (6, .b false), (0, .b false), (0, .b false), (14, .b true), (1, .b true), (1, .b true), (1, .b true), (1, .b false), (14, .b true)]) (ps := [_, _, _, _, _, _, _, _, _, _, _, _, _, _, _]) (by kernel_rfl) ⟨cI k1, cI k1, cI k1, (cI (notI k2)), (cI (notI k2)), (cI (notI k2)), (cI (notI k3)), (cI (notI k3)), (cI (notI k3)), (cI (notI k2)), (cI (notI k2)), (cI (notI k2)), (cI (notI k2)), (cI (notI k4)), cI k5, trivial⟩
          · refine iteRN k5 ?_
            replace k5 := Bool.eq_false_iff.2 k5
            exact
              runO_sound (N := 100) (os := [(56, .b false), (0, .b false), (0, .b false), (6, .b true), (1, .b true), (1, .b true), (6, .b false), (0, .b false), (0, .b false), (14, .b true), (1, .b true), (1, .b true), (1, .b true), (1, .b false), (14, .b false), (22, oC (w2 k1 k2 k3 k4 k5))]) (ps := [_, _, _, _, _, _, _, _, _, _, _, _, _, _, _, _]) (by kernel_rfl) ⟨cI k1, cI k1, cI k1, (cI (notI k2)), (cI (notI k2)), (cI (notI k2)), (cI (notI k3)), (cI (notI k3)), (cI (notI k3)), (cI (notI k2)), (cI (notI k2)), (cI (notI k2)), (cI (notI k2)), (cI (notI k4)), cI k5, (w2 k1 k2 k3 k4 k5), trivial⟩
        · refine iteRN k4 ?_
          replace k4 := Bool.eq_false_iff.2 k4
          exact
            runO_sound (N := 100) (os := [(56, .b false), (0, .b false), (0, .b false), (6, .b true), (1, .b true), (1, .b true), (6, .b false), (0, .b false), (0, .b false), (14, .b true), (1, .b true), (1, .b true), (1, .b true), (1, .b true)]) (ps := [_, _, _, _, _, _, _, _, _, _, _, _, _, _]) (by kernel_rfl) ⟨cI k1, cI k1, cI k1, (cI (notI k2)), (cI (notI k2)), (cI (notI k2)), (cI (notI k3)), (cI (notI k3)), (cI (notI k3)), (cI (notI k2)), (cI (notI k2)), (cI (notI k2)), (cI (notI k2)), (cI (notI k4)), trivial⟩
      · refine iteRN k3 ?_
        replace k3 := Bool.eq_false_iff.2 k3
        exact
          runO_sound (N := 100) (os := [(56, .b false), (0, .b false), (0, .b false), (6, .b true), (1, .b true), (1, .b true), (6, .b true), (1, .b true), (1, .b true)]) (ps := [_, _, _, _, _, _, _, _, _]) (by kernel_rfl) ⟨cI k1, cI k1, cI k1, (cI (notI k2)), (cI (notI k2)), (cI (notI k2)), (cI (notI k3)), (cI (notI k3)), (cI (notI k3)), trivial⟩
theorem vMay3_ {n : Int} {s : List UInt8} {is : List Val} {ns : List (List UInt8)} (w1 : (decide (((List.length (rowsV is) : Nat) : Int) > 0)) = false → (n == 0) = true → (s == []) = true → (decide (((List.length (rowsN ns) : Nat) : Int) > 0)) = false → Runs lp 71 [.p (.sl (rowsV is)), .fn (.func 72) [] []] [] (.p (.bool (!(mayL is))), [])) (w2 : (decide (((List.length (rowsV is) : Nat) : Int) > 0)) = false → (n == 0) = false → (s == []) = true → (decide (((List.length (rowsN ns) : Nat) : Int) > 0)) = false → Runs lp 71 [.p (.sl (rowsV is)), .fn (.func 72) [] []] [] (.p (.bool (!(mayL is))), [])) :
    Runs lp 52 [.agg [.p (.int .i64 3), .p (.int .i64 n), .p (.str s), .p (.sl (rowsV is)), .p (.sl (rowsN ns))]] [] (if (decide (((List.length (rowsV is) : Nat) : Int) > 0)) = true then ((.p (.bool false), [])) else (if (n == 0) = true then (if (s == []) = true then (if (decide (((List.length (rowsN ns) : Nat) : Int) > 0)) = true then ((.p (.bool false), [])) else ((.p (.bool (!(!(mayL is)))), []))) else ((.p (.bool false), []))) else (if (s == []) = true then (if (decide (((List.length (rowsN ns) : Nat) : Int) > 0)) = true then ((.p (.bool false), [])) else ((.p (.bool (!(!(mayL is)))), []))) else ((.p (.bool false), []))))) := by
  by_cases k1 : (decide (((List.length (rowsV is) : Nat) : Int) > 0)) = true
  · refine iteRP k1 ?_
    exact
      runO_sound (N := 100) (os := [(53, .b true), (1, .b true), (1, .b true)]) (ps := [_, _, _]) (by kernel_rfl) ⟨cI k1, cI k1, cI k1, trivial⟩
  · refine iteRN k1 ?_
    replace k1 := Bool.eq_false_iff.2 k1
    by_cases k2 : (n == 0) = true
    · refine iteRP k2 ?_
      by_cases k3 : (s == []) = true
      · refine iteRP k3 ?_
        by_cases k4 : (decide (((List.length (rowsN ns) : Nat) : Int) > 0)) = true
        · refine iteRP k4 ?_
          exact
            runO_sound (N := 100) (os := [(53, .b false), (0, .b false), (0, .b false), (6, .b false), (0, .b false), (0, .b false), (6, .b false), (0, .b false), (0, .b false), (31, .b true)]) (ps := [_, _, _, _, _, _, _, _, _, _]) (by kernel_rfl) ⟨cI k1, cI k1, cI k1, (cI (notI k2)), (cI (notI k2)), (cI (notI k2)), (cI (notI k3)), (cI (notI k3)), (cI (notI k3)), cI k4, trivial⟩
        · refine iteRN k4 ?_
          replace k4 := Bool.eq_false_iff.2 k4
          exact
            runO_sound (N := 100) (os := [(53, .b false), (0, .b false), (0, .b false), (6, .b false), (0, .b false), (0, .b false), (6, .b false), (0, .b false), (0, .b false), (31, .b false), (22, oC (w1 k1 k2 k3 k4))]) (ps := [_, _, _, _, _, _, _, _, _, _, _]) (by kernel_rfl) ⟨cI k1, cI k1, cI k1, (cI (notI k2)), (cI (notI k2)), (cI (notI k2)), (cI (notI k3)), (cI (notI k3)), (cI (notI k3)), cI k4, (w1 k1 k2 k3 k4), trivial⟩
      · refine iteRN k3 ?_
        replace k3 := Bool.eq_false_iff.2 k3
        exact
          runO_sound (N := 100) (os := [(53, .b false), (0, .b false), (0, .b false), (6, .b false), (0, .b false), (0, .b false), (6, .b true), (1, .b true), (1, .b true)]) (ps := [_, _, _, _, _, _, _, _, _]) (by kernel_rfl) ⟨cI k1, cI k1, cI k1, (cI (notI k2)), (cI (notI k2)), (cI (notI k2)), (cI (notI k3)), (cI (notI k3)), (cI (notI k3)), trivial⟩
    · refine iteRN k2 ?_
      replace k2 := Bool.eq_false_iff.2 k2
      by_cases k3 : (s == []) = true
      · refine iteRP k3 ?_
        by_cases k4 : (decide (((List.length (rowsN ns) : Nat) : Int) > 0)) = true
        · refine iteRP k4 ?_
          exact
            runO_sound (N := 100) (os := [(53, .b false), (0, .b false), (0, .b false), (6, .b true), (1, .b true), (1, .b true), (6, .b false), (0, .b false), (0, .b false), (31, .b true)]) (ps := [_, _, _, _, _, _, _, _, _, _]) (by kernel_rfl) ⟨cI k1, cI k1, cI k1, (cI (notI k2)), (cI (notI k2)), (cI (notI k2)), (cI (notI k3)), (cI (notI k3)), (cI (notI k3)), cI k4, trivial⟩
        · refine iteRN k4 ?_
          replace k4 := Bool.eq_false_iff.2 k4
          exact
            runO_sound (N := 100) (os := [(53, .b false), (0, .b false), (0, .b false), (6, .b true), (1, .b true), (1, .b true), (6, .b false), (0, .b false), (0, .b false), (31, .b false), (22, oC (w2 k1 k2 k3 k4))]) (ps := [_, _, _, _, _, _, _, _, _, _, _]) (by kernel_rfl) ⟨cI k1, cI k1, cI k1, (cI (notI k2)), (cI (notI k2)), (cI (notI k2)), (cI (notI k3)), (cI (notI k3)), (cI (notI k3)), cI k4, (w2 k1 k2 k3 k4), trivial⟩
      · refine iteRN k3 ?_
        replace k3 := Bool.eq_false_iff.2 k3
        exact
          runO_sound (N := 100) (os := [(53, .b false), (0, .b false), (0, .b false), (6, .b true), (1, .b true), (1, .b true), (6, .b true), (1, .b true), (1, .b true)]) (ps := [_, _, _, _, _, _, _, _, _]) (by kernel_rfl) ⟨cI k1, cI k1, cI k1, (cI (notI k2)), (cI (notI k2)), (cI (notI k2)), (cI (notI k3)), (cI (notI k3)), (cI (notI k3)), trivial⟩
theorem vMay4_ {n : Int} {s : List UInt8} {is : List Val} {ns : List (List UInt8)} (w1 : (decide (((List.length (rowsV is) : Nat) : Int) > 0)) = false → (n == 0) = true → (s == []) = true → (decide (((List.length (rowsN ns) : Nat) : Int) > 0)) = false → Runs lp 71 [.p (.sl (rowsV is)), .fn (.func 72) [] []] [] (.p (.bool (!(mayL is))), [])) (w2 : (decide (((List.length (rowsV is) : Nat) : Int) > 0)) = false → (n == 0) = true → (s == []) = false → (decide (((List.length (rowsN ns) : Nat) : Int) > 0)) = false → Runs lp 71 [.p (.sl (rowsV is)), .fn (.func 72) [] []] [] (.p (.bool (!(mayL is))), [])) :
    Runs lp 52 [.agg [.p (.int .i64 4), .p (.int .i64 n), .p (.str s), .p (.sl (rowsV is)), .p (.sl (rowsN ns))]] [] (if (decide (((List.length (rowsV is) : Nat) : Int) > 0)) = true then ((.p (.bool false), [])) else (if (n == 0) = true then (if (s == []) = true then (if (decide (((List.length (rowsN ns) : Nat) : Int) > 0)) = true then ((.p (.bool false), [])) else ((.p (.bool (!(!(mayL is)))), []))) else (if (decide (((List.length (rowsN ns) : Nat) : Int) > 0)) = true then ((.p (.bool false), [])) else ((.p (.bool (!(!(mayL is)))), [])))) else ((.p (.bool false), [])))) := by
  by_cases k1 : (decide (((List.length (rowsV is) : Nat) : Int) > 0)) = true
  · refine iteRP k1 ?_
    exact
      runO_sound (N := 100) (os := [(53, .b true), (1, .b true), (1, .b true)]) (ps := [_, _, _]) (by kernel_rfl) ⟨cI k1, cI k1, cI k1, trivial⟩
  · refine iteRN k1 ?_
    replace k1 := Bool.eq_false_iff.2 k1
    by_cases k2 : (n == 0) = true
    · refine iteRP k2 ?_
      by_cases k3 : (s == []) = true
      · refine iteRP k3 ?_
        by_cases k4 : (decide (((List.length (rowsN ns) : Nat) : Int) > 0)) = true
        · refine iteRP k4 ?_
          exact
            runO_sound (N := 100) (os := [(53, .b false), (0, .b false), (0, .b false), (6, .b false), (0, .b false), (0, .b false), (6, .b false), (0, .b false), (0, .b false), (31, .b true)]) (ps := [_, _, _, _, _, _, _, _, _, _]) (by kernel_rfl) ⟨cI k1, cI k1, cI k1, (cI (notI k2)), (cI (notI k2)), (cI (notI k2)), (cI (notI k3)), (cI (notI k3)), (cI (notI k3)), cI k4, trivial⟩
        · refine iteRN k4 ?_
          replace k4 := Bool.eq_false_iff.2 k4
          exact
            runO_sound (N := 100) (os := [(53, .b false), (0, .b false), (0, .b false), (6, .b false), (0, .b false), (0, .b false), (6, .b false), (0, .b false), (0, .b false), (31, .b false), (22, oC (w1 k1 k2 k3 k4))]) (ps := [_, _, _, _, _, _, _, _, _, _, _]) (by kernel_rfl) ⟨cI k1, cI k1, cI k1, (cI (notI k2)), (cI (notI k2)), (cI (notI k2)), (cI (notI k3)), (cI (notI k3)), (cI (notI k3)), cI k4, (w1 k1 k2 k3 k4), trivial⟩
      · refine iteRN k3 ?_
        replace k3 := Bool.eq_false_iff.2 k3
        by_cases k4 : (decide (((List.length (rowsN ns) : Nat) : Int) > 0)) = true
        · refine iteRP k4 ?_
          exact
            runO_sound (N := 100) (os := [(53, .b false), (0, .b false), (0, .b false), (6, .b false), (0, .b false), (0, .b false), (6, .b true), (1, .b true), (1, .b true), (31, .b true)]) (ps := [_, _, _, _, _, _, _, _, _, _]) (by kernel_rfl) ⟨cI k1, cI k1, cI k1, (cI (notI k2)), (cI (notI k2)), (cI (notI k2)), (cI (notI k3)), (cI (notI k3)), (cI (notI k3)), cI k4, trivial⟩
        · refine iteRN k4 ?_
          replace k4 := Bool.eq_false_iff.2 k4
          exact
            runO_sound (N := 100) (os := [(53, .b false), (0, .b false), (0, .b false), (6, .b false), (0, .b false), (0, .b false), (6, .b true), (1, .b true), (1, .b true), (31, .b false), (22, oC (w2 k1 k2 k3 k4))]) (ps := [_, _, _, _, _, _, _, _, _, _, _]) (by kernel_rfl) ⟨cI k1, cI k1, cI k1, (cI (notI k2)), (cI (notI k2)), (cI (notI k2)), (cI (notI k3)), (cI (notI k3)), (cI (notI k3)), cI k4, (w2 k1 k2 k3 k4), trivial⟩
    · refine iteRN k2 ?_
      replace k2 := Bool.eq_false_iff.2 k2
      exact
        runO_sound (N := 100) (os := [(53, .b false), (0, .b false), (0, .b false), (6, .b true), (1, .b true), (1, .b true)]) (ps := [_, _, _, _, _, _]) (by kernel_rfl) ⟨cI k1, cI k1, cI k1, (cI (notI k2)), (cI (notI k2)), (cI (notI k2)), trivial⟩
theorem vMay5_ {n : Int} {s : List UInt8} {is : List Val} {ns : List (List UInt8)} (w1 : (decide (((List.length (rowsV is) : Nat) : Int) > 0)) = false → (n == 0) = true → (s == []) = true → (decide (((List.length (rowsN ns) : Nat) : Int) > 0)) = false → Runs lp 71 [.p (.sl (rowsV is)), .fn (.func 72) [] []] [] (.p (.bool (!(mayL is))), [])) (w2 : (decide (((List.length (rowsV is) : Nat) : Int) > 0)) = false → (n == 0) = true → (s == []) = false → (decide (((List.length (rowsN ns) : Nat) : Int) > 0)) = false → Runs lp 71 [.p (.sl (rowsV is)), .fn (.func 72) [] []] [] (.p (.bool (!(mayL is))), [])) :
    Runs lp 52 [.agg [.p (.int .i64 5), .p (.int .i64 n), .p (.str s), .p (.sl (rowsV is)), .p (.sl (rowsN ns))]] [] (if (decide (((List.length (rowsV is) : Nat) : Int) > 0)) = true then ((.p (.bool false), [])) else (if (n == 0) = true then (if (s == []) = true then (if (decide (((List.length (rowsN ns) : Nat) : Int) > 0)) = true then ((.p (.bool false), [])) else ((.p (.bool (!(!(mayL is)))), []))) else (if (decide (((List.length (rowsN ns) : Nat) : Int) > 0)) = true then ((.p (.bool false), [])) else ((.p (.bool (!(!(mayL is)))), [])))) else ((.p (.bool false), [])))) := by
  by_cases k1 : (decide (((List.length (rowsV is) : Nat) : Int) > 0)) = true
  · refine iteRP k1 ?_
    exact
      runO_sound (N := 100) (os := [(56, .b true), (1, .b true), (1, .b true)]) (ps := [_, _, _]) (by kernel_rfl) ⟨cI k1, cI k1, cI k1, trivial⟩
  · refine iteRN k1 ?_
    replace k1 := Bool.eq_false_iff.2 k1
    by_cases k2 : (n == 0) = true
    · refine iteRP k2 ?_
      by_cases k3 : (s == []) = true
      · refine iteRP k3 ?_
        by_cases k4 : (decide (((List.length (rowsN ns) : Nat) : Int) > 0)) = true
        · refine iteRP k4 ?_
          exact
            runO_sound (N := 100) (os := [(56, .b false), (0, .b false), (0, .b false), (6, .b false), (0, .b false), (0, .b false), (6, .b false), (0, .b false), (0, .b false), (31, .b true)]) (ps := [_, _, _, _, _, _, _, _, _, _]) (by kernel_rfl) ⟨cI k1, cI k1, cI k1, (cI (notI k2)), (cI (notI k2)), (cI (notI k2)), (cI (notI k3)), (cI (notI k3)), (cI (notI k3)), cI k4, trivial⟩
        · refine iteRN k4 ?_
          replace k4 := Bool.eq_false_iff.2 k4
          exact
            runO_sound (N := 100) (os := [(56, .b false), (0, .b false), (0, .b false), (6, .b false), (0, .b false), (0, .b false), (6, .b false), (0, .b false), (0, .b false), (31, .b false), (22, oC (w1 k1 k2 k3 k4))]) (ps := [_, _, _, _, _, _, _, _, _, _, _]) (by kernel_rfl) ⟨cI k1, cI k1, cI k1, (cI (notI k2)), (cI (notI k2)), (cI (notI k2)), (cI (notI k3)), (cI (notI k3)), (cI (notI k3)), cI k4, (w1 k1 k2 k3 k4), trivial⟩
      · refine iteRN k3 ?_
        replace k3 := Bool.eq_false_iff.2 k3
        by_cases k4 : (decide (((List.length (rowsN ns) : Nat) : Int) > 0)) = true
        · refine iteRP k4 ?_
          exact
            runO_sound (N := 100) (os := [(56, .b false), (0, .b false), (0, .b false), (6, .b false), (0, .b false), (0, .b false), (6, .b true), (1, .b true), (1, .b true), (31, .b true)]) (ps := [_, _, _, _, _, _, _, _, _, _]) (by kernel_rfl) ⟨cI k1, cI k1, cI k1, (cI (notI k2)), (cI (notI k2)), (cI (notI k2)), (cI (notI k3)), (cI (notI k3)), (cI (notI k3)), cI k4, trivial⟩
        · refine iteRN k4 ?_
          replace k4 := Bool.eq_false_iff.2 k4
          exact
            runO_sound (N := 100) (os := [(56, .b false), (0, .b false), (0, .b false), (6, .b false), (0, .b false), (0, .b false), (6, .b true), (1, .b true), (1, .b true), (31, .b false), (22, oC (w2 k1 k2 k3 k4))]) (ps := [_, _, _, _, _, _, _, _, _, _, _]) (by kernel_rfl) ⟨cI k1, cI k1, cI k1, (cI (notI k2)), (cI (notI k2)), (cI (notI k2)), (cI (notI k3)), (cI (notI k3)), (cI (notI k3)), cI k4, (w2 k1 k2 k3 k4), trivial⟩
    · refine iteRN k2 ?_
      replace k2 := Bool.eq_false_iff.2 k2
      exact
        runO_sound (N := 100) (os := [(56, .b false), (0, .b false), (0, .b false), (6, .b true), (1, .b true), (1, .b true)]) (ps := [_, _, _, _, _, _]) (by kernel_rfl) ⟨cI k1, cI k1, cI k1, (cI (notI k2)), (cI (notI k2)), (cI (notI k2)), trivial⟩
theorem vMay6_ {n : Int} {s : List UInt8} {is : List Val} {ns : List (List UInt8)} (w1 : (decide (((List.length (rowsV is) : Nat) : Int) > 0)) = true → (n == 0) = true → (s == []) = true → (decide (((List.length (rowsN ns) : Nat) : Int) > 0)) = false → Runs lp 71 [.p (.sl (rowsV is)), .fn (.func 72) [] []] [] (.p (.bool (!(mayL is))), [])) (w2 : (decide (((List.length (rowsV is) : Nat) : Int) > 0)) = false → (n == 0) = true → (s == []) = true → (decide (((List.length (rowsN ns) : Nat) : Int) > 0)) = false → Runs lp 71 [.p (.sl (rowsV is)), .fn (.func 72) [] []] [] (.p (.bool (!(mayL is))), [])) :
    Runs lp 52 [.agg [.p (.int .i64 6), .p (.int .i64 n), .p (.str s), .p (.sl (rowsV is)), .p (.sl (rowsN ns))]] [] (if (decide (((List.length (rowsV is) : Nat) : Int) > 0)) = true then (if (n == 0) = true then (if (s == []) = true then (if (decide (((List.length (rowsN ns) : Nat) : Int) > 0)) = true then ((.p (.bool false), [])) else ((.p (.bool (!(!(mayL is)))), []))) else ((.p (.bool false), []))) else ((.p (.bool false), []))) else (if (n == 0) = true then (if (s == []) = true then (if (decide (((List.length (rowsN ns) : Nat) : Int) > 0)) = true then ((.p (.bool false), [])) else ((.p (.bool (!(!(mayL is)))), []))) else ((.p (.bool false), []))) else ((.p (.bool false), [])))) := by
  by_cases k1 : (decide (((List.length (rowsV is) : Nat) : Int) > 0)) = true
  · refine iteRP k1 ?_
    by_cases k2 : (n == 0) = true
    · refine iteRP k2 ?_
      by_cases k3 : (s == []) = true
      · refine iteRP k3 ?_
        by_cases k4 : (decide (((List.length (rowsN ns) : Nat) : Int) > 0)) = true
        · refine iteRP k4 ?_
          exact
            runO_sound (N := 100) (os := [(53, .b true), (1, .b true), (1, .b true), (6, .b false), (0, .b false), (0, .b false), (6, .b false), (0, .b false), (0, .b false), (31, .b true)]) (ps := [_, _, _, _, _, _, _, _, _, _]) (by kernel_rfl) ⟨cI k1, cI k1, cI k1, (cI (notI k2)), (cI (notI k2)), (cI (notI k2)), (cI (notI k3)), (cI (notI k3)), (cI (notI k3)), cI k4, trivial⟩
        · refine iteRN k4 ?_
          replace k4 := Bool.eq_false_iff.2 k4
          exact
            runO_sound (N := 100) (os := [(53, .b true), (1, .b true), (1, .b true), (6, .b false), (0, .b false), (0, .b false), (6, .b false), (0, .b false), (0, .b false), (31, .b false), (22, oC (w1 k1 k2 k3 k4))]) (ps := [_, _, _, _, _, _, _, _, _, _, _]) (by kernel_rfl) ⟨cI k1, cI k1, cI k1, (cI (notI k2)), (cI (notI k2)), (cI (notI k2)), (cI (notI k3)), (cI (notI k3)), (cI (notI k3)), cI k4, (w1 k1 k2 k3 k4), trivial⟩
      · refine iteRN k3 ?_
        replace k3 := Bool.eq_false_iff.2 k3
        exact
          runO_sound (N := 100) (os := [(53, .b true), (1, .b true), (1, .b true), (6, .b false), (0, .b false), (0, .b false), (6, .b true), (1, .b true), (1, .b true)]) (ps := [_, _, _, _, _, _, _, _, _]) (by kernel_rfl) ⟨cI k1, cI k1, cI k1, (cI (notI k2)), (cI (notI k2)), (cI (notI k2)), (cI (notI k3)), (cI (notI k3)), (cI (notI k3)), trivial⟩
    · refine iteRN k2 ?_
      replace k2 := Bool.eq_false_iff.2 k2
      exact
        runO_sound (N := 100) (os := [(53, .b true), (1, .b true), (1, .b true), (6, .b true), (1, .b true), (1, .b true)]) (ps := [_, _, _, _, _, _]) (by kernel_rfl) ⟨cI k1, cI k1, cI k1, (cI (notI k2)), (cI (notI k2)), (cI (notI k2)), trivial⟩
  · refine iteRN k1 ?_
    replace k1 := Bool.eq_false_iff.2 k1
    by_cases k2 : (n == 0) = true
    · refine iteRP k2 ?_
      by_cases k3 : (s == []) = true
      · refine iteRP k3 ?_
        by_cases k4 : (decide (((List.length (rowsN ns) : Nat) : Int) > 0)) = true
        · refine iteRP k4 ?_
          exact
            runO_sound (N := 100) (os := [(53, .b false), (0, .b false), (0, .b false), (6, .b false), (0, .b false), (0, .b false), (6, .b false), (0, .b false), (0, .b false), (31, .b true)]) (ps := [_, _, _, _, _, _, _, _, _, _]) (by kernel_rfl) ⟨cI k1, cI k1, cI k1, (cI (notI k2)), (cI (notI k2)), (cI (notI k2)), (cI (notI k3)), (cI (notI k3)), (cI (notI k3)), cI k4, trivial⟩
        · refine iteRN k4 ?_
          replace k4 := Bool.eq_false_iff.2 k4
          exact
            runO_sound (N := 100) (os := [(53, .b false), (0, .b false), (0, .b false), (6, .b false), (0, .b false), (0, .b false), (6, .b false), (0, .b false), (0, .b false), (31, .b false), (22, oC (w2 k1 k2 k3 k4))]) (ps := [_, _, _, _, _, _, _, _, _, _, _]) (by kernel_rfl) ⟨cI k1, cI k1, cI k1, (cI (notI k2)), (cI (notI k2)), (cI (notI k2)), (cI (notI k3)), (cI (notI k3)), (cI (notI k3)), cI k4, (w2 k1 k2 k3 k4), trivial⟩
      · refine iteRN k3 ?_
        replace k3 := Bool.eq_false_iff.2 k3
        exact
          runO_sound (N := 100) (os := [(53, .b false), (0, .b false), (0, .b false), (6, .b false), (0, .b false), (0, .b false), (6, .b true), (1, .b true), (1, .b true)]) (ps := [_, _, _, _, _, _, _, _, _]) (by kernel_rfl) ⟨cI k1, cI k1, cI k1, (cI (notI k2)), (cI (notI k2)), (cI (notI k2)), (cI (notI k3)), (cI (notI k3)), (cI (notI k3)), trivial⟩
    · refine iteRN k2 ?_
      replace k2 := Bool.eq_false_iff.2 k2
      exact
        runO_sound (N := 100) (os := [(53, .b false), (0, .b false), (0, .b false), (6, .b true), (1, .b true), (1, .b true)]) (ps := [_, _, _, _, _, _]) (by kernel_rfl) ⟨cI k1, cI k1, cI k1, (cI (notI k2)), (cI (notI k2)), (cI (notI k2)), trivial⟩
theorem vMay7_ {n : Int} {s : List UInt8} {is : List Val} {ns : List (List UInt8)} (w1 : (decide (((List.length (rowsV is) : Nat) : Int) > 0)) = true → (n == 0) = true → (s == []) = true → (((List.length (rowsN ns) : Nat) : Int) == ((List.length (rowsV is) : Nat) : Int)) = true → Runs lp 70 [.p (.sl (rowsN ns))] [] (.p (.bool (okNamesB ns)), [])) (w2 : (decide (((List.length (rowsV is) : Nat) : Int) > 0)) = true → (n == 0) = true → (s == []) = true → (((List.length (rowsN ns) : Nat) : Int) == ((List.length (rowsV is) : Nat) : Int)) = true → (okNamesB ns) = true → Runs lp 71 [.p (.sl (rowsV is)), .fn (.func 72) [] []] [] (.p (.bool (!(mayL is))), [])) (w3 : (decide (((List.length (rowsV is) : Nat) : Int) > 0)) = false → (n == 0) = true → (s == []) = true → (((List.length (rowsN ns) : Nat) : Int) == ((List.length (rowsV is) : Nat) : Int)) = true → Runs lp 70 [.p (.sl (rowsN ns))] [] (.p (.bool (okNamesB ns)), [])) (w4 : (decide (((List.length (rowsV is) : Nat) : Int) > 0)) = false → (n == 0) = true → (s == []) = true → (((List.length (rowsN ns) : Nat) : Int) == ((List.length (rowsV is) : Nat) : Int)) = true → (okNamesB ns) = true → Runs lp 71 [.p (.sl (rowsV is)), .fn (.func 72) [] []] [] (.p (.bool (!(mayL is))), [])) :
    Runs lp 52 [.agg [.p (.int .i64 7), .p (.int .i64 n), .p (.str s), .p (.sl (rowsV is)), .p (.sl (rowsN ns))]] [] (if (decide (((List.length (rowsV is) : Nat) : Int) > 0)) = true then (if (n == 0) = true then (if (s == []) = true then (if (((List.length (rowsN ns) : Nat) : Int) == ((List.length (rowsV is) : Nat) : Int)) = true then (if (okNamesB ns) = true then ((.p (.bool (!(!(mayL is)))), [])) else ((.p (.bool false), []))) else ((.p (.bool false), []))) else ((.p (.bool false), []))) else ((.p (.bool false), []))) else (if (n == 0) = true then (if (s == []) = true then (if (((List.length (rowsN ns) : Nat) : Int) == ((List.length (rowsV is) : Nat) : Int)) = true then (if (okNamesB ns) = true then ((.p (.bool (!(!(mayL is)))), [])) else ((.p (.bool false), []))) else ((.p (.bool false), []))) else ((.p (.bool false), []))) else ((.p (.bool false), [])))) := by
  by_cases k1 : (decide (((List.length (rowsV is) : Nat) : Int) > 0)) = true
  · refine iteRP k1 ?_
    by_cases k2 : (n == 0) = true
    · refine iteRP k2 ?_
      by_cases k3 : (s == []) = true
      · refine iteRP k3 ?_
        by_cases k4 : (((List.length (rowsN ns) : Nat) : Int) == ((List.length (rowsV is) : Nat) : Int)) = true
        · refine iteRP k4 ?_
          by_cases k5 : (okNamesB ns) = true
          · refine iteRP k5 ?_
            exact
              runO_sound (N := 100) (os := [(56, .b true), (1, .b true), (1, .b true), (6, .b false), (0, .b false), (0, .b false), (6, .b false), (0, .b false), (0, .b false), (48, .b false), (1, .b false), (1, .b false), (0, oC (w1 k1 k2 k3 k4)), (0, .b false), (2, .b false), (2, .b false), (2, oC (w2 k1 k2 k3 k4 k5))]) (ps := [_, _, _, _, _, _, _, _, _, _, _, _, _, _, _, _, _]) (by kernel_rfl) ⟨cI k1, cI k1, cI k1, (cI (notI k2)), (cI (notI k2)), (cI (notI k2)), (cI (notI k3)), (cI (notI k3)), (cI (notI k3)), (cI (notI k4)), (cI (notI k4)), (cI (notI k4)), (w1 k1 k2 k3 k4), (cI (notI k4)), (cI (notI k4)), (cI (notI k5)), (w2 k1 k2 k3 k4 k5), trivial⟩
          · refine iteRN k5 ?_
            replace k5 := Bool.eq_false_iff.2 k5
            exact
              runO_sound (N := 100) (os := [(56, .b true), (1, .b true), (1, .b true), (6, .b false), (0, .b false), (0, .b false), (6, .b false), (0, .b false), (0, .b false), (48, .b false), (1, .b false), (1, .b false), (0, oC (w1 k1 k2 k3 k4)), (0, .b false), (2, .b false), (2, .b true)]) (ps := [_, _, _, _, _, _, _, _, _, _, _, _, _, _, _, _]) (by kernel_rfl) ⟨cI k1, cI k1, cI k1, (cI (notI k2)), (cI (notI k2)), (cI (notI k2)), (cI (notI k3)), (cI (notI k3)), (cI (notI k3)), (cI (notI k4)), (cI (notI k4)), (cI (notI k4)), (w1 k1 k2 k3 k4), (cI (notI k4)), (cI (notI k4)), (cI (notI k5)), trivial⟩
        · refine iteRN k4 ?_
          replace k4 := Bool.eq_false_iff.2 k4
          exact
            runO_sound (N := 100) (os := [(56, .b true), (1, .b true), (1, .b true), (6, .b false), (0, .b false), (0, .b false), (6, .b false), (0, .b false), (0, .b false), (48, .b true), (0, .b true), (0, .b true), (0, .b true), (1, .b true)]) (ps := [_, _, _, _, _, _, _, _, _, _, _, _, _, _]) (by kernel_rfl) ⟨cI k1, cI k1, cI k1, (cI (notI k2)), (cI (notI k2)), (cI (notI k2)), (cI (notI k3)), (cI (notI k3)), (cI (notI k3)), (cI (notI k4)), (cI (notI k4)), (cI (notI k4)), (cI (notI k4)), (cI (notI k4)), trivial⟩
      · refine iteRN k3 ?_
        replace k3 := Bool.eq_false_iff.2 k3
        exact
          runO_sound (N := 100) (os := [(56, .b true), (1, .b true), (1, .b true), (6, .b false), (0, .b false), (0, .b false), (6, .b true), (1, .b true), (1, .b true)]) (ps := [_, _, _, _, _, _, _, _, _]) (by kernel_rfl) ⟨cI k1, cI k1, cI k1, (cI (notI k2)), (cI (notI k2)), (cI (notI k2)), (cI (notI k3)), (cI (notI k3)), (cI (notI k3)), trivial⟩
    · refine iteRN k2 ?_
      replace k2 := Bool.eq_false_iff.2 k2
      exact
        runO_sound (N := 100) (os := [(56, .b true), (1, .b true), (1, .b true), (6, .b true), (1, .b true), (1, .b true)]) (ps := [_, _, _, _, _, _]) (by kernel_rfl) ⟨cI k1, cI k1, cI k1, (cI (notI k2)), (cI (notI k2)), (cI (notI k2)), trivial⟩
  · refine iteRN k1 ?_
    replace k1 := Bool.eq_false_iff.2 k1
    by_cases k2 : (n == 0) = true
    · refine iteRP k2 ?_
      by_cases k3 : (s == []) = true
      · refine iteRP k3 ?_
        by_cases k4 : (((List.length (rowsN ns) : Nat) : Int) == ((List.length (rowsV is) : Nat) : Int)) = true
        · refine iteRP k4 ?_
          by_cases k5 : (okNamesB ns) = true
          · refine iteRP k5 ?_
            exact
              runO_sound (N := 100) (os := [(56, .b false), (0, .b false), (0, .b false), (6, .b false), (0, .b false), (0, .b false), (6, .b false), (0, .b false), (0, .b false), (48, .b false), (1, .b false), (1, .b false), (0, oC (w3 k1 k2 k3 k4)), (0, .b false), (2, .b false), (2, .b false), (2, oC (w4 k1 k2 k3 k4 k5))]) (ps := [_, _, _, _, _, _, _, _, _, _, _, _, _, _, _, _, _]) (by kernel_rfl) ⟨cI k1, cI k1, cI k1, (cI (notI k2)), (cI (notI k2)), (cI (notI k2)), (cI (notI k3)), (cI (notI k3)), (cI (notI k3)), (cI (notI k4)), (cI (notI k4)), (cI (notI k4)), (w3 k1 k2 k3 k4), (cI (notI k4)), (cI (notI k4)), (cI (notI k5)), (w4 k1 k2 k3 k4 k5), trivial⟩
          · refine iteRN k5 ?_
            replace k5 := Bool.eq_false_iff.2 k5
            exact
              runO_sound (N := 100) (os := [(56, .b false), (0, .b false), (0, .b false), (6, .b false), (0, .b false), (0, .b false), (6, .b false), (0, .b false), (0, .b false), (48, .b false), (1, .b false), (1, .b false), (0, oC (w3 k1 k2 k3 k4)), (0, .b false), (2, .b false), (2, .b true)]) (ps := [_, _, _, _, _, _, _, _, _, _, _, _, _, _, _, _]) (by kernel_rfl) ⟨cI k1, cI k1, cI k1, (cI (notI k2)), (cI (notI k2)), (cI (notI k2)), (cI (notI k3)), (cI (notI k3)), (cI (notI k3)), (cI (notI k4)), (cI (notI k4)), (cI (notI k4)), (w3 k1 k2 k3 k4), (cI (notI k4)), (cI (notI k4)), (cI (notI k5)), trivial⟩
        · refine iteRN k4 ?_
          replace k4 := Bool.eq_false_iff.2 k4
          exact
            runO_sound (N := 100) (os := [(56, .b false), (0, .b false), (0, .b false), (6, .b false), (0, .b false), (0, .b false), (6, .b false), (0, .b false), (0, .b false), (48, .b true), (0, .b true), (0, .b true), (0, .b true), (1, .b true)]) (ps := [_, _, _, _, _, _, _, _, _, _, _, _, _, _]) (by kernel_rfl) ⟨cI k1, cI k1, cI k1, (cI (notI k2)), (cI (notI k2)), (cI (notI k2)), (cI (notI k3)), (cI (notI k3)), (cI (notI k3)), (cI (notI k4)), (cI (notI k4)), (cI (notI k4)), (cI (notI k4)), (cI (notI k4)), trivial⟩
      · refine iteRN k3 ?_
        replace k3 := Bool.eq_false_iff.2 k3
        exact
          runO_sound (N := 100) (os := [(56, .b false), (0, .b false), (0, .b false), (6, .b false), (0, .b false), (0, .b false), (6, .b true), (1, .b true), (1, .b true)]) (ps := [_, _, _, _, _, _, _, _, _]) (by kernel_rfl) ⟨cI k1, cI k1, cI k1, (cI (notI k2)), (cI (notI k2)), (cI (notI k2)), (cI (notI k3)), (cI (notI k3)), (cI (notI k3)), trivial⟩
    · refine iteRN k2 ?_
      replace k2 := Bool.eq_false_iff.2 k2
      exact
        runO_sound (N := 100) (os := [(56, .b false), (0, .b false), (0, .b false), (6, .b true), (1, .b true), (1, .b true)]) (ps := [_, _, _, _, _, _]) (by kernel_rfl) ⟨cI k1, cI k1, cI k1, (cI (notI k2)), (cI (notI k2)), (cI (notI k2)), trivial⟩
theorem vMayO_nnny {k n : Int} {s : List UInt8} {is : List Val} {ns : List (List UInt8)} (c1 : (k == 6) = false) (c2 : (k == 3) = false) (c3 : (k == 4) = false) (c4 : (decide (k < 1)) = true) :
    Runs lp 52 [.agg [.p (.int .i64 k), .p (.int .i64 n), .p (.str s), .p (.sl (rowsV is)), .p (.sl (rowsN ns))]] [] (.p (.bool false), []) :=
  runO_sound (N := 100) (os := [(6, .b false), (1, .b false), (1, .b false), (1, .b false), (5, .b false), (1, .b false), (1, .b false), (1, .b false), (5, .b false), (1, .b false), (1, .b false), (1, .b false), (5, .b true), (0, .b true), (0, .b true), (0, .b true)]) (ps := [_, _, _, _, _, _, _, _, _, _, _, _, _, _, _, _]) (by kernel_rfl) ⟨cI c1, cI c1, cI c1, cI c1, cI c2, cI c2, cI c2, cI c2, cI c3, cI c3, cI c3, cI c3, cI c4, cI c4, cI c4, cI c4, trivial⟩
theorem vMayO_nnnny {k n : Int} {s : List UInt8} {is : List Val} {ns : List (List UInt8)} (c1 : (k == 6) = false) (c2 : (k == 3) = false) (c3 : (k == 4) = false) (c4 : (decide (k < 1)) = false) (c5 : (decide (k > 7)) = true) :
    Runs lp 52 [.agg [.p (.int .i64 k), .p (.int .i64 n), .p (.str s), .p (.sl (rowsV is)), .p (.sl (rowsN ns))]] [] (.p (.bool false), []) :=
  runO_sound (N := 100) (os := [(6, .b false), (1, .b false), (1, .b false), (1, .b false), (5, .b false), (1, .b false), (1, .b false), (1, .b false), (5, .b false), (1, .b false), (1, .b false), (1, .b false), (5, .b false), (1, .b false), (1, .b false), (1, .b false), (1, .b true)]) (ps := [_, _, _, _, _, _, _, _, _, _, _, _, _, _, _, _, _]) (by kernel_rfl) ⟨cI c1, cI c1, cI c1, cI c1, cI c2, cI c2, cI c2, cI c2, cI c3, cI c3, cI c3, cI c3, cI c4, cI c4, cI c4, cI c4, cI c5, trivial⟩
end Go.Proofs.Ytmbjojnldbeicaa
