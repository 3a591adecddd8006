import Derived.Test.YtpkmddkodchanaaLsVal3
import Derived.Test.YtpkmddkodchanaaLsG6
set_option linter.unusedVariables false
set_option linter.unusedSimpArgs false
set_option maxRecDepth 100000
namespace Go.Proofs.Ytpkmddkodchanaa
open Go Go.LS
theorem pMay1 {s : List UInt8} (w1 : Runs lp 57 [.p (.str s)] [] (.p (.bool (nameB s)), [])) :
    Runs lp 56 [.p (.str s)] [] ((.p (.bool (!(nameB s))), [])) := by
  exact
    runO_sound (N := 100) (os := [(2, oC w1)]) (ps := [_]) (by kernel_rfl) ⟨w1, trivial⟩
theorem pIdxR_yy {ns : List (List UInt8)} {i : Nat} (c1 : (decide ((i : Int) < ((List.length (rowsN ns) : Nat) : Int))) = true) (h2 : i < List.length (α := List UInt8) ns) (h3 : Runs lp 56 [.p (.str (List.getD (α := List UInt8) ns i []))] [] (.p (.bool (!(nameB (List.getD (α := List UInt8) ns i [])))), [])) (c4 : (nameB (List.getD (α := List UInt8) ns i [])) = true) {r : LOut × List LV × List LObj} (hr : LoopN lp 0 (loopNo lf64 0) (tl 0 19 [(0, .p (.sl (rowsN ns))), (1, .fn (.func 56) [] []), (7, .p (.int .i64 ((List.length (rowsN ns) : Nat) : Int))), (8, .p (.int .i64 (IntKind.wrap .i64 ((i : Int) + 1))))]) [] r) :
    LoopN lp 0 (loopNo lf64 0) (tl 0 19 [(0, .p (.sl (rowsN ns))), (1, .fn (.func 56) [] []), (7, .p (.int .i64 ((List.length (rowsN ns) : Nat) : Int))), (8, .p (.int .i64 (i : Int)))]) [] r :=
  have q1 : OpW [] (.indexAddr 1 (.const (.p (.sl (rowsN ns)))) (.const (.p (.int .i64 (i : Int))))) (.pin [.str (List.getD (α := List UInt8) ns i [])] 0) [] := (opIs_idxE rfl rfl (rowsN_get h2) rfl)
  LoopAt.on (N := 100) (os := [(1, .b true), (5, oO q1), (1, oC h3), (0, .b false)]) (ps := [_, _, _, _]) (by kernel_rfl) ⟨cI c1, q1, h3, (cI (notI c4)), trivial⟩ hr
theorem pIdxR_yn {ns : List (List UInt8)} {i : Nat} (c1 : (decide ((i : Int) < ((List.length (rowsN ns) : Nat) : Int))) = true) (h2 : i < List.length (α := List UInt8) ns) (h3 : Runs lp 56 [.p (.str (List.getD (α := List UInt8) ns i []))] [] (.p (.bool (!(nameB (List.getD (α := List UInt8) ns i [])))), [])) (c4 : (nameB (List.getD (α := List UInt8) ns i [])) = false) :
    LoopN lp 0 (loopNo lf64 0) (tl 0 19 [(0, .p (.sl (rowsN ns))), (1, .fn (.func 56) [] []), (7, .p (.int .i64 ((List.length (rowsN ns) : Nat) : Int))), (8, .p (.int .i64 (i : Int)))]) [] (.ret, (tl 0 19 [(4, .p (.int .i64 (i : Int)))]), []) :=
  have q1 : OpW [] (.indexAddr 1 (.const (.p (.sl (rowsN ns)))) (.const (.p (.int .i64 (i : Int))))) (.pin [.str (List.getD (α := List UInt8) ns i [])] 0) [] := (opIs_idxE rfl rfl (rowsN_get h2) rfl)
  LoopAt.out (N := 100) (os := [(1, .b true), (5, oO q1), (1, oC h3), (0, .b true)]) (ps := [_, _, _, _]) (by kernel_rfl) (by kernel_rfl) ⟨cI c1, q1, h3, (cI (notI c4)), trivial⟩
theorem pIdxR_n {ns : List (List UInt8)} {i : Nat} (c1 : (decide ((i : Int) < ((List.length (rowsN ns) : Nat) : Int))) = false) :
    LoopN lp 0 (loopNo lf64 0) (tl 0 19 [(0, .p (.sl (rowsN ns))), (1, .fn (.func 56) [] []), (7, .p (.int .i64 ((List.length (rowsN ns) : Nat) : Int))), (8, .p (.int .i64 (i : Int)))]) [] (.exit 0, (tl 0 19 []), []) :=
  LoopAt.out (N := 100) (os := [(1, .b false)]) (ps := [_]) (by kernel_rfl) (by kernel_rfl) ⟨cI c1, trivial⟩
theorem pIdx0 {ns : List (List UInt8)} {i : Nat} (w1 : (ns.all nameB) = true → LoopN lp 0 (loopNo lf64 0) (tl 0 19 [(0, .p (.sl (rowsN ns))), (1, .fn (.func 56) [] []), (7, .p (.int .i64 ((List.length (rowsN ns) : Nat) : Int))), (8, .p (.int .i64 0))]) [] (.exit 0, (tl 0 19 []), [])) (w2 : (ns.all nameB) = false → LoopN lp 0 (loopNo lf64 0) (tl 0 19 [(0, .p (.sl (rowsN ns))), (1, .fn (.func 56) [] []), (7, .p (.int .i64 ((List.length (rowsN ns) : Nat) : Int))), (8, .p (.int .i64 0))]) [] (.ret, (tl 0 19 [(4, .p (.int .i64 (i : Int)))]), [])) :
    Runs lp 64 [.p (.sl (rowsN ns)), .fn (.func 56) [] []] [] (if (ns.all nameB) = true then ((.p (.int .i64 (-1)), [])) else ((.p (.int .i64 (i : Int)), []))) := by
  by_cases k1 : (ns.all nameB) = true
  · refine iteRP k1 ?_
    exact
      runO_sound (N := 100) (os := [(4, oL (w1 k1))]) (ps := [_]) (by kernel_rfl) ⟨(w1 k1), trivial⟩
  · refine iteRN k1 ?_
    replace k1 := Bool.eq_false_iff.2 k1
    exact
      runO_sound (N := 100) (os := [(4, oL (w2 k1))]) (ps := [_]) (by kernel_rfl) ⟨(w2 k1), trivial⟩
theorem pCon0 {ns : List (List UInt8)} {i : Nat} (w1 : (ns.all nameB) = true → Runs lp 64 [.p (.sl (rowsN ns)), .fn (.func 56) [] []] [] (.p (.int .i64 (-1)), [])) (w2 : (ns.all nameB) = false → Runs lp 64 [.p (.sl (rowsN ns)), .fn (.func 56) [] []] [] (.p (.int .i64 (i : Int)), [])) :
    Runs lp 58 [.p (.sl (rowsN ns)), .fn (.func 56) [] []] [] (if (ns.all nameB) = true then ((.p (.bool false), [])) else ((.p (.bool (decide ((i : Int) ≥ 0))), []))) := by
  by_cases k1 : (ns.all nameB) = true
  · refine iteRP k1 ?_
    exact
      runO_sound (N := 100) (os := [(3, oC (w1 k1))]) (ps := [_]) (by kernel_rfl) ⟨(w1 k1), trivial⟩
  · refine iteRN k1 ?_
    replace k1 := Bool.eq_false_iff.2 k1
    exact
      runO_sound (N := 100) (os := [(3, oC (w2 k1))]) (ps := [_]) (by kernel_rfl) ⟨(w2 k1), trivial⟩
theorem pMay0 {ns : List (List UInt8)} (w1 : (decide (((List.length (rowsN ns) : Nat) : Int) ≥ 1)) = true → (decide (((List.length (rowsN ns) : Nat) : Int) ≤ 8)) = true → Runs lp 58 [.p (.sl (rowsN ns)), .fn (.func 56) [] []] [] (.p (.bool (!(List.all ns nameB))), [])) :
    Runs lp 43 [.p (.sl (rowsN ns))] [] (if (decide (((List.length (rowsN ns) : Nat) : Int) ≥ 1)) = true then (if (decide (((List.length (rowsN ns) : Nat) : Int) ≤ 8)) = true then ((.p (.bool (!(!(List.all ns nameB)))), [])) else ((.p (.bool false), []))) else ((.p (.bool false), []))) := by
  by_cases k1 : (decide (((List.length (rowsN ns) : Nat) : Int) ≥ 1)) = true
  · refine iteRP k1 ?_
    by_cases k2 : (decide (((List.length (rowsN ns) : Nat) : Int) ≤ 8)) = true
    · refine iteRP k2 ?_
      exact
        runO_sound (N := 100) (os := [(6, .b true), (1, .b true), (1, .b true), (1, .b true), (1, .b true), (1, .b true), (1, .b true), (0, oC (w1 k1 k2)), (0, .b true), (1, .b true)]) (ps := [_, _, _, _, _, _, _, _, _, _]) (by kernel_rfl) ⟨cI k1, cI k1, cI k1, cI k1, cI k2, cI k2, cI k2, (w1 k1 k2), cI k2, cI k2, trivial⟩
    · refine iteRN k2 ?_
      replace k2 := Bool.eq_false_iff.2 k2
      exact
        runO_sound (N := 100) (os := [(6, .b true), (1, .b true), (1, .b true), (1, .b true), (1, .b false), (0, .b false), (0, .b false), (0, .b false), (0, .b false)]) (ps := [_, _, _, _, _, _, _, _, _]) (by kernel_rfl) ⟨cI k1, cI k1, cI k1, cI k1, cI k2, cI k2, cI k2, cI k2, cI k2, trivial⟩
  · refine iteRN k1 ?_
    replace k1 := Bool.eq_false_iff.2 k1
    exact
      runO_sound (N := 100) (os := [(6, .b false), (0, .b false), (0, .b false), (0, .b false)]) (ps := [_, _, _, _]) (by kernel_rfl) ⟨cI k1, cI k1, cI k1, cI k1, trivial⟩
theorem rpMayR_yy {ns : List (List UInt8)} {i : Nat} (c1 : (decide ((i : Int) < ((List.length (rowsN ns) : Nat) : Int))) = true) (h2 : i < List.length (α := List UInt8) ns) (h3 : Runs lp 35 [.p (.str (List.getD (α := List UInt8) ns i []))] [] (.p (.bool (nameB (List.getD (α := List UInt8) ns i []))), [])) (c4 : (nameB (List.getD (α := List UInt8) ns i [])) = true) {r : LOut × List LV × List LObj} (hr : LoopN lp 0 (loopNo lf30 0) (tl 0 24 [(0, .p (.sl (rowsN ns))), (3, .p (.int .i64 (IntKind.wrap .i64 ((i : Int) + 1))))]) [] r) :
    LoopN lp 0 (loopNo lf30 0) (tl 0 24 [(0, .p (.sl (rowsN ns))), (3, .p (.int .i64 (i : Int)))]) [] r :=
  have q1 : OpW [] (.indexAddr 1 (.const (.p (.sl (rowsN ns)))) (.const (.p (.int .i64 (i : Int))))) (.pin [.str (List.getD (α := List UInt8) ns i [])] 0) [] := (opIs_idxE rfl rfl (rowsN_get h2) rfl)
  LoopAt.on (N := 100) (os := [(4, .b true), (2, oO q1), (1, oC h3), (1, .b false)]) (ps := [_, _, _, _]) (by kernel_rfl) ⟨cI c1, q1, h3, (cI (notI c4)), trivial⟩ hr
theorem rpMayR_yn {ns : List (List UInt8)} {i : Nat} (c1 : (decide ((i : Int) < ((List.length (rowsN ns) : Nat) : Int))) = true) (h2 : i < List.length (α := List UInt8) ns) (h3 : Runs lp 35 [.p (.str (List.getD (α := List UInt8) ns i []))] [] (.p (.bool (nameB (List.getD (α := List UInt8) ns i []))), [])) (c4 : (nameB (List.getD (α := List UInt8) ns i [])) = false) :
    LoopN lp 0 (loopNo lf30 0) (tl 0 24 [(0, .p (.sl (rowsN ns))), (3, .p (.int .i64 (i : Int)))]) [] (.ret, (tl 0 24 [(2, .p (.bool false))]), []) :=
  have q1 : OpW [] (.indexAddr 1 (.const (.p (.sl (rowsN ns)))) (.const (.p (.int .i64 (i : Int))))) (.pin [.str (List.getD (α := List UInt8) ns i [])] 0) [] := (opIs_idxE rfl rfl (rowsN_get h2) rfl)
  LoopAt.out (N := 100) (os := [(4, .b true), (2, oO q1), (1, oC h3), (1, .b true)]) (ps := [_, _, _, _]) (by kernel_rfl) (by kernel_rfl) ⟨cI c1, q1, h3, (cI (notI c4)), trivial⟩
theorem rpMayR_n {ns : List (List UInt8)} {i : Nat} (c1 : (decide ((i : Int) < ((List.length (rowsN ns) : Nat) : Int))) = false) :
    LoopN lp 0 (loopNo lf30 0) (tl 0 24 [(0, .p (.sl (rowsN ns))), (3, .p (.int .i64 (i : Int)))]) [] (.exit 0, (tl 0 24 [(0, .p (.sl (rowsN ns)))]), []) :=
  LoopAt.out (N := 100) (os := [(4, .b false)]) (ps := [_]) (by kernel_rfl) (by kernel_rfl) ⟨cI c1, trivial⟩
theorem rpMay0 {ns : List (List UInt8)} (w1 : (ns.all nameB) = true → LoopN lp 0 (loopNo lf30 0) (tl 0 24 [(0, .p (.sl (rowsN ns))), (3, .p (.int .i64 0))]) [] (.exit 0, (tl 0 24 [(0, .p (.sl (rowsN ns)))]), [])) (w2 : (ns.all nameB) = false → LoopN lp 0 (loopNo lf30 0) (tl 0 24 [(0, .p (.sl (rowsN ns))), (3, .p (.int .i64 0))]) [] (.ret, (tl 0 24 [(2, .p (.bool false))]), [])) :
    Runs lp 30 [.p (.sl (rowsN ns))] [] (if (ns.all nameB) = true then (if (decide (((List.length (rowsN ns) : Nat) : Int) ≥ 1)) = true then ((.p (.bool (decide (((List.length (rowsN ns) : Nat) : Int) ≤ 8))), [])) else ((.p (.bool false), []))) else ((.p (.bool false), []))) := by
  by_cases k1 : (ns.all nameB) = true
  · refine iteRP k1 ?_
    by_cases k2 : (decide (((List.length (rowsN ns) : Nat) : Int) ≥ 1)) = true
    · refine iteRP k2 ?_
      exact
        runO_sound (N := 100) (os := [(2, oL (w1 k1)), (4, .b true), (1, .b true), (1, .b true), (1, .b true)]) (ps := [_, _, _, _, _]) (by kernel_rfl) ⟨(w1 k1), cI k2, cI k2, cI k2, cI k2, trivial⟩
    · refine iteRN k2 ?_
      replace k2 := Bool.eq_false_iff.2 k2
      exact
        runO_sound (N := 100) (os := [(2, oL (w1 k1)), (4, .b false), (0, .b false), (0, .b false), (0, .b false)]) (ps := [_, _, _, _, _]) (by kernel_rfl) ⟨(w1 k1), cI k2, cI k2, cI k2, cI k2, trivial⟩
  · refine iteRN k1 ?_
    replace k1 := Bool.eq_false_iff.2 k1
    exact
      runO_sound (N := 100) (os := [(2, oL (w2 k1))]) (ps := [_]) (by kernel_rfl) ⟨(w2 k1), trivial⟩
end Go.Proofs.Ytpkmddkodchanaa
