import Derived.Test.YtpkmddkodchanaaLsIdx
import Derived.Test.YtpkmddkodchanaaLsVal3
import Derived.Test.YtpkmddkodchanaaLsG6
set_option linter.unusedVariables false
set_option linter.unusedSimpArgs false
set_option maxRecDepth 100000
namespace Go.Proofs.Ytpkmddkodchanaa
open Go Go.LS
theorem sIxR_yy {s : List UInt8} {ns : List (List UInt8)} {i : Nat} (c1 : (decide ((i : Int) < ((List.length (rowsN ns) : Nat) : Int))) = true) (h2 : i < List.length (α := List UInt8) ns) (c3 : (s == (List.getD (α := List UInt8) ns i [])) = true) :
    LoopN lp 0 (loopNo lf44 0) (tl 0 19 [(0, .p (.sl (rowsN ns))), (1, .p (.str s)), (7, .p (.int .i64 ((List.length (rowsN ns) : Nat) : Int))), (8, .p (.int .i64 (i : Int)))]) [] (.ret, (tl 0 19 [(4, .p (.int .i64 (i : Int)))]), []) :=
  have q1 : OpW [] (.indexAddr 1 (.const (.p (.sl (rowsN ns)))) (.const (.p (.int .i64 (i : Int))))) (.pin [.str (List.getD (α := List UInt8) ns i [])] 0) [] := (opIs_idxE rfl rfl (rowsN_get h2) rfl)
  LoopAt.out (N := 100) (os := [(1, .b true), (5, oO q1), (2, .b true)]) (ps := [_, _, _]) (by kernel_rfl) (by kernel_rfl) ⟨cI c1, q1, cI c3, trivial⟩
theorem sIxR_yn {s : List UInt8} {ns : List (List UInt8)} {i : Nat} (c1 : (decide ((i : Int) < ((List.length (rowsN ns) : Nat) : Int))) = true) (h2 : i < List.length (α := List UInt8) ns) (c3 : (s == (List.getD (α := List UInt8) ns i [])) = false) {r : LOut × List LV × List LObj} (hr : LoopN lp 0 (loopNo lf44 0) (tl 0 19 [(0, .p (.sl (rowsN ns))), (1, .p (.str s)), (7, .p (.int .i64 ((List.length (rowsN ns) : Nat) : Int))), (8, .p (.int .i64 (IntKind.wrap .i64 ((i : Int) + 1))))]) [] r) :
    LoopN lp 0 (loopNo lf44 0) (tl 0 19 [(0, .p (.sl (rowsN ns))), (1, .p (.str s)), (7, .p (.int .i64 ((List.length (rowsN ns) : Nat) : Int))), (8, .p (.int .i64 (i : Int)))]) [] r :=
  have q1 : OpW [] (.indexAddr 1 (.const (.p (.sl (rowsN ns)))) (.const (.p (.int .i64 (i : Int))))) (.pin [.str (List.getD (α := List UInt8) ns i [])] 0) [] := (opIs_idxE rfl rfl (rowsN_get h2) rfl)
  LoopAt.on (N := 100) (os := [(1, .b true), (5, oO q1), (2, .b false)]) (ps := [_, _, _]) (by kernel_rfl) ⟨cI c1, q1, cI c3, trivial⟩ hr
theorem sIxR_n {s : List UInt8} {ns : List (List UInt8)} {i : Nat} (c1 : (decide ((i : Int) < ((List.length (rowsN ns) : Nat) : Int))) = false) :
    LoopN lp 0 (loopNo lf44 0) (tl 0 19 [(0, .p (.sl (rowsN ns))), (1, .p (.str s)), (7, .p (.int .i64 ((List.length (rowsN ns) : Nat) : Int))), (8, .p (.int .i64 (i : Int)))]) [] (.exit 0, (tl 0 19 []), []) :=
  LoopAt.out (N := 100) (os := [(1, .b false)]) (ps := [_]) (by kernel_rfl) (by kernel_rfl) ⟨cI c1, trivial⟩
theorem sIx0 {s : List UInt8} {ns : List (List UInt8)} {i : Nat} (w1 : (List.contains ns s) = true → LoopN lp 0 (loopNo lf44 0) (tl 0 19 [(0, .p (.sl (rowsN ns))), (1, .p (.str s)), (7, .p (.int .i64 ((List.length (rowsN ns) : Nat) : Int))), (8, .p (.int .i64 0))]) [] (.ret, (tl 0 19 [(4, .p (.int .i64 (i : Int)))]), [])) (w2 : (List.contains ns s) = false → LoopN lp 0 (loopNo lf44 0) (tl 0 19 [(0, .p (.sl (rowsN ns))), (1, .p (.str s)), (7, .p (.int .i64 ((List.length (rowsN ns) : Nat) : Int))), (8, .p (.int .i64 0))]) [] (.exit 0, (tl 0 19 []), [])) :
    Runs lp 44 [.p (.sl (rowsN ns)), .p (.str s)] [] (if (List.contains ns s) = true then ((.p (.int .i64 (i : Int)), [])) else ((.p (.int .i64 (-1)), []))) := by
  by_cases k1 : (List.contains ns s) = true
  · refine iteRP k1 ?_
    exact
      runO_sound (N := 100) (os := [(4, oL (w1 k1))]) (ps := [_]) (by kernel_rfl) ⟨(w1 k1), trivial⟩
  · refine iteRN k1 ?_
    replace k1 := Bool.eq_false_iff.2 k1
    exact
      runO_sound (N := 100) (os := [(4, oL (w2 k1))]) (ps := [_]) (by kernel_rfl) ⟨(w2 k1), trivial⟩
theorem tPl0 {k n : Int} {s : List UInt8} {is : List Val} {ns : List (List UInt8)} {st : List UInt8} (w1 : (k == 7) = true → Runs lp 44 [.p (.sl (rowsN ns)), .p (.str st)] [] (.p (.int .i64 (idxN st ns 0)), [])) (w2 : (k == 7) = false → (k == 6) = true → Runs lp 45 [.p (.str st)] [] (.tup [.p (.int .i64 (Option.getD (idxB st) 0)), .p (.bool (Option.isSome (idxB st)))], [])) :
    Runs lp 28 [.agg [.p (.int .i64 k), .p (.int .i64 n), .p (.str s), .p (.sl (rowsV is)), .p (.sl (rowsN ns))], .p (.str st)] [] (if (k == 7) = true then ((.p (.int .i64 (idxN st ns 0)), [])) else (if (k == 6) = true then (if (Option.isSome (idxB st)) = true then (if (decide ((Option.getD (idxB st) 0) < ((List.length (rowsV is) : Nat) : Int))) = true then ((.p (.int .i64 (Option.getD (idxB st) 0)), [])) else ((.p (.int .i64 (-1)), []))) else ((.p (.int .i64 (-1)), []))) else ((.p (.int .i64 (-1)), [])))) := by
  by_cases k1 : (k == 7) = true
  · refine iteRP k1 ?_
    exact
      runO_sound (N := 100) (os := [(6, .b true), (3, oC (w1 k1))]) (ps := [_, _]) (by kernel_rfl) ⟨cI k1, (w1 k1), trivial⟩
  · refine iteRN k1 ?_
    replace k1 := Bool.eq_false_iff.2 k1
    by_cases k2 : (k == 6) = true
    · refine iteRP k2 ?_
      by_cases k3 : (Option.isSome (idxB st)) = true
      · refine iteRP k3 ?_
        by_cases k4 : (decide ((Option.getD (idxB st) 0) < ((List.length (rowsV is) : Nat) : Int))) = true
        · refine iteRP k4 ?_
          exact
            runO_sound (N := 100) (os := [(6, .b false), (2, .b true), (1, oC (w2 k1 k2)), (7, .b true), (1, .b true), (1, .b true), (1, .b true), (1, .b true), (1, .b true), (0, .b true)]) (ps := [_, _, _, _, _, _, _, _, _, _]) (by kernel_rfl) ⟨cI k1, cI k2, (w2 k1 k2), cI k3, cI k3, cI k3, cI k3, cI k3, cI k3, cI k4, trivial⟩
        · refine iteRN k4 ?_
          replace k4 := Bool.eq_false_iff.2 k4
          exact
            runO_sound (N := 100) (os := [(6, .b false), (2, .b true), (1, oC (w2 k1 k2)), (7, .b true), (1, .b true), (1, .b true), (1, .b true), (1, .b true), (1, .b true), (0, .b false)]) (ps := [_, _, _, _, _, _, _, _, _, _]) (by kernel_rfl) ⟨cI k1, cI k2, (w2 k1 k2), cI k3, cI k3, cI k3, cI k3, cI k3, cI k3, cI k4, trivial⟩
      · refine iteRN k3 ?_
        replace k3 := Bool.eq_false_iff.2 k3
        exact
          runO_sound (N := 100) (os := [(6, .b false), (2, .b true), (1, oC (w2 k1 k2)), (7, .b false), (0, .b false), (0, .b false), (0, .b false), (0, .b false), (0, .b false)]) (ps := [_, _, _, _, _, _, _, _, _]) (by kernel_rfl) ⟨cI k1, cI k2, (w2 k1 k2), cI k3, cI k3, cI k3, cI k3, cI k3, cI k3, trivial⟩
    · refine iteRN k2 ?_
      replace k2 := Bool.eq_false_iff.2 k2
      exact
        runO_sound (N := 100) (os := [(6, .b false), (2, .b false)]) (ps := [_, _]) (by kernel_rfl) ⟨cI k1, cI k2, trivial⟩
theorem rPlR_yy {k n : Int} {s : List UInt8} {is : List Val} {ns : List (List UInt8)} {st : List UInt8} {i : Nat} (c1 : (decide ((i : Int) < ((List.length (rowsN ns) : Nat) : Int))) = true) (h2 : i < List.length (α := List UInt8) ns) (c3 : ((List.getD (α := List UInt8) ns i []) == st) = true) :
    LoopN lp 0 (loopNo lf31 0) (tl 0 36 [(1, .p (.str st)), (2, .ptr 0 0 0), (6, .p (.int .i64 (i : Int)))]) [.row [[.p (.int .i64 k), .p (.int .i64 n), .p (.str s), .p (.sl (rowsV is)), .p (.sl (rowsN ns))]]] (.ret, (tl 0 36 [(4, .p (.int .i64 (i : Int)))]), [.row [[.p (.int .i64 k), .p (.int .i64 n), .p (.str s), .p (.sl (rowsV is)), .p (.sl (rowsN ns))]]]) :=
  have q1 : OpW [.row [[.p (.int .i64 k), .p (.int .i64 n), .p (.str s), .p (.sl (rowsV is)), .p (.sl (rowsN ns))]]] (.indexAddr 1 (.const (.p (.sl (rowsN ns)))) (.const (.p (.int .i64 (i : Int))))) (.pin [.str (List.getD (α := List UInt8) ns i [])] 0) [.row [[.p (.int .i64 k), .p (.int .i64 n), .p (.str s), .p (.sl (rowsV is)), .p (.sl (rowsN ns))]]] := (opIs_idxE rfl rfl (rowsN_get h2) rfl)
  LoopAt.out (N := 100) (os := [(5, .b true), (3, oO q1), (3, .b true)]) (ps := [_, _, _]) (by kernel_rfl) (by kernel_rfl) ⟨cI c1, q1, cI c3, trivial⟩
theorem rPlR_yn {k n : Int} {s : List UInt8} {is : List Val} {ns : List (List UInt8)} {st : List UInt8} {i : Nat} (c1 : (decide ((i : Int) < ((List.length (rowsN ns) : Nat) : Int))) = true) (h2 : i < List.length (α := List UInt8) ns) (c3 : ((List.getD (α := List UInt8) ns i []) == st) = false) {r : LOut × List LV × List LObj} (hr : LoopN lp 0 (loopNo lf31 0) (tl 0 36 [(1, .p (.str st)), (2, .ptr 0 0 0), (6, .p (.int .i64 (IntKind.wrap .i64 ((i : Int) + 1))))]) [.row [[.p (.int .i64 k), .p (.int .i64 n), .p (.str s), .p (.sl (rowsV is)), .p (.sl (rowsN ns))]]] r) :
    LoopN lp 0 (loopNo lf31 0) (tl 0 36 [(1, .p (.str st)), (2, .ptr 0 0 0), (6, .p (.int .i64 (i : Int)))]) [.row [[.p (.int .i64 k), .p (.int .i64 n), .p (.str s), .p (.sl (rowsV is)), .p (.sl (rowsN ns))]]] r :=
  have q1 : OpW [.row [[.p (.int .i64 k), .p (.int .i64 n), .p (.str s), .p (.sl (rowsV is)), .p (.sl (rowsN ns))]]] (.indexAddr 1 (.const (.p (.sl (rowsN ns)))) (.const (.p (.int .i64 (i : Int))))) (.pin [.str (List.getD (α := List UInt8) ns i [])] 0) [.row [[.p (.int .i64 k), .p (.int .i64 n), .p (.str s), .p (.sl (rowsV is)), .p (.sl (rowsN ns))]]] := (opIs_idxE rfl rfl (rowsN_get h2) rfl)
  LoopAt.on (N := 100) (os := [(5, .b true), (3, oO q1), (3, .b false)]) (ps := [_, _, _]) (by kernel_rfl) ⟨cI c1, q1, cI c3, trivial⟩ hr
theorem rPlR_n {k n : Int} {s : List UInt8} {is : List Val} {ns : List (List UInt8)} {st : List UInt8} {i : Nat} (c1 : (decide ((i : Int) < ((List.length (rowsN ns) : Nat) : Int))) = false) :
    LoopN lp 0 (loopNo lf31 0) (tl 0 36 [(1, .p (.str st)), (2, .ptr 0 0 0), (6, .p (.int .i64 (i : Int)))]) [.row [[.p (.int .i64 k), .p (.int .i64 n), .p (.str s), .p (.sl (rowsV is)), .p (.sl (rowsN ns))]]] (.exit 0, (tl 0 36 []), [.row [[.p (.int .i64 k), .p (.int .i64 n), .p (.str s), .p (.sl (rowsV is)), .p (.sl (rowsN ns))]]]) :=
  LoopAt.out (N := 100) (os := [(5, .b false)]) (ps := [_]) (by kernel_rfl) (by kernel_rfl) ⟨cI c1, trivial⟩
theorem rPl0 {k n : Int} {s : List UInt8} {is : List Val} {ns : List (List UInt8)} {st : List UInt8} {i : Nat} (w1 : (k == 6) = true → Runs lp 38 [.p (.str st)] [] (.p (.int .i64 (Option.getD (idxB st) (-1))), [])) (w2 : (k == 6) = false → (k == 7) = true → (List.contains ns st) = true → LoopN lp 0 (loopNo lf31 0) (tl 0 36 [(1, .p (.str st)), (2, .ptr 0 0 0), (6, .p (.int .i64 0))]) [.row [[.p (.int .i64 k), .p (.int .i64 n), .p (.str s), .p (.sl (rowsV is)), .p (.sl (rowsN ns))]]] (.ret, (tl 0 36 [(4, .p (.int .i64 (i : Int)))]), [.row [[.p (.int .i64 k), .p (.int .i64 n), .p (.str s), .p (.sl (rowsV is)), .p (.sl (rowsN ns))]]])) (w3 : (k == 6) = false → (k == 7) = true → (List.contains ns st) = false → LoopN lp 0 (loopNo lf31 0) (tl 0 36 [(1, .p (.str st)), (2, .ptr 0 0 0), (6, .p (.int .i64 0))]) [.row [[.p (.int .i64 k), .p (.int .i64 n), .p (.str s), .p (.sl (rowsV is)), .p (.sl (rowsN ns))]]] (.exit 0, (tl 0 36 []), [.row [[.p (.int .i64 k), .p (.int .i64 n), .p (.str s), .p (.sl (rowsV is)), .p (.sl (rowsN ns))]]])) :
    Runs lp 31 [.agg [.p (.int .i64 k), .p (.int .i64 n), .p (.str s), .p (.sl (rowsV is)), .p (.sl (rowsN ns))], .p (.str st)] [] (if (k == 6) = true then (if (decide ((Option.getD (idxB st) (-1)) < ((List.length (rowsV is) : Nat) : Int))) = true then ((.p (.int .i64 (Option.getD (idxB st) (-1))), [])) else ((.p (.int .i64 (-1)), []))) else (if (k == 7) = true then (if (List.contains ns st) = true then ((.p (.int .i64 (i : Int)), [])) else ((.p (.int .i64 (-1)), []))) else ((.p (.int .i64 (-1)), [])))) := by
  by_cases k1 : (k == 6) = true
  · refine iteRP k1 ?_
    by_cases k2 : (decide ((Option.getD (idxB st) (-1)) < ((List.length (rowsV is) : Nat) : Int))) = true
    · refine iteRP k2 ?_
      exact
        runO_sound (N := 100) (os := [(5, .b true), (1, oC (w1 k1)), (6, .b true)]) (ps := [_, _, _]) (by kernel_rfl) ⟨cI k1, (w1 k1), cI k2, trivial⟩
    · refine iteRN k2 ?_
      replace k2 := Bool.eq_false_iff.2 k2
      exact
        runO_sound (N := 100) (os := [(5, .b true), (1, oC (w1 k1)), (6, .b false)]) (ps := [_, _, _]) (by kernel_rfl) ⟨cI k1, (w1 k1), cI k2, trivial⟩
  · refine iteRN k1 ?_
    replace k1 := Bool.eq_false_iff.2 k1
    by_cases k2 : (k == 7) = true
    · refine iteRP k2 ?_
      by_cases k3 : (List.contains ns st) = true
      · refine iteRP k3 ?_
        exact
          runO_sound (N := 100) (os := [(5, .b false), (3, .b true), (1, oL (w2 k1 k2 k3))]) (ps := [_, _, _]) (by kernel_rfl) ⟨cI k1, cI k2, (w2 k1 k2 k3), trivial⟩
      · refine iteRN k3 ?_
        replace k3 := Bool.eq_false_iff.2 k3
        exact
          runO_sound (N := 100) (os := [(5, .b false), (3, .b true), (1, oL (w3 k1 k2 k3))]) (ps := [_, _, _]) (by kernel_rfl) ⟨cI k1, cI k2, (w3 k1 k2 k3), trivial⟩
    · refine iteRN k2 ?_
      replace k2 := Bool.eq_false_iff.2 k2
      exact
        runO_sound (N := 100) (os := [(5, .b false), (3, .b false)]) (ps := [_, _]) (by kernel_rfl) ⟨cI k1, cI k2, trivial⟩
theorem rGtR_yy {k n : Int} {s : List UInt8} {is : List Val} {ns : List (List UInt8)} {ps : List (List UInt8)} {i : Nat} (c1 : (decide ((i : Int) < ((List.length (rowsN ps) : Nat) : Int))) = true) (h2 : i < List.length (α := List UInt8) ps) (h3 : Runs lp 31 [.agg [.p (.int .i64 k), .p (.int .i64 n), .p (.str s), .p (.sl (rowsV is)), .p (.sl (rowsN ns))], .p (.str (List.getD (α := List UInt8) ps i []))] [] (.p (.int .i64 (placeV (Val.mk k n s is ns) (List.getD (α := List UInt8) ps i []))), [])) (c4 : (decide ((placeV (Val.mk k n s is ns) (List.getD (α := List UInt8) ps i [])) < 0)) = true) :
    LoopN lp 0 (loopNo lf13 0) (tl 0 29 [(1, .p (.sl (rowsN ps))), (2, .ptr 0 0 0), (4, .ptr 1 0 0), (6, .p (.int .i64 (i : Int)))]) [.row [[.p (.int .i64 k), .p (.int .i64 n), .p (.str s), .p (.sl (rowsV is)), .p (.sl (rowsN ns))]], .row [[.p (.int .i64 0), .p (.int .i64 0), .p (.str []), .tight [], .tight []]]] (.ret, (tl 0 29 [(4, .ptr 1 0 0), (5, .p (.bool false))]), [.row [[.p (.int .i64 k), .p (.int .i64 n), .p (.str s), .p (.sl (rowsV is)), .p (.sl (rowsN ns))]], .row [[.p (.int .i64 0), .p (.int .i64 0), .p (.str []), .tight [], .tight []]]]) :=
  have q1 : OpW [.row [[.p (.int .i64 k), .p (.int .i64 n), .p (.str s), .p (.sl (rowsV is)), .p (.sl (rowsN ns))]], .row [[.p (.int .i64 0), .p (.int .i64 0), .p (.str []), .tight [], .tight []]]] (.indexAddr 1 (.const (.p (.sl (rowsN ps)))) (.const (.p (.int .i64 (i : Int))))) (.pin [.str (List.getD (α := List UInt8) ps i [])] 0) [.row [[.p (.int .i64 k), .p (.int .i64 n), .p (.str s), .p (.sl (rowsV is)), .p (.sl (rowsN ns))]], .row [[.p (.int .i64 0), .p (.int .i64 0), .p (.str []), .tight [], .tight []]]] := (opIs_idxE rfl rfl (rowsN_get h2) rfl)
  LoopAt.out (N := 100) (os := [(4, .b true), (3, oO q1), (1, oC h3), (3, .b true)]) (ps := [_, _, _, _]) (by kernel_rfl) (by kernel_rfl) ⟨cI c1, q1, h3, cI c4, trivial⟩
theorem rGtR_yn {k n : Int} {s : List UInt8} {is : List Val} {ns : List (List UInt8)} {ps : List (List UInt8)} {i : Nat} (ke ne : Int) (se : List UInt8) (ise : List Val) (nse : List (List UInt8)) (c1 : (decide ((i : Int) < ((List.length (rowsN ps) : Nat) : Int))) = true) (h2 : i < List.length (α := List UInt8) ps) (h3 : Runs lp 31 [.agg [.p (.int .i64 k), .p (.int .i64 n), .p (.str s), .p (.sl (rowsV is)), .p (.sl (rowsN ns))], .p (.str (List.getD (α := List UInt8) ps i []))] [] (.p (.int .i64 (placeV (Val.mk k n s is ns) (List.getD (α := List UInt8) ps i []))), [])) (c4 : (decide ((placeV (Val.mk k n s is ns) (List.getD (α := List UInt8) ps i [])) < 0)) = false) (h5 : 0 ≤ (placeV (Val.mk k n s is ns) (List.getD (α := List UInt8) ps i []))) (h6 : is[Int.toNat (placeV (Val.mk k n s is ns) (List.getD (α := List UInt8) ps i []))]? = some (Val.mk ke ne se ise nse)) {r : LOut × List LV × List LObj} (hr : LoopN lp 0 (loopNo lf13 0) (tl 0 29 [(1, .p (.sl (rowsN ps))), (2, .ptr 0 0 0), (4, .ptr 1 0 0), (6, .p (.int .i64 (IntKind.wrap .i64 ((i : Int) + 1))))]) [.row [[.p (.int .i64 ke), .p (.int .i64 ne), .p (.str se), .p (.sl (rowsV ise)), .p (.sl (rowsN nse))]], .row [[.p (.int .i64 0), .p (.int .i64 0), .p (.str []), .tight [], .tight []]]] r) :
    LoopN lp 0 (loopNo lf13 0) (tl 0 29 [(1, .p (.sl (rowsN ps))), (2, .ptr 0 0 0), (4, .ptr 1 0 0), (6, .p (.int .i64 (i : Int)))]) [.row [[.p (.int .i64 k), .p (.int .i64 n), .p (.str s), .p (.sl (rowsV is)), .p (.sl (rowsN ns))]], .row [[.p (.int .i64 0), .p (.int .i64 0), .p (.str []), .tight [], .tight []]]] r :=
  have q1 : OpW [.row [[.p (.int .i64 k), .p (.int .i64 n), .p (.str s), .p (.sl (rowsV is)), .p (.sl (rowsN ns))]], .row [[.p (.int .i64 0), .p (.int .i64 0), .p (.str []), .tight [], .tight []]]] (.indexAddr 1 (.const (.p (.sl (rowsN ps)))) (.const (.p (.int .i64 (i : Int))))) (.pin [.str (List.getD (α := List UInt8) ps i [])] 0) [.row [[.p (.int .i64 k), .p (.int .i64 n), .p (.str s), .p (.sl (rowsV is)), .p (.sl (rowsN ns))]], .row [[.p (.int .i64 0), .p (.int .i64 0), .p (.str []), .tight [], .tight []]]] := (opIs_idxE rfl rfl (rowsN_get h2) rfl)
  have q2 : OpW [.row [[.p (.int .i64 k), .p (.int .i64 n), .p (.str s), .p (.sl (rowsV is)), .p (.sl (rowsN ns))]], .row [[.p (.int .i64 0), .p (.int .i64 0), .p (.str []), .tight [], .tight []]]] (.indexAddr 5 (.const (.p (.sl (rowsV is)))) (.const (.p (.int .i64 (placeV (Val.mk k n s is ns) (List.getD (α := List UInt8) ps i [])))))) (.pin [.int .i64 ke, .int .i64 ne, .str se, .sl (rowsV ise), .sl (rowsN nse)] 0) [.row [[.p (.int .i64 k), .p (.int .i64 n), .p (.str s), .p (.sl (rowsV is)), .p (.sl (rowsN ns))]], .row [[.p (.int .i64 0), .p (.int .i64 0), .p (.str []), .tight [], .tight []]]] := (opIs_idxZ h5 (rowsV_get h6) rfl)
  LoopAt.on (N := 100) (os := [(4, .b true), (3, oO q1), (1, oC h3), (3, .b false), (3, oO q2)]) (ps := [_, _, _, _, _]) (by kernel_rfl) ⟨cI c1, q1, h3, cI c4, q2, trivial⟩ hr
theorem rGtR_n {k n : Int} {s : List UInt8} {is : List Val} {ns : List (List UInt8)} {ps : List (List UInt8)} {i : Nat} (c1 : (decide ((i : Int) < ((List.length (rowsN ps) : Nat) : Int))) = false) :
    LoopN lp 0 (loopNo lf13 0) (tl 0 29 [(1, .p (.sl (rowsN ps))), (2, .ptr 0 0 0), (4, .ptr 1 0 0), (6, .p (.int .i64 (i : Int)))]) [.row [[.p (.int .i64 k), .p (.int .i64 n), .p (.str s), .p (.sl (rowsV is)), .p (.sl (rowsN ns))]], .row [[.p (.int .i64 0), .p (.int .i64 0), .p (.str []), .tight [], .tight []]]] (.exit 0, (tl 0 29 [(2, .ptr 0 0 0), (4, .ptr 1 0 0)]), [.row [[.p (.int .i64 k), .p (.int .i64 n), .p (.str s), .p (.sl (rowsV is)), .p (.sl (rowsN ns))]], .row [[.p (.int .i64 0), .p (.int .i64 0), .p (.str []), .tight [], .tight []]]]) :=
  LoopAt.out (N := 100) (os := [(4, .b false)]) (ps := [_]) (by kernel_rfl) (by kernel_rfl) ⟨cI c1, trivial⟩
end Go.Proofs.Ytpkmddkodchanaa
