import Derived.Test.YtpkmddkodchanaaLsTre
import Derived.Test.YtpkmddkodchanaaLsLives
set_option linter.unusedVariables false
set_option linter.unusedSimpArgs false
set_option maxRecDepth 100000
namespace Go.Proofs.Ytpkmddkodchanaa
open Go Go.LS
theorem tChk0 {k n : Int} {s : List UInt8} {is : List Val} {ns : List (List UInt8)} {ps : List (List UInt8)} (w1 : (k == 7) = true → Runs lp 33 [.agg [.p (.int .i64 k), .p (.int .i64 n), .p (.str s), .p (.sl (rowsV is)), .p (.sl (rowsN ns))]] [] (.p (.bool (mayV (Val.mk k n s is ns))), [])) (w2 : (k == 7) = true → (mayV (Val.mk k n s is ns)) = true → Runs lp 43 [.p (.sl (rowsN ps))] [] (.p (.bool (pathB ps)), [])) :
    Runs lp 27 [.agg [.p (.int .i64 k), .p (.int .i64 n), .p (.str s), .p (.sl (rowsV is)), .p (.sl (rowsN ns))], .p (.sl (rowsN ps))] [] (if (k == 7) = true then (if (mayV (Val.mk k n s is ns)) = true then (if (pathB ps) = true then ((.p (.int .i64 0), [])) else ((.p (.int .i64 40), []))) else ((.p (.int .i64 20), []))) else ((.p (.int .i64 20), []))) := by
  by_cases k1 : (k == 7) = true
  · refine iteRP k1 ?_
    by_cases k2 : (mayV (Val.mk k n s is ns)) = true
    · refine iteRP k2 ?_
      by_cases k3 : (pathB ps) = true
      · refine iteRP k3 ?_
        exact
          runO_sound (N := 100) (os := [(6, .b false), (1, .b false), (0, oC (w1 k1)), (0, .b false), (1, .b false), (1, .b false), (1, oC (w2 k1 k2)), (2, .b false)]) (ps := [_, _, _, _, _, _, _, _]) (by kernel_rfl) ⟨(cI (notI k1)), (cI (notI k1)), (w1 k1), (cI (notI k1)), (cI (notI k1)), (cI (notI k2)), (w2 k1 k2), (cI (notI k3)), trivial⟩
      · refine iteRN k3 ?_
        replace k3 := Bool.eq_false_iff.2 k3
        exact
          runO_sound (N := 100) (os := [(6, .b false), (1, .b false), (0, oC (w1 k1)), (0, .b false), (1, .b false), (1, .b false), (1, oC (w2 k1 k2)), (2, .b true)]) (ps := [_, _, _, _, _, _, _, _]) (by kernel_rfl) ⟨(cI (notI k1)), (cI (notI k1)), (w1 k1), (cI (notI k1)), (cI (notI k1)), (cI (notI k2)), (w2 k1 k2), (cI (notI k3)), trivial⟩
    · refine iteRN k2 ?_
      replace k2 := Bool.eq_false_iff.2 k2
      exact
        runO_sound (N := 100) (os := [(6, .b false), (1, .b false), (0, oC (w1 k1)), (0, .b false), (1, .b false), (1, .b true)]) (ps := [_, _, _, _, _, _]) (by kernel_rfl) ⟨(cI (notI k1)), (cI (notI k1)), (w1 k1), (cI (notI k1)), (cI (notI k1)), (cI (notI k2)), trivial⟩
  · refine iteRN k1 ?_
    replace k1 := Bool.eq_false_iff.2 k1
    exact
      runO_sound (N := 100) (os := [(6, .b true), (0, .b true), (0, .b true), (0, .b true)]) (ps := [_, _, _, _]) (by kernel_rfl) ⟨(cI (notI k1)), (cI (notI k1)), (cI (notI k1)), (cI (notI k1)), trivial⟩
theorem rDoc0 {k n : Int} {s : List UInt8} {is : List Val} {ns : List (List UInt8)} (w1 : (k == 7) = true → Runs lp 19 [.agg [.p (.int .i64 k), .p (.int .i64 n), .p (.str s), .p (.sl (rowsV is)), .p (.sl (rowsN ns))]] [] (.p (.bool (mayV (Val.mk k n s is ns))), [])) :
    Runs lp 14 [.agg [.p (.int .i64 k), .p (.int .i64 n), .p (.str s), .p (.sl (rowsV is)), .p (.sl (rowsN ns))]] [] (if (k == 7) = true then ((.p (.bool (mayV (Val.mk k n s is ns))), [])) else ((.p (.bool false), []))) := by
  by_cases k1 : (k == 7) = true
  · refine iteRP k1 ?_
    exact
      runO_sound (N := 100) (os := [(6, .b true), (1, .b true), (0, oC (w1 k1)), (0, .b true)]) (ps := [_, _, _, _]) (by kernel_rfl) ⟨cI k1, cI k1, (w1 k1), cI k1, trivial⟩
  · refine iteRN k1 ?_
    replace k1 := Bool.eq_false_iff.2 k1
    exact
      runO_sound (N := 100) (os := [(6, .b false), (0, .b false), (0, .b false)]) (ps := [_, _, _]) (by kernel_rfl) ⟨cI k1, cI k1, cI k1, trivial⟩
theorem wrong0 {k n : Int} {s : List UInt8} {is : List Val} {ns : List (List UInt8)} {ps : List (List UInt8)} (w1 : Runs lp 14 [.agg [.p (.int .i64 k), .p (.int .i64 n), .p (.str s), .p (.sl (rowsV is)), .p (.sl (rowsN ns))]] [] (.p (.bool (docV (Val.mk k n s is ns))), [])) (w2 : (docV (Val.mk k n s is ns)) = true → Runs lp 30 [.p (.sl (rowsN ps))] [] (.p (.bool (pathB ps)), [])) :
    Runs lp 12 [.agg [.p (.int .i64 k), .p (.int .i64 n), .p (.str s), .p (.sl (rowsV is)), .p (.sl (rowsN ns))], .p (.sl (rowsN ps))] [] (if (docV (Val.mk k n s is ns)) = true then (if (pathB ps) = true then ((.p (.int .i64 0), [])) else ((.p (.int .i64 40), []))) else ((.p (.int .i64 20), []))) := by
  by_cases k1 : (docV (Val.mk k n s is ns)) = true
  · refine iteRP k1 ?_
    by_cases k2 : (pathB ps) = true
    · refine iteRP k2 ?_
      exact
        runO_sound (N := 100) (os := [(3, oC w1), (1, .b false), (1, oC (w2 k1)), (1, .b false)]) (ps := [_, _, _, _]) (by kernel_rfl) ⟨w1, (cI (notI k1)), (w2 k1), (cI (notI k2)), trivial⟩
    · refine iteRN k2 ?_
      replace k2 := Bool.eq_false_iff.2 k2
      exact
        runO_sound (N := 100) (os := [(3, oC w1), (1, .b false), (1, oC (w2 k1)), (1, .b true)]) (ps := [_, _, _, _]) (by kernel_rfl) ⟨w1, (cI (notI k1)), (w2 k1), (cI (notI k2)), trivial⟩
  · refine iteRN k1 ?_
    replace k1 := Bool.eq_false_iff.2 k1
    exact
      runO_sound (N := 100) (os := [(3, oC w1), (1, .b true)]) (ps := [_, _]) (by kernel_rfl) ⟨w1, (cI (notI k1)), trivial⟩
theorem rGt0 {k n : Int} {s : List UInt8} {is : List Val} {ns : List (List UInt8)} {kx nx : Int} {sx : List UInt8} {isx : List Val} {nsx : List (List UInt8)} {ky ny : Int} {sy : List UInt8} {isy : List Val} {nsy : List (List UInt8)} {ps : List (List UInt8)} {g : Bool} (w1 : (g) = true → LoopN lp 0 (loopNo lf13 0) (tl 0 29 [(1, .p (.sl (rowsN ps))), (2, .ptr 0 0 0), (4, .ptr 1 0 0), (6, .p (.int .i64 0))]) [.row [[.p (.int .i64 k), .p (.int .i64 n), .p (.str s), .p (.sl (rowsV is)), .p (.sl (rowsN ns))]], .row [[.p (.int .i64 0), .p (.int .i64 0), .p (.str []), .tight [], .tight []]]] (.exit 0, (tl 0 29 [(2, .ptr 0 0 0), (4, .ptr 1 0 0)]), [.row [[.p (.int .i64 kx), .p (.int .i64 nx), .p (.str sx), .p (.sl (rowsV isx)), .p (.sl (rowsN nsx))]], .row [[.p (.int .i64 0), .p (.int .i64 0), .p (.str []), .tight [], .tight []]]])) (w2 : (g) = false → LoopN lp 0 (loopNo lf13 0) (tl 0 29 [(1, .p (.sl (rowsN ps))), (2, .ptr 0 0 0), (4, .ptr 1 0 0), (6, .p (.int .i64 0))]) [.row [[.p (.int .i64 k), .p (.int .i64 n), .p (.str s), .p (.sl (rowsV is)), .p (.sl (rowsN ns))]], .row [[.p (.int .i64 0), .p (.int .i64 0), .p (.str []), .tight [], .tight []]]] (.ret, (tl 0 29 [(4, .ptr 1 0 0), (5, .p (.bool false))]), [.row [[.p (.int .i64 ky), .p (.int .i64 ny), .p (.str sy), .p (.sl (rowsV isy)), .p (.sl (rowsN nsy))]], .row [[.p (.int .i64 0), .p (.int .i64 0), .p (.str []), .tight [], .tight []]]])) :
    Runs lp 13 [.agg [.p (.int .i64 k), .p (.int .i64 n), .p (.str s), .p (.sl (rowsV is)), .p (.sl (rowsN ns))], .p (.sl (rowsN ps))] [] (if (g) = true then ((.tup [.agg [.p (.int .i64 kx), .p (.int .i64 nx), .p (.str sx), .p (.sl (rowsV isx)), .p (.sl (rowsN nsx))], .p (.bool true)], [])) else ((.tup [.agg [.p (.int .i64 0), .p (.int .i64 0), .p (.str []), .tight [], .tight []], .p (.bool false)], []))) := by
  by_cases k1 : (g) = true
  · refine iteRP k1 ?_
    exact
      runO_sound (N := 100) (os := [(4, oL (w1 k1))]) (ps := [_]) (by kernel_rfl) ⟨(w1 k1), trivial⟩
  · refine iteRN k1 ?_
    replace k1 := Bool.eq_false_iff.2 k1
    exact
      runO_sound (N := 100) (os := [(4, oL (w2 k1))]) (ps := [_]) (by kernel_rfl) ⟨(w2 k1), trivial⟩
theorem large0 {k n : Int} {s : List UInt8} {is : List Val} {ns : List (List UInt8)} {ps : List (List UInt8)} (w1 : Runs lp 16 [.agg [.p (.int .i64 k), .p (.int .i64 n), .p (.str s), .p (.sl (rowsV is)), .p (.sl (rowsN ns))]] [] (.p (.bool (largeV (Val.mk k n s is ns))), [])) :
    Runs lp 8 [.agg [.p (.int .i64 k), .p (.int .i64 n), .p (.str s), .p (.sl (rowsV is)), .p (.sl (rowsN ns))], .p (.sl (rowsN ps))] [] (if (largeV (Val.mk k n s is ns)) = true then ((.p (.bool true), [])) else ((.p (.bool (decide (((List.length (rowsN ps) : Nat) : Int) > 50))), []))) := by
  by_cases k1 : (largeV (Val.mk k n s is ns)) = true
  · refine iteRP k1 ?_
    exact
      runO_sound (N := 100) (os := [(3, oC w1), (1, .b true), (0, .b true), (0, .b true), (0, .b true)]) (ps := [_, _, _, _, _]) (by kernel_rfl) ⟨w1, cI k1, cI k1, cI k1, cI k1, trivial⟩
  · refine iteRN k1 ?_
    replace k1 := Bool.eq_false_iff.2 k1
    exact
      runO_sound (N := 100) (os := [(3, oC w1), (1, .b false), (1, .b false), (1, .b false), (1, .b false)]) (ps := [_, _, _, _, _]) (by kernel_rfl) ⟨w1, cI k1, cI k1, cI k1, cI k1, trivial⟩
end Go.Proofs.Ytpkmddkodchanaa
