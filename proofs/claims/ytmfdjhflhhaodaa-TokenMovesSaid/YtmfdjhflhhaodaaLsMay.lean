/- Ways of May: printed by may.py. -/
import Derived.Test.YtmfdjhflhhaodaaLsF
import Derived.Test.YtmfdjhflhhaodaaLsG5
set_option linter.unusedVariables false
set_option maxRecDepth 100000
namespace Go.Proofs.Ytmfdjhflhhaodaa
open Go Go.LS

theorem isc1_y {x : Int} (c1 : (decide (x < 0)) = true) :
    Runs lp 29 [(.p (.int .i64 x))] [] ((.p (.bool true)), []) :=
  runO_sound (N := 100) (os := [(4, .b true), (0, .b true), (0, .b true)])
    (ps := [(LV.p (PV.bool (decide (x < 0))) = .p (.bool true)), (LV.p (PV.bool (decide (x < 0))) = .p (.bool true)), (LV.p (PV.bool (decide (x < 0))) = .p (.bool true))])
    (by kernel_rfl) ⟨(congrArg (fun b => LV.p (PV.bool b)) c1), (congrArg (fun b => LV.p (PV.bool b)) c1), (congrArg (fun b => LV.p (PV.bool b)) c1), trivial⟩

theorem isc1_n {x : Int} (c1 : (decide (x < 0)) = false) :
    Runs lp 29 [(.p (.int .i64 x))] [] ((.p (.bool (decide (x > 1099511627776)))), []) :=
  runO_sound (N := 100) (os := [(4, .b false), (1, .b false), (1, .b false)])
    (ps := [(LV.p (PV.bool (decide (x < 0))) = .p (.bool false)), (LV.p (PV.bool (decide (x < 0))) = .p (.bool false)), (LV.p (PV.bool (decide (x < 0))) = .p (.bool false))])
    (by kernel_rfl) ⟨(congrArg (fun b => LV.p (PV.bool b)) c1), (congrArg (fun b => LV.p (PV.bool b)) c1), (congrArg (fun b => LV.p (PV.bool b)) c1), trivial⟩

theorem isc1 {x : Int}  :
    Runs lp 29 [(.p (.int .i64 x))] [] (if (decide (x < 0)) = true then (((.p (.bool true)), [])) else (((.p (.bool (decide (x > 1099511627776)))), []))) := by
  by_cases k1 : (decide (x < 0)) = true
  · refine iteRP k1 ?_
    exact isc1_y (x := x) k1
  · refine iteRN k1 ?_
    replace k1 := Bool.eq_false_iff.2 k1
    exact isc1_n (x := x) k1

theorem iscI_y_u0_1 {x y : Int} (c1 : (decide (x < 0)) = true) :
    LoopAt lp 0 (loopNo lf38 0).1 (loopNo lf38 0).2 (tl 0 19 [(0, (.tight [[(.int .i64 x)], [(.int .i64 y)]])), (1, (.fn (.func 29) [] [])), (7, (.p (.int .i64 2))), (8, (.p (.int .i64 0)))]) [] (.ret, (tl 0 19 [(4, (.p (.int .i64 0)))]), []) :=
  .out (N := 100) (os := [(9, .call (.p (.bool true)) [])])
    (ps := [(Runs lp 29 [(.p (.int .i64 x))] [] ((.p (.bool true)), []))])
    (by kernel_rfl) (by kernel_rfl) ⟨(isc1_y (x := x) c1), trivial⟩

theorem iscI_y {x y : Int} (c1 : (decide (x < 0)) = true) :
    Runs lp 38 [(.tight [[(.int .i64 x)], [(.int .i64 y)]]), (.fn (.func 29) [] [])] [] ((.p (.int .i64 0)), []) :=
  runO_sound (N := 100) (os := [(4, .lp .ret (tl 0 19 [(4, (.p (.int .i64 0)))]) [])])
    (ps := [(LoopAt lp 0 (loopNo lf38 0).1 (loopNo lf38 0).2 (tl 0 19 [(0, (.tight [[(.int .i64 x)], [(.int .i64 y)]])), (1, (.fn (.func 29) [] [])), (7, (.p (.int .i64 2))), (8, (.p (.int .i64 0)))]) [] (.ret, (tl 0 19 [(4, (.p (.int .i64 0)))]), []))])
    (by kernel_rfl) ⟨(iscI_y_u0_1 (x := x) (y := y) c1), trivial⟩

theorem iscI_ny_u0_1 {x y : Int} (c1 : (decide (x < 0)) = false) (c2 : (decide (x > 1099511627776)) = true) :
    LoopAt lp 0 (loopNo lf38 0).1 (loopNo lf38 0).2 (tl 0 19 [(0, (.tight [[(.int .i64 x)], [(.int .i64 y)]])), (1, (.fn (.func 29) [] [])), (7, (.p (.int .i64 2))), (8, (.p (.int .i64 0)))]) [] (.ret, (tl 0 19 [(4, (.p (.int .i64 0)))]), []) :=
  .out (N := 100) (os := [(9, .call (.p (.bool (decide (x > 1099511627776)))) []), (0, .b true)])
    (ps := [(Runs lp 29 [(.p (.int .i64 x))] [] ((.p (.bool (decide (x > 1099511627776)))), [])), (LV.p (PV.bool (decide (x > 1099511627776))) = .p (.bool true))])
    (by kernel_rfl) (by kernel_rfl) ⟨(isc1_n (x := x) c1), (congrArg (fun b => LV.p (PV.bool b)) c2), trivial⟩

theorem iscI_ny {x y : Int} (c1 : (decide (x < 0)) = false) (c2 : (decide (x > 1099511627776)) = true) :
    Runs lp 38 [(.tight [[(.int .i64 x)], [(.int .i64 y)]]), (.fn (.func 29) [] [])] [] ((.p (.int .i64 0)), []) :=
  runO_sound (N := 100) (os := [(4, .lp .ret (tl 0 19 [(4, (.p (.int .i64 0)))]) [])])
    (ps := [(LoopAt lp 0 (loopNo lf38 0).1 (loopNo lf38 0).2 (tl 0 19 [(0, (.tight [[(.int .i64 x)], [(.int .i64 y)]])), (1, (.fn (.func 29) [] [])), (7, (.p (.int .i64 2))), (8, (.p (.int .i64 0)))]) [] (.ret, (tl 0 19 [(4, (.p (.int .i64 0)))]), []))])
    (by kernel_rfl) ⟨(iscI_ny_u0_1 (x := x) (y := y) c1 c2), trivial⟩

theorem iscI_nny_u0_1 {x y : Int} (c1 : (decide (x < 0)) = false) (c2 : (decide (x > 1099511627776)) = false) {r : LOut × List LV × List LObj} (hr : LoopAt lp 0 (loopNo lf38 0).1 (loopNo lf38 0).2 (tl 0 19 [(0, (.tight [[(.int .i64 x)], [(.int .i64 y)]])), (1, (.fn (.func 29) [] [])), (7, (.p (.int .i64 2))), (8, (.p (.int .i64 1)))]) [] r) :
    LoopAt lp 0 (loopNo lf38 0).1 (loopNo lf38 0).2 (tl 0 19 [(0, (.tight [[(.int .i64 x)], [(.int .i64 y)]])), (1, (.fn (.func 29) [] [])), (7, (.p (.int .i64 2))), (8, (.p (.int .i64 0)))]) [] r :=
  .on (N := 100) (os := [(9, .call (.p (.bool (decide (x > 1099511627776)))) []), (0, .b false)])
    (ps := [(Runs lp 29 [(.p (.int .i64 x))] [] ((.p (.bool (decide (x > 1099511627776)))), [])), (LV.p (PV.bool (decide (x > 1099511627776))) = .p (.bool false))])
    (by kernel_rfl) ⟨(isc1_n (x := x) c1), (congrArg (fun b => LV.p (PV.bool b)) c2), trivial⟩ hr

theorem iscI_nny_u0_2 {x y : Int} (c1 : (decide (y < 0)) = true) :
    LoopAt lp 0 (loopNo lf38 0).1 (loopNo lf38 0).2 (tl 0 19 [(0, (.tight [[(.int .i64 x)], [(.int .i64 y)]])), (1, (.fn (.func 29) [] [])), (7, (.p (.int .i64 2))), (8, (.p (.int .i64 1)))]) [] (.ret, (tl 0 19 [(4, (.p (.int .i64 1)))]), []) :=
  .out (N := 100) (os := [(9, .call (.p (.bool true)) [])])
    (ps := [(Runs lp 29 [(.p (.int .i64 y))] [] ((.p (.bool true)), []))])
    (by kernel_rfl) (by kernel_rfl) ⟨(isc1_y (x := y) c1), trivial⟩

theorem iscI_nny {x y : Int} (c1 : (decide (x < 0)) = false) (c2 : (decide (x > 1099511627776)) = false) (c3 : (decide (y < 0)) = true) :
    Runs lp 38 [(.tight [[(.int .i64 x)], [(.int .i64 y)]]), (.fn (.func 29) [] [])] [] ((.p (.int .i64 1)), []) :=
  runO_sound (N := 100) (os := [(4, .lp .ret (tl 0 19 [(4, (.p (.int .i64 1)))]) [])])
    (ps := [(LoopAt lp 0 (loopNo lf38 0).1 (loopNo lf38 0).2 (tl 0 19 [(0, (.tight [[(.int .i64 x)], [(.int .i64 y)]])), (1, (.fn (.func 29) [] [])), (7, (.p (.int .i64 2))), (8, (.p (.int .i64 0)))]) [] (.ret, (tl 0 19 [(4, (.p (.int .i64 1)))]), []))])
    (by kernel_rfl) ⟨(iscI_nny_u0_1 (x := x) (y := y) c1 c2 (iscI_nny_u0_2 (x := x) (y := y) c3)), trivial⟩

theorem iscI_nnny_u0_1 {x y : Int} (c1 : (decide (x < 0)) = false) (c2 : (decide (x > 1099511627776)) = false) {r : LOut × List LV × List LObj} (hr : LoopAt lp 0 (loopNo lf38 0).1 (loopNo lf38 0).2 (tl 0 19 [(0, (.tight [[(.int .i64 x)], [(.int .i64 y)]])), (1, (.fn (.func 29) [] [])), (7, (.p (.int .i64 2))), (8, (.p (.int .i64 1)))]) [] r) :
    LoopAt lp 0 (loopNo lf38 0).1 (loopNo lf38 0).2 (tl 0 19 [(0, (.tight [[(.int .i64 x)], [(.int .i64 y)]])), (1, (.fn (.func 29) [] [])), (7, (.p (.int .i64 2))), (8, (.p (.int .i64 0)))]) [] r :=
  .on (N := 100) (os := [(9, .call (.p (.bool (decide (x > 1099511627776)))) []), (0, .b false)])
    (ps := [(Runs lp 29 [(.p (.int .i64 x))] [] ((.p (.bool (decide (x > 1099511627776)))), [])), (LV.p (PV.bool (decide (x > 1099511627776))) = .p (.bool false))])
    (by kernel_rfl) ⟨(isc1_n (x := x) c1), (congrArg (fun b => LV.p (PV.bool b)) c2), trivial⟩ hr

theorem iscI_nnny_u0_2 {x y : Int} (c1 : (decide (y < 0)) = false) (c2 : (decide (y > 1099511627776)) = true) :
    LoopAt lp 0 (loopNo lf38 0).1 (loopNo lf38 0).2 (tl 0 19 [(0, (.tight [[(.int .i64 x)], [(.int .i64 y)]])), (1, (.fn (.func 29) [] [])), (7, (.p (.int .i64 2))), (8, (.p (.int .i64 1)))]) [] (.ret, (tl 0 19 [(4, (.p (.int .i64 1)))]), []) :=
  .out (N := 100) (os := [(9, .call (.p (.bool (decide (y > 1099511627776)))) []), (0, .b true)])
    (ps := [(Runs lp 29 [(.p (.int .i64 y))] [] ((.p (.bool (decide (y > 1099511627776)))), [])), (LV.p (PV.bool (decide (y > 1099511627776))) = .p (.bool true))])
    (by kernel_rfl) (by kernel_rfl) ⟨(isc1_n (x := y) c1), (congrArg (fun b => LV.p (PV.bool b)) c2), trivial⟩

theorem iscI_nnny {x y : Int} (c1 : (decide (x < 0)) = false) (c2 : (decide (x > 1099511627776)) = false) (c3 : (decide (y < 0)) = false) (c4 : (decide (y > 1099511627776)) = true) :
    Runs lp 38 [(.tight [[(.int .i64 x)], [(.int .i64 y)]]), (.fn (.func 29) [] [])] [] ((.p (.int .i64 1)), []) :=
  runO_sound (N := 100) (os := [(4, .lp .ret (tl 0 19 [(4, (.p (.int .i64 1)))]) [])])
    (ps := [(LoopAt lp 0 (loopNo lf38 0).1 (loopNo lf38 0).2 (tl 0 19 [(0, (.tight [[(.int .i64 x)], [(.int .i64 y)]])), (1, (.fn (.func 29) [] [])), (7, (.p (.int .i64 2))), (8, (.p (.int .i64 0)))]) [] (.ret, (tl 0 19 [(4, (.p (.int .i64 1)))]), []))])
    (by kernel_rfl) ⟨(iscI_nnny_u0_1 (x := x) (y := y) c1 c2 (iscI_nnny_u0_2 (x := x) (y := y) c3 c4)), trivial⟩

theorem iscI_nnnn_u0_1 {x y : Int} (c1 : (decide (x < 0)) = false) (c2 : (decide (x > 1099511627776)) = false) {r : LOut × List LV × List LObj} (hr : LoopAt lp 0 (loopNo lf38 0).1 (loopNo lf38 0).2 (tl 0 19 [(0, (.tight [[(.int .i64 x)], [(.int .i64 y)]])), (1, (.fn (.func 29) [] [])), (7, (.p (.int .i64 2))), (8, (.p (.int .i64 1)))]) [] r) :
    LoopAt lp 0 (loopNo lf38 0).1 (loopNo lf38 0).2 (tl 0 19 [(0, (.tight [[(.int .i64 x)], [(.int .i64 y)]])), (1, (.fn (.func 29) [] [])), (7, (.p (.int .i64 2))), (8, (.p (.int .i64 0)))]) [] r :=
  .on (N := 100) (os := [(9, .call (.p (.bool (decide (x > 1099511627776)))) []), (0, .b false)])
    (ps := [(Runs lp 29 [(.p (.int .i64 x))] [] ((.p (.bool (decide (x > 1099511627776)))), [])), (LV.p (PV.bool (decide (x > 1099511627776))) = .p (.bool false))])
    (by kernel_rfl) ⟨(isc1_n (x := x) c1), (congrArg (fun b => LV.p (PV.bool b)) c2), trivial⟩ hr

theorem iscI_nnnn_u0_2 {x y : Int} (c1 : (decide (y < 0)) = false) (c2 : (decide (y > 1099511627776)) = false) {r : LOut × List LV × List LObj} (hr : LoopAt lp 0 (loopNo lf38 0).1 (loopNo lf38 0).2 (tl 0 19 [(0, (.tight [[(.int .i64 x)], [(.int .i64 y)]])), (1, (.fn (.func 29) [] [])), (7, (.p (.int .i64 2))), (8, (.p (.int .i64 2)))]) [] r) :
    LoopAt lp 0 (loopNo lf38 0).1 (loopNo lf38 0).2 (tl 0 19 [(0, (.tight [[(.int .i64 x)], [(.int .i64 y)]])), (1, (.fn (.func 29) [] [])), (7, (.p (.int .i64 2))), (8, (.p (.int .i64 1)))]) [] r :=
  .on (N := 100) (os := [(9, .call (.p (.bool (decide (y > 1099511627776)))) []), (0, .b false)])
    (ps := [(Runs lp 29 [(.p (.int .i64 y))] [] ((.p (.bool (decide (y > 1099511627776)))), [])), (LV.p (PV.bool (decide (y > 1099511627776))) = .p (.bool false))])
    (by kernel_rfl) ⟨(isc1_n (x := y) c1), (congrArg (fun b => LV.p (PV.bool b)) c2), trivial⟩ hr

theorem iscI_nnnn_u0_3 {x y : Int}  :
    LoopAt lp 0 (loopNo lf38 0).1 (loopNo lf38 0).2 (tl 0 19 [(0, (.tight [[(.int .i64 x)], [(.int .i64 y)]])), (1, (.fn (.func 29) [] [])), (7, (.p (.int .i64 2))), (8, (.p (.int .i64 2)))]) [] ((.exit 0), (tl 0 19 []), []) :=
  .out (N := 100) (os := [])
    (ps := [])
    (by kernel_rfl) (by kernel_rfl) trivial

theorem iscI_nnnn {x y : Int} (c1 : (decide (x < 0)) = false) (c2 : (decide (x > 1099511627776)) = false) (c3 : (decide (y < 0)) = false) (c4 : (decide (y > 1099511627776)) = false) :
    Runs lp 38 [(.tight [[(.int .i64 x)], [(.int .i64 y)]]), (.fn (.func 29) [] [])] [] ((.p (.int .i64 (-1))), []) :=
  runO_sound (N := 100) (os := [(4, .lp (.exit 0) (tl 0 19 []) [])])
    (ps := [(LoopAt lp 0 (loopNo lf38 0).1 (loopNo lf38 0).2 (tl 0 19 [(0, (.tight [[(.int .i64 x)], [(.int .i64 y)]])), (1, (.fn (.func 29) [] [])), (7, (.p (.int .i64 2))), (8, (.p (.int .i64 0)))]) [] ((.exit 0), (tl 0 19 []), []))])
    (by kernel_rfl) ⟨(iscI_nnnn_u0_1 (x := x) (y := y) c1 c2 (iscI_nnnn_u0_2 (x := x) (y := y) c3 c4 (iscI_nnnn_u0_3 (x := x) (y := y) ))), trivial⟩

theorem iscI {x y : Int}  :
    Runs lp 38 [(.tight [[(.int .i64 x)], [(.int .i64 y)]]), (.fn (.func 29) [] [])] [] (if (decide (x < 0)) = true then (((.p (.int .i64 0)), [])) else (if (decide (x > 1099511627776)) = true then (((.p (.int .i64 0)), [])) else (if (decide (y < 0)) = true then (((.p (.int .i64 1)), [])) else (if (decide (y > 1099511627776)) = true then (((.p (.int .i64 1)), [])) else (((.p (.int .i64 (-1))), [])))))) := by
  by_cases k1 : (decide (x < 0)) = true
  · refine iteRP k1 ?_
    exact iscI_y (x := x) (y := y) k1
  · refine iteRN k1 ?_
    replace k1 := Bool.eq_false_iff.2 k1
    by_cases k2 : (decide (x > 1099511627776)) = true
    · refine iteRP k2 ?_
      exact iscI_ny (x := x) (y := y) k1 k2
    · refine iteRN k2 ?_
      replace k2 := Bool.eq_false_iff.2 k2
      by_cases k3 : (decide (y < 0)) = true
      · refine iteRP k3 ?_
        exact iscI_nny (x := x) (y := y) k1 k2 k3
      · refine iteRN k3 ?_
        replace k3 := Bool.eq_false_iff.2 k3
        by_cases k4 : (decide (y > 1099511627776)) = true
        · refine iteRP k4 ?_
          exact iscI_nnny (x := x) (y := y) k1 k2 k3 k4
        · refine iteRN k4 ?_
          replace k4 := Bool.eq_false_iff.2 k4
          exact iscI_nnnn (x := x) (y := y) k1 k2 k3 k4

theorem iscC_y {x y : Int} (c1 : (decide (x < 0)) = true) :
    Runs lp 28 [(.tight [[(.int .i64 x)], [(.int .i64 y)]]), (.fn (.func 29) [] [])] [] ((.p (.bool true)), []) :=
  runO_sound (N := 100) (os := [(3, .call (.p (.int .i64 0)) [])])
    (ps := [(Runs lp 38 [(.tight [[(.int .i64 x)], [(.int .i64 y)]]), (.fn (.func 29) [] [])] [] ((.p (.int .i64 0)), []))])
    (by kernel_rfl) ⟨(iscI_y (x := x) (y := y) c1), trivial⟩

theorem iscC_ny {x y : Int} (c1 : (decide (x < 0)) = false) (c2 : (decide (x > 1099511627776)) = true) :
    Runs lp 28 [(.tight [[(.int .i64 x)], [(.int .i64 y)]]), (.fn (.func 29) [] [])] [] ((.p (.bool true)), []) :=
  runO_sound (N := 100) (os := [(3, .call (.p (.int .i64 0)) [])])
    (ps := [(Runs lp 38 [(.tight [[(.int .i64 x)], [(.int .i64 y)]]), (.fn (.func 29) [] [])] [] ((.p (.int .i64 0)), []))])
    (by kernel_rfl) ⟨(iscI_ny (x := x) (y := y) c1 c2), trivial⟩

theorem iscC_nny {x y : Int} (c1 : (decide (x < 0)) = false) (c2 : (decide (x > 1099511627776)) = false) (c3 : (decide (y < 0)) = true) :
    Runs lp 28 [(.tight [[(.int .i64 x)], [(.int .i64 y)]]), (.fn (.func 29) [] [])] [] ((.p (.bool true)), []) :=
  runO_sound (N := 100) (os := [(3, .call (.p (.int .i64 1)) [])])
    (ps := [(Runs lp 38 [(.tight [[(.int .i64 x)], [(.int .i64 y)]]), (.fn (.func 29) [] [])] [] ((.p (.int .i64 1)), []))])
    (by kernel_rfl) ⟨(iscI_nny (x := x) (y := y) c1 c2 c3), trivial⟩

theorem iscC_nnny {x y : Int} (c1 : (decide (x < 0)) = false) (c2 : (decide (x > 1099511627776)) = false) (c3 : (decide (y < 0)) = false) (c4 : (decide (y > 1099511627776)) = true) :
    Runs lp 28 [(.tight [[(.int .i64 x)], [(.int .i64 y)]]), (.fn (.func 29) [] [])] [] ((.p (.bool true)), []) :=
  runO_sound (N := 100) (os := [(3, .call (.p (.int .i64 1)) [])])
    (ps := [(Runs lp 38 [(.tight [[(.int .i64 x)], [(.int .i64 y)]]), (.fn (.func 29) [] [])] [] ((.p (.int .i64 1)), []))])
    (by kernel_rfl) ⟨(iscI_nnny (x := x) (y := y) c1 c2 c3 c4), trivial⟩

theorem iscC_nnnn {x y : Int} (c1 : (decide (x < 0)) = false) (c2 : (decide (x > 1099511627776)) = false) (c3 : (decide (y < 0)) = false) (c4 : (decide (y > 1099511627776)) = false) :
    Runs lp 28 [(.tight [[(.int .i64 x)], [(.int .i64 y)]]), (.fn (.func 29) [] [])] [] ((.p (.bool false)), []) :=
  runO_sound (N := 100) (os := [(3, .call (.p (.int .i64 (-1))) [])])
    (ps := [(Runs lp 38 [(.tight [[(.int .i64 x)], [(.int .i64 y)]]), (.fn (.func 29) [] [])] [] ((.p (.int .i64 (-1))), []))])
    (by kernel_rfl) ⟨(iscI_nnnn (x := x) (y := y) c1 c2 c3 c4), trivial⟩

theorem iscC {x y : Int}  :
    Runs lp 28 [(.tight [[(.int .i64 x)], [(.int .i64 y)]]), (.fn (.func 29) [] [])] [] (if (decide (x < 0)) = true then (((.p (.bool true)), [])) else (if (decide (x > 1099511627776)) = true then (((.p (.bool true)), [])) else (if (decide (y < 0)) = true then (((.p (.bool true)), [])) else (if (decide (y > 1099511627776)) = true then (((.p (.bool true)), [])) else (((.p (.bool false)), [])))))) := by
  by_cases k1 : (decide (x < 0)) = true
  · refine iteRP k1 ?_
    exact iscC_y (x := x) (y := y) k1
  · refine iteRN k1 ?_
    replace k1 := Bool.eq_false_iff.2 k1
    by_cases k2 : (decide (x > 1099511627776)) = true
    · refine iteRP k2 ?_
      exact iscC_ny (x := x) (y := y) k1 k2
    · refine iteRN k2 ?_
      replace k2 := Bool.eq_false_iff.2 k2
      by_cases k3 : (decide (y < 0)) = true
      · refine iteRP k3 ?_
        exact iscC_nny (x := x) (y := y) k1 k2 k3
      · refine iteRN k3 ?_
        replace k3 := Bool.eq_false_iff.2 k3
        by_cases k4 : (decide (y > 1099511627776)) = true
        · refine iteRP k4 ?_
          exact iscC_nnny (x := x) (y := y) k1 k2 k3 k4
        · refine iteRN k4 ?_
          replace k4 := Bool.eq_false_iff.2 k4
          exact iscC_nnnn (x := x) (y := y) k1 k2 k3 k4

theorem isc_y {x y : Int} (c1 : (decide (x < 0)) = true) :
    Runs lp 16 [(.tight [[(.int .i64 x)], [(.int .i64 y)]])] [] ((.p (.bool false)), []) :=
  runO_sound (N := 100) (os := [(2, .call (.p (.bool true)) [])])
    (ps := [(Runs lp 28 [(.tight [[(.int .i64 x)], [(.int .i64 y)]]), (.fn (.func 29) [] [])] [] ((.p (.bool true)), []))])
    (by kernel_rfl) ⟨(iscC_y (x := x) (y := y) c1), trivial⟩

theorem isc_ny {x y : Int} (c1 : (decide (x < 0)) = false) (c2 : (decide (x > 1099511627776)) = true) :
    Runs lp 16 [(.tight [[(.int .i64 x)], [(.int .i64 y)]])] [] ((.p (.bool false)), []) :=
  runO_sound (N := 100) (os := [(2, .call (.p (.bool true)) [])])
    (ps := [(Runs lp 28 [(.tight [[(.int .i64 x)], [(.int .i64 y)]]), (.fn (.func 29) [] [])] [] ((.p (.bool true)), []))])
    (by kernel_rfl) ⟨(iscC_ny (x := x) (y := y) c1 c2), trivial⟩

theorem isc_nny {x y : Int} (c1 : (decide (x < 0)) = false) (c2 : (decide (x > 1099511627776)) = false) (c3 : (decide (y < 0)) = true) :
    Runs lp 16 [(.tight [[(.int .i64 x)], [(.int .i64 y)]])] [] ((.p (.bool false)), []) :=
  runO_sound (N := 100) (os := [(2, .call (.p (.bool true)) [])])
    (ps := [(Runs lp 28 [(.tight [[(.int .i64 x)], [(.int .i64 y)]]), (.fn (.func 29) [] [])] [] ((.p (.bool true)), []))])
    (by kernel_rfl) ⟨(iscC_nny (x := x) (y := y) c1 c2 c3), trivial⟩

theorem isc_nnny {x y : Int} (c1 : (decide (x < 0)) = false) (c2 : (decide (x > 1099511627776)) = false) (c3 : (decide (y < 0)) = false) (c4 : (decide (y > 1099511627776)) = true) :
    Runs lp 16 [(.tight [[(.int .i64 x)], [(.int .i64 y)]])] [] ((.p (.bool false)), []) :=
  runO_sound (N := 100) (os := [(2, .call (.p (.bool true)) [])])
    (ps := [(Runs lp 28 [(.tight [[(.int .i64 x)], [(.int .i64 y)]]), (.fn (.func 29) [] [])] [] ((.p (.bool true)), []))])
    (by kernel_rfl) ⟨(iscC_nnny (x := x) (y := y) c1 c2 c3 c4), trivial⟩

theorem isc_nnnn {x y : Int} (c1 : (decide (x < 0)) = false) (c2 : (decide (x > 1099511627776)) = false) (c3 : (decide (y < 0)) = false) (c4 : (decide (y > 1099511627776)) = false) :
    Runs lp 16 [(.tight [[(.int .i64 x)], [(.int .i64 y)]])] [] ((.p (.bool true)), []) :=
  runO_sound (N := 100) (os := [(2, .call (.p (.bool false)) [])])
    (ps := [(Runs lp 28 [(.tight [[(.int .i64 x)], [(.int .i64 y)]]), (.fn (.func 29) [] [])] [] ((.p (.bool false)), []))])
    (by kernel_rfl) ⟨(iscC_nnnn (x := x) (y := y) c1 c2 c3 c4), trivial⟩

theorem isc {x y : Int}  :
    Runs lp 16 [(.tight [[(.int .i64 x)], [(.int .i64 y)]])] [] (if (decide (x < 0)) = true then (((.p (.bool false)), [])) else (if (decide (x > 1099511627776)) = true then (((.p (.bool false)), [])) else (if (decide (y < 0)) = true then (((.p (.bool false)), [])) else (if (decide (y > 1099511627776)) = true then (((.p (.bool false)), [])) else (((.p (.bool true)), [])))))) := by
  by_cases k1 : (decide (x < 0)) = true
  · refine iteRP k1 ?_
    exact isc_y (x := x) (y := y) k1
  · refine iteRN k1 ?_
    replace k1 := Bool.eq_false_iff.2 k1
    by_cases k2 : (decide (x > 1099511627776)) = true
    · refine iteRP k2 ?_
      exact isc_ny (x := x) (y := y) k1 k2
    · refine iteRN k2 ?_
      replace k2 := Bool.eq_false_iff.2 k2
      by_cases k3 : (decide (y < 0)) = true
      · refine iteRP k3 ?_
        exact isc_nny (x := x) (y := y) k1 k2 k3
      · refine iteRN k3 ?_
        replace k3 := Bool.eq_false_iff.2 k3
        by_cases k4 : (decide (y > 1099511627776)) = true
        · refine iteRP k4 ?_
          exact isc_nnny (x := x) (y := y) k1 k2 k3 k4
        · refine iteRN k4 ?_
          replace k4 := Bool.eq_false_iff.2 k4
          exact isc_nnnn (x := x) (y := y) k1 k2 k3 k4

theorem vmay_yy {kd ix tm : Int} (c1 : (kd != 1) = true) (c2 : (kd != 2) = true) :
    Runs lp 8 [(.agg [(.p (.int .i64 kd)), (.p (.int .i64 ix)), (.p (.int .i64 tm))])] [] ((.p (.bool false)), []) :=
  runO_sound (N := 100) (os := [(6, .b true), (1, .b true), (1, .b true), (1, .b true), (1, .b true), (0, .b true)])
    (ps := [(LV.p (PV.bool (kd != 1)) = .p (.bool true)), (LV.p (PV.bool (kd != 1)) = .p (.bool true)), (LV.p (PV.bool (kd != 1)) = .p (.bool true)), (LV.p (PV.bool (kd != 1)) = .p (.bool true)), (LV.p (PV.bool (kd != 2)) = .p (.bool true)), (LV.p (PV.bool (kd != 2)) = .p (.bool true))])
    (by kernel_rfl) ⟨(congrArg (fun b => LV.p (PV.bool b)) c1), (congrArg (fun b => LV.p (PV.bool b)) c1), (congrArg (fun b => LV.p (PV.bool b)) c1), (congrArg (fun b => LV.p (PV.bool b)) c1), (congrArg (fun b => LV.p (PV.bool b)) c2), (congrArg (fun b => LV.p (PV.bool b)) c2), trivial⟩

theorem vmay_yny {kd ix tm : Int} (c1 : (kd != 1) = true) (c2 : (kd != 2) = false) (c3 : (decide (ix < 0)) = true) :
    Runs lp 8 [(.agg [(.p (.int .i64 kd)), (.p (.int .i64 ix)), (.p (.int .i64 tm))])] [] ((.p (.bool false)), []) :=
  runO_sound (N := 100) (os := [(6, .b true), (1, .b true), (1, .b true), (1, .b true), (1, .b false), (5, .call (.p (.bool false)) [])])
    (ps := [(LV.p (PV.bool (kd != 1)) = .p (.bool true)), (LV.p (PV.bool (kd != 1)) = .p (.bool true)), (LV.p (PV.bool (kd != 1)) = .p (.bool true)), (LV.p (PV.bool (kd != 1)) = .p (.bool true)), (LV.p (PV.bool (kd != 2)) = .p (.bool false)), (Runs lp 16 [(.tight [[(.int .i64 ix)], [(.int .i64 tm)]])] [] ((.p (.bool false)), []))])
    (by kernel_rfl) ⟨(congrArg (fun b => LV.p (PV.bool b)) c1), (congrArg (fun b => LV.p (PV.bool b)) c1), (congrArg (fun b => LV.p (PV.bool b)) c1), (congrArg (fun b => LV.p (PV.bool b)) c1), (congrArg (fun b => LV.p (PV.bool b)) c2), (isc_y (x := ix) (y := tm) c3), trivial⟩

theorem vmay_ynny {kd ix tm : Int} (c1 : (kd != 1) = true) (c2 : (kd != 2) = false) (c3 : (decide (ix < 0)) = false) (c4 : (decide (ix > 1099511627776)) = true) :
    Runs lp 8 [(.agg [(.p (.int .i64 kd)), (.p (.int .i64 ix)), (.p (.int .i64 tm))])] [] ((.p (.bool false)), []) :=
  runO_sound (N := 100) (os := [(6, .b true), (1, .b true), (1, .b true), (1, .b true), (1, .b false), (5, .call (.p (.bool false)) [])])
    (ps := [(LV.p (PV.bool (kd != 1)) = .p (.bool true)), (LV.p (PV.bool (kd != 1)) = .p (.bool true)), (LV.p (PV.bool (kd != 1)) = .p (.bool true)), (LV.p (PV.bool (kd != 1)) = .p (.bool true)), (LV.p (PV.bool (kd != 2)) = .p (.bool false)), (Runs lp 16 [(.tight [[(.int .i64 ix)], [(.int .i64 tm)]])] [] ((.p (.bool false)), []))])
    (by kernel_rfl) ⟨(congrArg (fun b => LV.p (PV.bool b)) c1), (congrArg (fun b => LV.p (PV.bool b)) c1), (congrArg (fun b => LV.p (PV.bool b)) c1), (congrArg (fun b => LV.p (PV.bool b)) c1), (congrArg (fun b => LV.p (PV.bool b)) c2), (isc_ny (x := ix) (y := tm) c3 c4), trivial⟩

theorem vmay_ynnny {kd ix tm : Int} (c1 : (kd != 1) = true) (c2 : (kd != 2) = false) (c3 : (decide (ix < 0)) = false) (c4 : (decide (ix > 1099511627776)) = false) (c5 : (decide (tm < 0)) = true) :
    Runs lp 8 [(.agg [(.p (.int .i64 kd)), (.p (.int .i64 ix)), (.p (.int .i64 tm))])] [] ((.p (.bool false)), []) :=
  runO_sound (N := 100) (os := [(6, .b true), (1, .b true), (1, .b true), (1, .b true), (1, .b false), (5, .call (.p (.bool false)) [])])
    (ps := [(LV.p (PV.bool (kd != 1)) = .p (.bool true)), (LV.p (PV.bool (kd != 1)) = .p (.bool true)), (LV.p (PV.bool (kd != 1)) = .p (.bool true)), (LV.p (PV.bool (kd != 1)) = .p (.bool true)), (LV.p (PV.bool (kd != 2)) = .p (.bool false)), (Runs lp 16 [(.tight [[(.int .i64 ix)], [(.int .i64 tm)]])] [] ((.p (.bool false)), []))])
    (by kernel_rfl) ⟨(congrArg (fun b => LV.p (PV.bool b)) c1), (congrArg (fun b => LV.p (PV.bool b)) c1), (congrArg (fun b => LV.p (PV.bool b)) c1), (congrArg (fun b => LV.p (PV.bool b)) c1), (congrArg (fun b => LV.p (PV.bool b)) c2), (isc_nny (x := ix) (y := tm) c3 c4 c5), trivial⟩

theorem vmay_ynnnny {kd ix tm : Int} (c1 : (kd != 1) = true) (c2 : (kd != 2) = false) (c3 : (decide (ix < 0)) = false) (c4 : (decide (ix > 1099511627776)) = false) (c5 : (decide (tm < 0)) = false) (c6 : (decide (tm > 1099511627776)) = true) :
    Runs lp 8 [(.agg [(.p (.int .i64 kd)), (.p (.int .i64 ix)), (.p (.int .i64 tm))])] [] ((.p (.bool false)), []) :=
  runO_sound (N := 100) (os := [(6, .b true), (1, .b true), (1, .b true), (1, .b true), (1, .b false), (5, .call (.p (.bool false)) [])])
    (ps := [(LV.p (PV.bool (kd != 1)) = .p (.bool true)), (LV.p (PV.bool (kd != 1)) = .p (.bool true)), (LV.p (PV.bool (kd != 1)) = .p (.bool true)), (LV.p (PV.bool (kd != 1)) = .p (.bool true)), (LV.p (PV.bool (kd != 2)) = .p (.bool false)), (Runs lp 16 [(.tight [[(.int .i64 ix)], [(.int .i64 tm)]])] [] ((.p (.bool false)), []))])
    (by kernel_rfl) ⟨(congrArg (fun b => LV.p (PV.bool b)) c1), (congrArg (fun b => LV.p (PV.bool b)) c1), (congrArg (fun b => LV.p (PV.bool b)) c1), (congrArg (fun b => LV.p (PV.bool b)) c1), (congrArg (fun b => LV.p (PV.bool b)) c2), (isc_nnny (x := ix) (y := tm) c3 c4 c5 c6), trivial⟩

theorem vmay_ynnnnny {kd ix tm : Int} (c1 : (kd != 1) = true) (c2 : (kd != 2) = false) (c3 : (decide (ix < 0)) = false) (c4 : (decide (ix > 1099511627776)) = false) (c5 : (decide (tm < 0)) = false) (c6 : (decide (tm > 1099511627776)) = false) (c7 : (ix == 0) = true) :
    Runs lp 8 [(.agg [(.p (.int .i64 kd)), (.p (.int .i64 ix)), (.p (.int .i64 tm))])] [] ((.p (.bool (((kd == 1) && ((ix == 0) && ((tm == 0) && true))) != false))), []) :=
  runO_sound (N := 100) (os := [(6, .b true), (1, .b true), (1, .b true), (1, .b true), (1, .b false), (5, .call (.p (.bool true)) []), (7, .b true), (0, .b true), (0, .b true), (0, .b true)])
    (ps := [(LV.p (PV.bool (kd != 1)) = .p (.bool true)), (LV.p (PV.bool (kd != 1)) = .p (.bool true)), (LV.p (PV.bool (kd != 1)) = .p (.bool true)), (LV.p (PV.bool (kd != 1)) = .p (.bool true)), (LV.p (PV.bool (kd != 2)) = .p (.bool false)), (Runs lp 16 [(.tight [[(.int .i64 ix)], [(.int .i64 tm)]])] [] ((.p (.bool true)), [])), (LV.p (PV.bool (ix == 0)) = .p (.bool true)), (LV.p (PV.bool (ix == 0)) = .p (.bool true)), (LV.p (PV.bool (ix == 0)) = .p (.bool true)), (LV.p (PV.bool (ix == 0)) = .p (.bool true))])
    (by kernel_rfl) ⟨(congrArg (fun b => LV.p (PV.bool b)) c1), (congrArg (fun b => LV.p (PV.bool b)) c1), (congrArg (fun b => LV.p (PV.bool b)) c1), (congrArg (fun b => LV.p (PV.bool b)) c1), (congrArg (fun b => LV.p (PV.bool b)) c2), (isc_nnnn (x := ix) (y := tm) c3 c4 c5 c6), (congrArg (fun b => LV.p (PV.bool b)) c7), (congrArg (fun b => LV.p (PV.bool b)) c7), (congrArg (fun b => LV.p (PV.bool b)) c7), (congrArg (fun b => LV.p (PV.bool b)) c7), trivial⟩

theorem vmay_ynnnnnny {kd ix tm : Int} (c1 : (kd != 1) = true) (c2 : (kd != 2) = false) (c3 : (decide (ix < 0)) = false) (c4 : (decide (ix > 1099511627776)) = false) (c5 : (decide (tm < 0)) = false) (c6 : (decide (tm > 1099511627776)) = false) (c7 : (ix == 0) = false) (c8 : (tm == 0) = true) :
    Runs lp 8 [(.agg [(.p (.int .i64 kd)), (.p (.int .i64 ix)), (.p (.int .i64 tm))])] [] ((.p (.bool (((kd == 1) && ((ix == 0) && ((tm == 0) && true))) != false))), []) :=
  runO_sound (N := 100) (os := [(6, .b true), (1, .b true), (1, .b true), (1, .b true), (1, .b false), (5, .call (.p (.bool true)) []), (7, .b false), (1, .b false), (1, .b false), (1, .b false), (1, .b true)])
    (ps := [(LV.p (PV.bool (kd != 1)) = .p (.bool true)), (LV.p (PV.bool (kd != 1)) = .p (.bool true)), (LV.p (PV.bool (kd != 1)) = .p (.bool true)), (LV.p (PV.bool (kd != 1)) = .p (.bool true)), (LV.p (PV.bool (kd != 2)) = .p (.bool false)), (Runs lp 16 [(.tight [[(.int .i64 ix)], [(.int .i64 tm)]])] [] ((.p (.bool true)), [])), (LV.p (PV.bool (ix == 0)) = .p (.bool false)), (LV.p (PV.bool (ix == 0)) = .p (.bool false)), (LV.p (PV.bool (ix == 0)) = .p (.bool false)), (LV.p (PV.bool (ix == 0)) = .p (.bool false)), (LV.p (PV.bool (tm == 0)) = .p (.bool true))])
    (by kernel_rfl) ⟨(congrArg (fun b => LV.p (PV.bool b)) c1), (congrArg (fun b => LV.p (PV.bool b)) c1), (congrArg (fun b => LV.p (PV.bool b)) c1), (congrArg (fun b => LV.p (PV.bool b)) c1), (congrArg (fun b => LV.p (PV.bool b)) c2), (isc_nnnn (x := ix) (y := tm) c3 c4 c5 c6), (congrArg (fun b => LV.p (PV.bool b)) c7), (congrArg (fun b => LV.p (PV.bool b)) c7), (congrArg (fun b => LV.p (PV.bool b)) c7), (congrArg (fun b => LV.p (PV.bool b)) c7), (congrArg (fun b => LV.p (PV.bool b)) c8), trivial⟩

theorem vmay_ynnnnnnn {kd ix tm : Int} (c1 : (kd != 1) = true) (c2 : (kd != 2) = false) (c3 : (decide (ix < 0)) = false) (c4 : (decide (ix > 1099511627776)) = false) (c5 : (decide (tm < 0)) = false) (c6 : (decide (tm > 1099511627776)) = false) (c7 : (ix == 0) = false) (c8 : (tm == 0) = false) :
    Runs lp 8 [(.agg [(.p (.int .i64 kd)), (.p (.int .i64 ix)), (.p (.int .i64 tm))])] [] ((.p (.bool true)), []) :=
  runO_sound (N := 100) (os := [(6, .b true), (1, .b true), (1, .b true), (1, .b true), (1, .b false), (5, .call (.p (.bool true)) []), (7, .b false), (1, .b false), (1, .b false), (1, .b false), (1, .b false)])
    (ps := [(LV.p (PV.bool (kd != 1)) = .p (.bool true)), (LV.p (PV.bool (kd != 1)) = .p (.bool true)), (LV.p (PV.bool (kd != 1)) = .p (.bool true)), (LV.p (PV.bool (kd != 1)) = .p (.bool true)), (LV.p (PV.bool (kd != 2)) = .p (.bool false)), (Runs lp 16 [(.tight [[(.int .i64 ix)], [(.int .i64 tm)]])] [] ((.p (.bool true)), [])), (LV.p (PV.bool (ix == 0)) = .p (.bool false)), (LV.p (PV.bool (ix == 0)) = .p (.bool false)), (LV.p (PV.bool (ix == 0)) = .p (.bool false)), (LV.p (PV.bool (ix == 0)) = .p (.bool false)), (LV.p (PV.bool (tm == 0)) = .p (.bool false))])
    (by kernel_rfl) ⟨(congrArg (fun b => LV.p (PV.bool b)) c1), (congrArg (fun b => LV.p (PV.bool b)) c1), (congrArg (fun b => LV.p (PV.bool b)) c1), (congrArg (fun b => LV.p (PV.bool b)) c1), (congrArg (fun b => LV.p (PV.bool b)) c2), (isc_nnnn (x := ix) (y := tm) c3 c4 c5 c6), (congrArg (fun b => LV.p (PV.bool b)) c7), (congrArg (fun b => LV.p (PV.bool b)) c7), (congrArg (fun b => LV.p (PV.bool b)) c7), (congrArg (fun b => LV.p (PV.bool b)) c7), (congrArg (fun b => LV.p (PV.bool b)) c8), trivial⟩

theorem vmay_ny {kd ix tm : Int} (c1 : (kd != 1) = false) (c2 : (decide (ix < 0)) = true) :
    Runs lp 8 [(.agg [(.p (.int .i64 kd)), (.p (.int .i64 ix)), (.p (.int .i64 tm))])] [] ((.p (.bool false)), []) :=
  runO_sound (N := 100) (os := [(6, .b false), (0, .b false), (0, .b false), (0, .b false), (7, .call (.p (.bool false)) [])])
    (ps := [(LV.p (PV.bool (kd != 1)) = .p (.bool false)), (LV.p (PV.bool (kd != 1)) = .p (.bool false)), (LV.p (PV.bool (kd != 1)) = .p (.bool false)), (LV.p (PV.bool (kd != 1)) = .p (.bool false)), (Runs lp 16 [(.tight [[(.int .i64 ix)], [(.int .i64 tm)]])] [] ((.p (.bool false)), []))])
    (by kernel_rfl) ⟨(congrArg (fun b => LV.p (PV.bool b)) c1), (congrArg (fun b => LV.p (PV.bool b)) c1), (congrArg (fun b => LV.p (PV.bool b)) c1), (congrArg (fun b => LV.p (PV.bool b)) c1), (isc_y (x := ix) (y := tm) c2), trivial⟩

theorem vmay_nny {kd ix tm : Int} (c1 : (kd != 1) = false) (c2 : (decide (ix < 0)) = false) (c3 : (decide (ix > 1099511627776)) = true) :
    Runs lp 8 [(.agg [(.p (.int .i64 kd)), (.p (.int .i64 ix)), (.p (.int .i64 tm))])] [] ((.p (.bool false)), []) :=
  runO_sound (N := 100) (os := [(6, .b false), (0, .b false), (0, .b false), (0, .b false), (7, .call (.p (.bool false)) [])])
    (ps := [(LV.p (PV.bool (kd != 1)) = .p (.bool false)), (LV.p (PV.bool (kd != 1)) = .p (.bool false)), (LV.p (PV.bool (kd != 1)) = .p (.bool false)), (LV.p (PV.bool (kd != 1)) = .p (.bool false)), (Runs lp 16 [(.tight [[(.int .i64 ix)], [(.int .i64 tm)]])] [] ((.p (.bool false)), []))])
    (by kernel_rfl) ⟨(congrArg (fun b => LV.p (PV.bool b)) c1), (congrArg (fun b => LV.p (PV.bool b)) c1), (congrArg (fun b => LV.p (PV.bool b)) c1), (congrArg (fun b => LV.p (PV.bool b)) c1), (isc_ny (x := ix) (y := tm) c2 c3), trivial⟩

theorem vmay_nnny {kd ix tm : Int} (c1 : (kd != 1) = false) (c2 : (decide (ix < 0)) = false) (c3 : (decide (ix > 1099511627776)) = false) (c4 : (decide (tm < 0)) = true) :
    Runs lp 8 [(.agg [(.p (.int .i64 kd)), (.p (.int .i64 ix)), (.p (.int .i64 tm))])] [] ((.p (.bool false)), []) :=
  runO_sound (N := 100) (os := [(6, .b false), (0, .b false), (0, .b false), (0, .b false), (7, .call (.p (.bool false)) [])])
    (ps := [(LV.p (PV.bool (kd != 1)) = .p (.bool false)), (LV.p (PV.bool (kd != 1)) = .p (.bool false)), (LV.p (PV.bool (kd != 1)) = .p (.bool false)), (LV.p (PV.bool (kd != 1)) = .p (.bool false)), (Runs lp 16 [(.tight [[(.int .i64 ix)], [(.int .i64 tm)]])] [] ((.p (.bool false)), []))])
    (by kernel_rfl) ⟨(congrArg (fun b => LV.p (PV.bool b)) c1), (congrArg (fun b => LV.p (PV.bool b)) c1), (congrArg (fun b => LV.p (PV.bool b)) c1), (congrArg (fun b => LV.p (PV.bool b)) c1), (isc_nny (x := ix) (y := tm) c2 c3 c4), trivial⟩

theorem vmay_nnnny {kd ix tm : Int} (c1 : (kd != 1) = false) (c2 : (decide (ix < 0)) = false) (c3 : (decide (ix > 1099511627776)) = false) (c4 : (decide (tm < 0)) = false) (c5 : (decide (tm > 1099511627776)) = true) :
    Runs lp 8 [(.agg [(.p (.int .i64 kd)), (.p (.int .i64 ix)), (.p (.int .i64 tm))])] [] ((.p (.bool false)), []) :=
  runO_sound (N := 100) (os := [(6, .b false), (0, .b false), (0, .b false), (0, .b false), (7, .call (.p (.bool false)) [])])
    (ps := [(LV.p (PV.bool (kd != 1)) = .p (.bool false)), (LV.p (PV.bool (kd != 1)) = .p (.bool false)), (LV.p (PV.bool (kd != 1)) = .p (.bool false)), (LV.p (PV.bool (kd != 1)) = .p (.bool false)), (Runs lp 16 [(.tight [[(.int .i64 ix)], [(.int .i64 tm)]])] [] ((.p (.bool false)), []))])
    (by kernel_rfl) ⟨(congrArg (fun b => LV.p (PV.bool b)) c1), (congrArg (fun b => LV.p (PV.bool b)) c1), (congrArg (fun b => LV.p (PV.bool b)) c1), (congrArg (fun b => LV.p (PV.bool b)) c1), (isc_nnny (x := ix) (y := tm) c2 c3 c4 c5), trivial⟩

theorem vmay_nnnnny {kd ix tm : Int} (c1 : (kd != 1) = false) (c2 : (decide (ix < 0)) = false) (c3 : (decide (ix > 1099511627776)) = false) (c4 : (decide (tm < 0)) = false) (c5 : (decide (tm > 1099511627776)) = false) (c6 : (ix == 0) = true) :
    Runs lp 8 [(.agg [(.p (.int .i64 kd)), (.p (.int .i64 ix)), (.p (.int .i64 tm))])] [] ((.p (.bool (((kd == 1) && ((ix == 0) && ((tm == 0) && true))) != false))), []) :=
  runO_sound (N := 100) (os := [(6, .b false), (0, .b false), (0, .b false), (0, .b false), (7, .call (.p (.bool true)) []), (7, .b true), (0, .b true), (0, .b true), (0, .b true)])
    (ps := [(LV.p (PV.bool (kd != 1)) = .p (.bool false)), (LV.p (PV.bool (kd != 1)) = .p (.bool false)), (LV.p (PV.bool (kd != 1)) = .p (.bool false)), (LV.p (PV.bool (kd != 1)) = .p (.bool false)), (Runs lp 16 [(.tight [[(.int .i64 ix)], [(.int .i64 tm)]])] [] ((.p (.bool true)), [])), (LV.p (PV.bool (ix == 0)) = .p (.bool true)), (LV.p (PV.bool (ix == 0)) = .p (.bool true)), (LV.p (PV.bool (ix == 0)) = .p (.bool true)), (LV.p (PV.bool (ix == 0)) = .p (.bool true))])
    (by kernel_rfl) ⟨(congrArg (fun b => LV.p (PV.bool b)) c1), (congrArg (fun b => LV.p (PV.bool b)) c1), (congrArg (fun b => LV.p (PV.bool b)) c1), (congrArg (fun b => LV.p (PV.bool b)) c1), (isc_nnnn (x := ix) (y := tm) c2 c3 c4 c5), (congrArg (fun b => LV.p (PV.bool b)) c6), (congrArg (fun b => LV.p (PV.bool b)) c6), (congrArg (fun b => LV.p (PV.bool b)) c6), (congrArg (fun b => LV.p (PV.bool b)) c6), trivial⟩

theorem vmay_nnnnnny {kd ix tm : Int} (c1 : (kd != 1) = false) (c2 : (decide (ix < 0)) = false) (c3 : (decide (ix > 1099511627776)) = false) (c4 : (decide (tm < 0)) = false) (c5 : (decide (tm > 1099511627776)) = false) (c6 : (ix == 0) = false) (c7 : (tm == 0) = true) :
    Runs lp 8 [(.agg [(.p (.int .i64 kd)), (.p (.int .i64 ix)), (.p (.int .i64 tm))])] [] ((.p (.bool (((kd == 1) && ((ix == 0) && ((tm == 0) && true))) != false))), []) :=
  runO_sound (N := 100) (os := [(6, .b false), (0, .b false), (0, .b false), (0, .b false), (7, .call (.p (.bool true)) []), (7, .b false), (1, .b false), (1, .b false), (1, .b false), (1, .b true)])
    (ps := [(LV.p (PV.bool (kd != 1)) = .p (.bool false)), (LV.p (PV.bool (kd != 1)) = .p (.bool false)), (LV.p (PV.bool (kd != 1)) = .p (.bool false)), (LV.p (PV.bool (kd != 1)) = .p (.bool false)), (Runs lp 16 [(.tight [[(.int .i64 ix)], [(.int .i64 tm)]])] [] ((.p (.bool true)), [])), (LV.p (PV.bool (ix == 0)) = .p (.bool false)), (LV.p (PV.bool (ix == 0)) = .p (.bool false)), (LV.p (PV.bool (ix == 0)) = .p (.bool false)), (LV.p (PV.bool (ix == 0)) = .p (.bool false)), (LV.p (PV.bool (tm == 0)) = .p (.bool true))])
    (by kernel_rfl) ⟨(congrArg (fun b => LV.p (PV.bool b)) c1), (congrArg (fun b => LV.p (PV.bool b)) c1), (congrArg (fun b => LV.p (PV.bool b)) c1), (congrArg (fun b => LV.p (PV.bool b)) c1), (isc_nnnn (x := ix) (y := tm) c2 c3 c4 c5), (congrArg (fun b => LV.p (PV.bool b)) c6), (congrArg (fun b => LV.p (PV.bool b)) c6), (congrArg (fun b => LV.p (PV.bool b)) c6), (congrArg (fun b => LV.p (PV.bool b)) c6), (congrArg (fun b => LV.p (PV.bool b)) c7), trivial⟩

theorem vmay_nnnnnnn {kd ix tm : Int} (c1 : (kd != 1) = false) (c2 : (decide (ix < 0)) = false) (c3 : (decide (ix > 1099511627776)) = false) (c4 : (decide (tm < 0)) = false) (c5 : (decide (tm > 1099511627776)) = false) (c6 : (ix == 0) = false) (c7 : (tm == 0) = false) :
    Runs lp 8 [(.agg [(.p (.int .i64 kd)), (.p (.int .i64 ix)), (.p (.int .i64 tm))])] [] ((.p (.bool true)), []) :=
  runO_sound (N := 100) (os := [(6, .b false), (0, .b false), (0, .b false), (0, .b false), (7, .call (.p (.bool true)) []), (7, .b false), (1, .b false), (1, .b false), (1, .b false), (1, .b false)])
    (ps := [(LV.p (PV.bool (kd != 1)) = .p (.bool false)), (LV.p (PV.bool (kd != 1)) = .p (.bool false)), (LV.p (PV.bool (kd != 1)) = .p (.bool false)), (LV.p (PV.bool (kd != 1)) = .p (.bool false)), (Runs lp 16 [(.tight [[(.int .i64 ix)], [(.int .i64 tm)]])] [] ((.p (.bool true)), [])), (LV.p (PV.bool (ix == 0)) = .p (.bool false)), (LV.p (PV.bool (ix == 0)) = .p (.bool false)), (LV.p (PV.bool (ix == 0)) = .p (.bool false)), (LV.p (PV.bool (ix == 0)) = .p (.bool false)), (LV.p (PV.bool (tm == 0)) = .p (.bool false))])
    (by kernel_rfl) ⟨(congrArg (fun b => LV.p (PV.bool b)) c1), (congrArg (fun b => LV.p (PV.bool b)) c1), (congrArg (fun b => LV.p (PV.bool b)) c1), (congrArg (fun b => LV.p (PV.bool b)) c1), (isc_nnnn (x := ix) (y := tm) c2 c3 c4 c5), (congrArg (fun b => LV.p (PV.bool b)) c6), (congrArg (fun b => LV.p (PV.bool b)) c6), (congrArg (fun b => LV.p (PV.bool b)) c6), (congrArg (fun b => LV.p (PV.bool b)) c6), (congrArg (fun b => LV.p (PV.bool b)) c7), trivial⟩

theorem vmay {kd ix tm : Int}  :
    Runs lp 8 [(.agg [(.p (.int .i64 kd)), (.p (.int .i64 ix)), (.p (.int .i64 tm))])] [] (if (kd != 1) = true then (if (kd != 2) = true then (((.p (.bool false)), [])) else (if (decide (ix < 0)) = true then (((.p (.bool false)), [])) else (if (decide (ix > 1099511627776)) = true then (((.p (.bool false)), [])) else (if (decide (tm < 0)) = true then (((.p (.bool false)), [])) else (if (decide (tm > 1099511627776)) = true then (((.p (.bool false)), [])) else (if (ix == 0) = true then (((.p (.bool (((kd == 1) && ((ix == 0) && ((tm == 0) && true))) != false))), [])) else (if (tm == 0) = true then (((.p (.bool (((kd == 1) && ((ix == 0) && ((tm == 0) && true))) != false))), [])) else (((.p (.bool true)), []))))))))) else (if (decide (ix < 0)) = true then (((.p (.bool false)), [])) else (if (decide (ix > 1099511627776)) = true then (((.p (.bool false)), [])) else (if (decide (tm < 0)) = true then (((.p (.bool false)), [])) else (if (decide (tm > 1099511627776)) = true then (((.p (.bool false)), [])) else (if (ix == 0) = true then (((.p (.bool (((kd == 1) && ((ix == 0) && ((tm == 0) && true))) != false))), [])) else (if (tm == 0) = true then (((.p (.bool (((kd == 1) && ((ix == 0) && ((tm == 0) && true))) != false))), [])) else (((.p (.bool true)), []))))))))) := by
  by_cases k1 : (kd != 1) = true
  · refine iteRP k1 ?_
    by_cases k2 : (kd != 2) = true
    · refine iteRP k2 ?_
      exact vmay_yy (kd := kd) (ix := ix) (tm := tm) k1 k2
    · refine iteRN k2 ?_
      replace k2 := Bool.eq_false_iff.2 k2
      by_cases k3 : (decide (ix < 0)) = true
      · refine iteRP k3 ?_
        exact vmay_yny (kd := kd) (ix := ix) (tm := tm) k1 k2 k3
      · refine iteRN k3 ?_
        replace k3 := Bool.eq_false_iff.2 k3
        by_cases k4 : (decide (ix > 1099511627776)) = true
        · refine iteRP k4 ?_
          exact vmay_ynny (kd := kd) (ix := ix) (tm := tm) k1 k2 k3 k4
        · refine iteRN k4 ?_
          replace k4 := Bool.eq_false_iff.2 k4
          by_cases k5 : (decide (tm < 0)) = true
          · refine iteRP k5 ?_
            exact vmay_ynnny (kd := kd) (ix := ix) (tm := tm) k1 k2 k3 k4 k5
          · refine iteRN k5 ?_
            replace k5 := Bool.eq_false_iff.2 k5
            by_cases k6 : (decide (tm > 1099511627776)) = true
            · refine iteRP k6 ?_
              exact vmay_ynnnny (kd := kd) (ix := ix) (tm := tm) k1 k2 k3 k4 k5 k6
            · refine iteRN k6 ?_
              replace k6 := Bool.eq_false_iff.2 k6
              by_cases k7 : (ix == 0) = true
              · refine iteRP k7 ?_
                exact vmay_ynnnnny (kd := kd) (ix := ix) (tm := tm) k1 k2 k3 k4 k5 k6 k7
              · refine iteRN k7 ?_
                replace k7 := Bool.eq_false_iff.2 k7
                by_cases k8 : (tm == 0) = true
                · refine iteRP k8 ?_
                  exact vmay_ynnnnnny (kd := kd) (ix := ix) (tm := tm) k1 k2 k3 k4 k5 k6 k7 k8
                · refine iteRN k8 ?_
                  replace k8 := Bool.eq_false_iff.2 k8
                  exact vmay_ynnnnnnn (kd := kd) (ix := ix) (tm := tm) k1 k2 k3 k4 k5 k6 k7 k8
  · refine iteRN k1 ?_
    replace k1 := Bool.eq_false_iff.2 k1
    by_cases k2 : (decide (ix < 0)) = true
    · refine iteRP k2 ?_
      exact vmay_ny (kd := kd) (ix := ix) (tm := tm) k1 k2
    · refine iteRN k2 ?_
      replace k2 := Bool.eq_false_iff.2 k2
      by_cases k3 : (decide (ix > 1099511627776)) = true
      · refine iteRP k3 ?_
        exact vmay_nny (kd := kd) (ix := ix) (tm := tm) k1 k2 k3
      · refine iteRN k3 ?_
        replace k3 := Bool.eq_false_iff.2 k3
        by_cases k4 : (decide (tm < 0)) = true
        · refine iteRP k4 ?_
          exact vmay_nnny (kd := kd) (ix := ix) (tm := tm) k1 k2 k3 k4
        · refine iteRN k4 ?_
          replace k4 := Bool.eq_false_iff.2 k4
          by_cases k5 : (decide (tm > 1099511627776)) = true
          · refine iteRP k5 ?_
            exact vmay_nnnny (kd := kd) (ix := ix) (tm := tm) k1 k2 k3 k4 k5
          · refine iteRN k5 ?_
            replace k5 := Bool.eq_false_iff.2 k5
            by_cases k6 : (ix == 0) = true
            · refine iteRP k6 ?_
              exact vmay_nnnnny (kd := kd) (ix := ix) (tm := tm) k1 k2 k3 k4 k5 k6
            · refine iteRN k6 ?_
              replace k6 := Bool.eq_false_iff.2 k6
              by_cases k7 : (tm == 0) = true
              · refine iteRP k7 ?_
                exact vmay_nnnnnny (kd := kd) (ix := ix) (tm := tm) k1 k2 k3 k4 k5 k6 k7
              · refine iteRN k7 ?_
                replace k7 := Bool.eq_false_iff.2 k7
                exact vmay_nnnnnnn (kd := kd) (ix := ix) (tm := tm) k1 k2 k3 k4 k5 k6 k7

end Go.Proofs.Ytmfdjhflhhaodaa
