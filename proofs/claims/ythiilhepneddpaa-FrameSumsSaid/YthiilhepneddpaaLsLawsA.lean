/- FrameSums: its ways, printed by symex.py. -/
import Derived.Test.YthiilhepneddpaaLsCrc2
import Derived.Test.YthiilhepneddpaaLsLives
set_option linter.unusedVariables false
set_option maxRecDepth 100000
namespace Go.Proofs.Ythiilhepneddpaa
open Go Go.LS

theorem sums_y {b : List UInt8} (c1 : (decide (((List.length (bs b) : Nat) : Int) > 131072)) = true) :
    Runs lp 3 [(.p (.sl (bs b)))] [] ((.p (.bool true)), []) :=
  runO_sound (N := 100) (os := [(4, .b true), (0, .call (.p (.bool true)) [])])
    (ps := [(LV.p (PV.bool (decide (((List.length (bs b) : Nat) : Int) > 131072))) = .p (.bool true)), (Runs lp 7 [] [] ((.p (.bool true)), []))])
    (by kernel_rfl) ⟨(congrArg (fun b => LV.p (PV.bool b)) c1), lives_runs, trivial⟩

theorem sums_n {b : List UInt8} (c1 : (decide (((List.length (bs b) : Nat) : Int) > 131072)) = false) (h2 : List.length (α := UInt8) b ≤ 140737488355328) :
    Runs lp 3 [(.p (.sl (bs b)))] [] ((.p (.bool ((crcS b : Int) == (crcS b : Int)))), []) :=
  runO_sound (N := 100) (os := [(4, .b false), (0, .call (.p (.bool true)) []), (4, .call (.p (.int .i64 (crcS b : Int))) []), (3, .call (.p (.int .i64 (crcS b : Int))) [])])
    (ps := [(LV.p (PV.bool (decide (((List.length (bs b) : Nat) : Int) > 131072))) = .p (.bool false)), (Runs lp 7 [] [] ((.p (.bool true)), [])), (Runs lp 8 [(.p (.sl (bs b)))] [] ((.p (.int .i64 (crcS b : Int))), [])), (Runs lp 9 [(.p (.sl (bs b)))] [] ((.p (.int .i64 (crcS b : Int))), []))])
    (by kernel_rfl) ⟨(congrArg (fun b => LV.p (PV.bool b)) c1), lives_runs, (vSum (L := b) h2), (rSum (L := b) h2), trivial⟩

theorem sums {b : List UInt8} (w1 : (decide (((List.length (bs b) : Nat) : Int) > 131072)) = false → List.length (α := UInt8) b ≤ 140737488355328) :
    Runs lp 3 [(.p (.sl (bs b)))] [] (if (decide (((List.length (bs b) : Nat) : Int) > 131072)) = true then (((.p (.bool true)), [])) else (((.p (.bool ((crcS b : Int) == (crcS b : Int)))), []))) := by
  by_cases k1 : (decide (((List.length (bs b) : Nat) : Int) > 131072)) = true
  · refine iteRP k1 ?_
    exact sums_y (b := b) k1
  · refine iteRN k1 ?_
    replace k1 := Bool.eq_false_iff.2 k1
    exact sums_n (b := b) k1 (w1 k1)

end Go.Proofs.Ythiilhepneddpaa
