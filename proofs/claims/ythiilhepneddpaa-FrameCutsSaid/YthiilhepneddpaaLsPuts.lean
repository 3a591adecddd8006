/- Frames that are put: ways, printed by symex.py. -/
import Derived.Test.YthiilhepneddpaaLsTokA
import Derived.Test.YthiilhepneddpaaLsLives
import Derived.Test.YthiilhepneddpaaLsG5
set_option linter.unusedVariables false
set_option maxRecDepth 100000
namespace Go.Proofs.Ythiilhepneddpaa
open Go Go.LS

theorem sum4 {L : List UInt8} (h1 : List.length (α := UInt8) L ≤ 140737488355328) :
    Runs lp 19 [(.p (.sl (bs L)))] [] ((.tight [[(.int .u8 (IntKind.wrap .u8 (crcS L : Int)))], [(.int .u8 (IntKind.wrap .u8 (Int.fdiv (crcS L : Int) (2 ^ 8))))], [(.int .u8 (IntKind.wrap .u8 (Int.fdiv (crcS L : Int) (2 ^ 16))))], [(.int .u8 (IntKind.wrap .u8 (Int.fdiv (crcS L : Int) (2 ^ 24))))]]), []) :=
  runO_sound (N := 100) (os := [(2, .call (.p (.int .i64 (crcS L : Int))) [])])
    (ps := [(Runs lp 8 [(.p (.sl (bs L)))] [] ((.p (.int .i64 (crcS L : Int))), []))])
    (by kernel_rfl) ⟨(vSum (L := L) h1), trivial⟩

theorem sum4_s {L : List UInt8} {m : Nat} (h1 : List.length (α := UInt8) L ≤ 140737488355328) :
    Runs lp 19 [(.sl (bs L) 0 m)] [.spare 1 m] ((.tight [[(.int .u8 (IntKind.wrap .u8 (crcS L : Int)))], [(.int .u8 (IntKind.wrap .u8 (Int.fdiv (crcS L : Int) (2 ^ 8))))], [(.int .u8 (IntKind.wrap .u8 (Int.fdiv (crcS L : Int) (2 ^ 16))))], [(.int .u8 (IntKind.wrap .u8 (Int.fdiv (crcS L : Int) (2 ^ 24))))]]), [.spare 1 m]) :=
  runO_sound (N := 100) (os := [(2, .call (.p (.int .i64 (crcS L : Int))) [.spare 1 m])])
    (ps := [(Runs lp 8 [(.sl (bs L) 0 m)] [.spare 1 m] ((.p (.int .i64 (crcS L : Int))), [.spare 1 m]))])
    (by kernel_rfl) ⟨(vSum_s (L := L) h1), trivial⟩

theorem four4 {n : Nat}  :
    Runs lp 21 [(.p (.int .i64 (n : Int)))] [] ((.tight [[(.int .u8 (IntKind.wrap .u8 (n : Int)))], [(.int .u8 (IntKind.wrap .u8 (Int.fdiv (n : Int) (2 ^ 8))))], [(.int .u8 (IntKind.wrap .u8 (Int.fdiv (n : Int) (2 ^ 16))))], [(.int .u8 (IntKind.wrap .u8 (Int.fdiv (n : Int) (2 ^ 24))))]]), []) :=
  runO_sound (N := 100) (os := [])
    (ps := [])
    (by kernel_rfl) trivial

theorem grow_ny {n : Int} (c1 : (decide (n < 0)) = false) (c2 : (decide ((IntKind.wrap .i64 (n - 0)) > 0)) = true) (h3 : 0 < IntKind.wrap .i64 (n - 0) ∧ roomy (Int.toNat (IntKind.wrap .i64 (n - 0))) 1 = true ∧ IntKind.wrap .i64 (n - 0) ≤ 9223372036854775807) :
    Runs lp 25 [(.tight []), (.p (.int .i64 n))] [] ((.sl [] 0 0), [.spare 1 0]) :=
  runO_sound (N := 100) (os := [(3, .b false), (10, .b true), (5, .op (.gr 0 (Int.toNat (IntKind.wrap .i64 (n - 0)))) [.spare 1 0]), (2, .op (.sl [] 0 0) [.spare 1 0])])
    (ps := [(LV.p (PV.bool (decide (n < 0))) = .p (.bool false)), (LV.p (PV.bool (decide ((IntKind.wrap .i64 (n - 0)) > 0))) = .p (.bool true)), (opStep noCall [] [] (.grow 1 1 (.const (.tight [])) (.const (.p (.int .i64 (IntKind.wrap .i64 (n - 0)))))) = some ((.gr 0 (Int.toNat (IntKind.wrap .i64 (n - 0)))), [.spare 1 0])), (opStep noCall [] [.spare 1 0] (.slice 1 (.const (.gr 0 (Int.toNat (IntKind.wrap .i64 (n - 0))))) none (some (.const (.p (.int .i64 0)))) none) = some ((.sl [] 0 0), [.spare 1 0]))])
    (by kernel_rfl) ⟨(congrArg (fun b => LV.p (PV.bool b)) c1), (congrArg (fun b => LV.p (PV.bool b)) c2), (opIs_grow h3), (opIs_sliceGr), trivial⟩

theorem cat3_nnny_u0_1 {X Y Z : List UInt8} (c1 : (decide ((IntKind.wrap .i64 (0 + ((List.length (bs X) : Nat) : Int))) < 0)) = false) {r : LOut × List LV × List LObj} (hr : LoopAt lp 0 (loopNo lf18 0).1 (loopNo lf18 0).2 (tl 0 36 [(0, (.tight [[(.sl (bs X))], [(.sl (bs Y))], [(.sl (bs Z))]])), (3, (.p (.int .i64 (IntKind.wrap .i64 (0 + ((List.length (bs X) : Nat) : Int)))))), (9, (.tight [[(.sl (bs X))], [(.sl (bs Y))], [(.sl (bs Z))]])), (10, (.p (.int .i64 3))), (11, (.p (.int .i64 1)))]) [] r) :
    LoopAt lp 0 (loopNo lf18 0).1 (loopNo lf18 0).2 (tl 0 36 [(0, (.tight [[(.sl (bs X))], [(.sl (bs Y))], [(.sl (bs Z))]])), (3, (.p (.int .i64 0))), (9, (.tight [[(.sl (bs X))], [(.sl (bs Y))], [(.sl (bs Z))]])), (10, (.p (.int .i64 3))), (11, (.p (.int .i64 0)))]) [] r :=
  .on (N := 100) (os := [(12, .b false)])
    (ps := [(LV.p (PV.bool (decide ((IntKind.wrap .i64 (0 + ((List.length (bs X) : Nat) : Int))) < 0))) = .p (.bool false))])
    (by kernel_rfl) ⟨(congrArg (fun b => LV.p (PV.bool b)) c1), trivial⟩ hr

theorem cat3_nnny_u0_2 {X Y Z : List UInt8} (c1 : (decide ((IntKind.wrap .i64 ((IntKind.wrap .i64 (0 + ((List.length (bs X) : Nat) : Int))) + ((List.length (bs Y) : Nat) : Int))) < 0)) = false) {r : LOut × List LV × List LObj} (hr : LoopAt lp 0 (loopNo lf18 0).1 (loopNo lf18 0).2 (tl 0 36 [(0, (.tight [[(.sl (bs X))], [(.sl (bs Y))], [(.sl (bs Z))]])), (3, (.p (.int .i64 (IntKind.wrap .i64 ((IntKind.wrap .i64 (0 + ((List.length (bs X) : Nat) : Int))) + ((List.length (bs Y) : Nat) : Int)))))), (9, (.tight [[(.sl (bs X))], [(.sl (bs Y))], [(.sl (bs Z))]])), (10, (.p (.int .i64 3))), (11, (.p (.int .i64 2)))]) [] r) :
    LoopAt lp 0 (loopNo lf18 0).1 (loopNo lf18 0).2 (tl 0 36 [(0, (.tight [[(.sl (bs X))], [(.sl (bs Y))], [(.sl (bs Z))]])), (3, (.p (.int .i64 (IntKind.wrap .i64 (0 + ((List.length (bs X) : Nat) : Int)))))), (9, (.tight [[(.sl (bs X))], [(.sl (bs Y))], [(.sl (bs Z))]])), (10, (.p (.int .i64 3))), (11, (.p (.int .i64 1)))]) [] r :=
  .on (N := 100) (os := [(12, .b false)])
    (ps := [(LV.p (PV.bool (decide ((IntKind.wrap .i64 ((IntKind.wrap .i64 (0 + ((List.length (bs X) : Nat) : Int))) + ((List.length (bs Y) : Nat) : Int))) < 0))) = .p (.bool false))])
    (by kernel_rfl) ⟨(congrArg (fun b => LV.p (PV.bool b)) c1), trivial⟩ hr

theorem cat3_nnny_u0_3 {X Y Z : List UInt8} (c1 : (decide ((IntKind.wrap .i64 ((IntKind.wrap .i64 ((IntKind.wrap .i64 (0 + ((List.length (bs X) : Nat) : Int))) + ((List.length (bs Y) : Nat) : Int))) + ((List.length (bs Z) : Nat) : Int))) < 0)) = false) {r : LOut × List LV × List LObj} (hr : LoopAt lp 0 (loopNo lf18 0).1 (loopNo lf18 0).2 (tl 0 36 [(0, (.tight [[(.sl (bs X))], [(.sl (bs Y))], [(.sl (bs Z))]])), (3, (.p (.int .i64 (IntKind.wrap .i64 ((IntKind.wrap .i64 ((IntKind.wrap .i64 (0 + ((List.length (bs X) : Nat) : Int))) + ((List.length (bs Y) : Nat) : Int))) + ((List.length (bs Z) : Nat) : Int)))))), (9, (.tight [[(.sl (bs X))], [(.sl (bs Y))], [(.sl (bs Z))]])), (10, (.p (.int .i64 3))), (11, (.p (.int .i64 3)))]) [] r) :
    LoopAt lp 0 (loopNo lf18 0).1 (loopNo lf18 0).2 (tl 0 36 [(0, (.tight [[(.sl (bs X))], [(.sl (bs Y))], [(.sl (bs Z))]])), (3, (.p (.int .i64 (IntKind.wrap .i64 ((IntKind.wrap .i64 (0 + ((List.length (bs X) : Nat) : Int))) + ((List.length (bs Y) : Nat) : Int)))))), (9, (.tight [[(.sl (bs X))], [(.sl (bs Y))], [(.sl (bs Z))]])), (10, (.p (.int .i64 3))), (11, (.p (.int .i64 2)))]) [] r :=
  .on (N := 100) (os := [(12, .b false)])
    (ps := [(LV.p (PV.bool (decide ((IntKind.wrap .i64 ((IntKind.wrap .i64 ((IntKind.wrap .i64 (0 + ((List.length (bs X) : Nat) : Int))) + ((List.length (bs Y) : Nat) : Int))) + ((List.length (bs Z) : Nat) : Int))) < 0))) = .p (.bool false))])
    (by kernel_rfl) ⟨(congrArg (fun b => LV.p (PV.bool b)) c1), trivial⟩ hr

theorem cat3_nnny_u0_4 {X Y Z : List UInt8}  :
    LoopAt lp 0 (loopNo lf18 0).1 (loopNo lf18 0).2 (tl 0 36 [(0, (.tight [[(.sl (bs X))], [(.sl (bs Y))], [(.sl (bs Z))]])), (3, (.p (.int .i64 (IntKind.wrap .i64 ((IntKind.wrap .i64 ((IntKind.wrap .i64 (0 + ((List.length (bs X) : Nat) : Int))) + ((List.length (bs Y) : Nat) : Int))) + ((List.length (bs Z) : Nat) : Int)))))), (9, (.tight [[(.sl (bs X))], [(.sl (bs Y))], [(.sl (bs Z))]])), (10, (.p (.int .i64 3))), (11, (.p (.int .i64 3)))]) [] ((.exit 0), (tl 0 36 [(0, (.tight [[(.sl (bs X))], [(.sl (bs Y))], [(.sl (bs Z))]])), (3, (.p (.int .i64 (IntKind.wrap .i64 ((IntKind.wrap .i64 ((IntKind.wrap .i64 (0 + ((List.length (bs X) : Nat) : Int))) + ((List.length (bs Y) : Nat) : Int))) + ((List.length (bs Z) : Nat) : Int))))))]), []) :=
  .out (N := 100) (os := [])
    (ps := [])
    (by kernel_rfl) (by kernel_rfl) trivial

theorem cat3_nnny_u1_1 {X Y Z : List UInt8} (h1 : List.length (α := UInt8) ([] : List UInt8) + List.length (α := UInt8) X ≤ 200000000000000) {r : LOut × List LV × List LObj} (hr : LoopAt lp 0 (loopNo lf18 1).1 (loopNo lf18 1).2 (tl 0 36 [(6, (.sl (bs (([] : List UInt8) ++ X)) 0 (List.length (([] : List UInt8) ++ X)))), (25, (.tight [[(.sl (bs X))], [(.sl (bs Y))], [(.sl (bs Z))]])), (26, (.p (.int .i64 3))), (27, (.p (.int .i64 1)))]) [.spare 1 (List.length (([] : List UInt8) ++ X))] r) :
    LoopAt lp 0 (loopNo lf18 1).1 (loopNo lf18 1).2 (tl 0 36 [(6, (.sl [] 0 0)), (25, (.tight [[(.sl (bs X))], [(.sl (bs Y))], [(.sl (bs Z))]])), (26, (.p (.int .i64 3))), (27, (.p (.int .i64 0)))]) [.spare 1 0] r :=
  .on (N := 100) (os := [(7, .op (.sl (bs (([] : List UInt8) ++ X)) 0 (List.length (([] : List UInt8) ++ X))) [.spare 1 (List.length (([] : List UInt8) ++ X))])])
    (ps := [(opStep noCall [] [.spare 1 0] (.append false 1 1 (.const (.sl [] 0 0)) (.const (.p (.sl (bs X))))) = some ((.sl (bs (([] : List UInt8) ++ X)) 0 (List.length (([] : List UInt8) ++ X))), [.spare 1 (List.length (([] : List UInt8) ++ X))]))])
    (by kernel_rfl) ⟨(opIs_appS rfl rfl rfl h1), trivial⟩ hr

theorem cat3_nnny_u1_2 {X Y Z : List UInt8} (h1 : List.length (α := UInt8) (([] : List UInt8) ++ X) + List.length (α := UInt8) Y ≤ 200000000000000) {r : LOut × List LV × List LObj} (hr : LoopAt lp 0 (loopNo lf18 1).1 (loopNo lf18 1).2 (tl 0 36 [(6, (.sl (bs ((([] : List UInt8) ++ X) ++ Y)) 0 (List.length ((([] : List UInt8) ++ X) ++ Y)))), (25, (.tight [[(.sl (bs X))], [(.sl (bs Y))], [(.sl (bs Z))]])), (26, (.p (.int .i64 3))), (27, (.p (.int .i64 2)))]) [.spare 1 (List.length ((([] : List UInt8) ++ X) ++ Y))] r) :
    LoopAt lp 0 (loopNo lf18 1).1 (loopNo lf18 1).2 (tl 0 36 [(6, (.sl (bs (([] : List UInt8) ++ X)) 0 (List.length (([] : List UInt8) ++ X)))), (25, (.tight [[(.sl (bs X))], [(.sl (bs Y))], [(.sl (bs Z))]])), (26, (.p (.int .i64 3))), (27, (.p (.int .i64 1)))]) [.spare 1 (List.length (([] : List UInt8) ++ X))] r :=
  .on (N := 100) (os := [(7, .op (.sl (bs ((([] : List UInt8) ++ X) ++ Y)) 0 (List.length ((([] : List UInt8) ++ X) ++ Y))) [.spare 1 (List.length ((([] : List UInt8) ++ X) ++ Y))])])
    (ps := [(opStep noCall [] [.spare 1 (List.length (([] : List UInt8) ++ X))] (.append false 1 1 (.const (.sl (bs (([] : List UInt8) ++ X)) 0 (List.length (([] : List UInt8) ++ X)))) (.const (.p (.sl (bs Y))))) = some ((.sl (bs ((([] : List UInt8) ++ X) ++ Y)) 0 (List.length ((([] : List UInt8) ++ X) ++ Y))), [.spare 1 (List.length ((([] : List UInt8) ++ X) ++ Y))]))])
    (by kernel_rfl) ⟨(opIs_appS rfl rfl rfl h1), trivial⟩ hr

theorem cat3_nnny_u1_3 {X Y Z : List UInt8} (h1 : List.length (α := UInt8) ((([] : List UInt8) ++ X) ++ Y) + List.length (α := UInt8) Z ≤ 200000000000000) {r : LOut × List LV × List LObj} (hr : LoopAt lp 0 (loopNo lf18 1).1 (loopNo lf18 1).2 (tl 0 36 [(6, (.sl (bs (((([] : List UInt8) ++ X) ++ Y) ++ Z)) 0 (List.length (((([] : List UInt8) ++ X) ++ Y) ++ Z)))), (25, (.tight [[(.sl (bs X))], [(.sl (bs Y))], [(.sl (bs Z))]])), (26, (.p (.int .i64 3))), (27, (.p (.int .i64 3)))]) [.spare 1 (List.length (((([] : List UInt8) ++ X) ++ Y) ++ Z))] r) :
    LoopAt lp 0 (loopNo lf18 1).1 (loopNo lf18 1).2 (tl 0 36 [(6, (.sl (bs ((([] : List UInt8) ++ X) ++ Y)) 0 (List.length ((([] : List UInt8) ++ X) ++ Y)))), (25, (.tight [[(.sl (bs X))], [(.sl (bs Y))], [(.sl (bs Z))]])), (26, (.p (.int .i64 3))), (27, (.p (.int .i64 2)))]) [.spare 1 (List.length ((([] : List UInt8) ++ X) ++ Y))] r :=
  .on (N := 100) (os := [(7, .op (.sl (bs (((([] : List UInt8) ++ X) ++ Y) ++ Z)) 0 (List.length (((([] : List UInt8) ++ X) ++ Y) ++ Z))) [.spare 1 (List.length (((([] : List UInt8) ++ X) ++ Y) ++ Z))])])
    (ps := [(opStep noCall [] [.spare 1 (List.length ((([] : List UInt8) ++ X) ++ Y))] (.append false 1 1 (.const (.sl (bs ((([] : List UInt8) ++ X) ++ Y)) 0 (List.length ((([] : List UInt8) ++ X) ++ Y)))) (.const (.p (.sl (bs Z))))) = some ((.sl (bs (((([] : List UInt8) ++ X) ++ Y) ++ Z)) 0 (List.length (((([] : List UInt8) ++ X) ++ Y) ++ Z))), [.spare 1 (List.length (((([] : List UInt8) ++ X) ++ Y) ++ Z))]))])
    (by kernel_rfl) ⟨(opIs_appS rfl rfl rfl h1), trivial⟩ hr

theorem cat3_nnny_u1_4 {X Y Z : List UInt8}  :
    LoopAt lp 0 (loopNo lf18 1).1 (loopNo lf18 1).2 (tl 0 36 [(6, (.sl (bs (((([] : List UInt8) ++ X) ++ Y) ++ Z)) 0 (List.length (((([] : List UInt8) ++ X) ++ Y) ++ Z)))), (25, (.tight [[(.sl (bs X))], [(.sl (bs Y))], [(.sl (bs Z))]])), (26, (.p (.int .i64 3))), (27, (.p (.int .i64 3)))]) [.spare 1 (List.length (((([] : List UInt8) ++ X) ++ Y) ++ Z))] ((.exit 2), (tl 0 36 [(6, (.sl (bs (((([] : List UInt8) ++ X) ++ Y) ++ Z)) 0 (List.length (((([] : List UInt8) ++ X) ++ Y) ++ Z))))]), [.spare 1 (List.length (((([] : List UInt8) ++ X) ++ Y) ++ Z))]) :=
  .out (N := 100) (os := [])
    (ps := [])
    (by kernel_rfl) (by kernel_rfl) trivial

theorem cat3_nnny {X Y Z : List UInt8} (c1 : (decide ((IntKind.wrap .i64 (0 + ((List.length (bs X) : Nat) : Int))) < 0)) = false) (c2 : (decide ((IntKind.wrap .i64 ((IntKind.wrap .i64 (0 + ((List.length (bs X) : Nat) : Int))) + ((List.length (bs Y) : Nat) : Int))) < 0)) = false) (c3 : (decide ((IntKind.wrap .i64 ((IntKind.wrap .i64 ((IntKind.wrap .i64 (0 + ((List.length (bs X) : Nat) : Int))) + ((List.length (bs Y) : Nat) : Int))) + ((List.length (bs Z) : Nat) : Int))) < 0)) = false) (c4 : (decide ((IntKind.wrap .i64 ((IntKind.wrap .i64 ((IntKind.wrap .i64 ((IntKind.wrap .i64 (0 + ((List.length (bs X) : Nat) : Int))) + ((List.length (bs Y) : Nat) : Int))) + ((List.length (bs Z) : Nat) : Int))) - 0)) > 0)) = true) (h5 : 0 < IntKind.wrap .i64 ((IntKind.wrap .i64 ((IntKind.wrap .i64 ((IntKind.wrap .i64 (0 + ((List.length (bs X) : Nat) : Int))) + ((List.length (bs Y) : Nat) : Int))) + ((List.length (bs Z) : Nat) : Int))) - 0) ∧ roomy (Int.toNat (IntKind.wrap .i64 ((IntKind.wrap .i64 ((IntKind.wrap .i64 ((IntKind.wrap .i64 (0 + ((List.length (bs X) : Nat) : Int))) + ((List.length (bs Y) : Nat) : Int))) + ((List.length (bs Z) : Nat) : Int))) - 0))) 1 = true ∧ IntKind.wrap .i64 ((IntKind.wrap .i64 ((IntKind.wrap .i64 ((IntKind.wrap .i64 (0 + ((List.length (bs X) : Nat) : Int))) + ((List.length (bs Y) : Nat) : Int))) + ((List.length (bs Z) : Nat) : Int))) - 0) ≤ 9223372036854775807) (h6 : List.length (α := UInt8) ([] : List UInt8) + List.length (α := UInt8) X ≤ 200000000000000) (h7 : List.length (α := UInt8) (([] : List UInt8) ++ X) + List.length (α := UInt8) Y ≤ 200000000000000) (h8 : List.length (α := UInt8) ((([] : List UInt8) ++ X) ++ Y) + List.length (α := UInt8) Z ≤ 200000000000000) :
    Runs lp 18 [(.tight [[(.sl (bs X))], [(.sl (bs Y))], [(.sl (bs Z))]])] [] ((.sl (bs (((([] : List UInt8) ++ X) ++ Y) ++ Z)) 0 (List.length (((([] : List UInt8) ++ X) ++ Y) ++ Z))), [.spare 1 (List.length (((([] : List UInt8) ++ X) ++ Y) ++ Z))]) :=
  runO_sound (N := 100) (os := [(5, .lp (.exit 0) (tl 0 36 [(0, (.tight [[(.sl (bs X))], [(.sl (bs Y))], [(.sl (bs Z))]])), (3, (.p (.int .i64 (IntKind.wrap .i64 ((IntKind.wrap .i64 ((IntKind.wrap .i64 (0 + ((List.length (bs X) : Nat) : Int))) + ((List.length (bs Y) : Nat) : Int))) + ((List.length (bs Z) : Nat) : Int))))))]) []), (1, .call (.sl [] 0 0) [.spare 1 0]), (4, .lp (.exit 2) (tl 0 36 [(6, (.sl (bs (((([] : List UInt8) ++ X) ++ Y) ++ Z)) 0 (List.length (((([] : List UInt8) ++ X) ++ Y) ++ Z))))]) [.spare 1 (List.length (((([] : List UInt8) ++ X) ++ Y) ++ Z))])])
    (ps := [(LoopAt lp 0 (loopNo lf18 0).1 (loopNo lf18 0).2 (tl 0 36 [(0, (.tight [[(.sl (bs X))], [(.sl (bs Y))], [(.sl (bs Z))]])), (3, (.p (.int .i64 0))), (9, (.tight [[(.sl (bs X))], [(.sl (bs Y))], [(.sl (bs Z))]])), (10, (.p (.int .i64 3))), (11, (.p (.int .i64 0)))]) [] ((.exit 0), (tl 0 36 [(0, (.tight [[(.sl (bs X))], [(.sl (bs Y))], [(.sl (bs Z))]])), (3, (.p (.int .i64 (IntKind.wrap .i64 ((IntKind.wrap .i64 ((IntKind.wrap .i64 (0 + ((List.length (bs X) : Nat) : Int))) + ((List.length (bs Y) : Nat) : Int))) + ((List.length (bs Z) : Nat) : Int))))))]), [])), (Runs lp 25 [(.tight []), (.p (.int .i64 (IntKind.wrap .i64 ((IntKind.wrap .i64 ((IntKind.wrap .i64 (0 + ((List.length (bs X) : Nat) : Int))) + ((List.length (bs Y) : Nat) : Int))) + ((List.length (bs Z) : Nat) : Int)))))] [] ((.sl [] 0 0), [.spare 1 0])), (LoopAt lp 0 (loopNo lf18 1).1 (loopNo lf18 1).2 (tl 0 36 [(6, (.sl [] 0 0)), (25, (.tight [[(.sl (bs X))], [(.sl (bs Y))], [(.sl (bs Z))]])), (26, (.p (.int .i64 3))), (27, (.p (.int .i64 0)))]) [.spare 1 0] ((.exit 2), (tl 0 36 [(6, (.sl (bs (((([] : List UInt8) ++ X) ++ Y) ++ Z)) 0 (List.length (((([] : List UInt8) ++ X) ++ Y) ++ Z))))]), [.spare 1 (List.length (((([] : List UInt8) ++ X) ++ Y) ++ Z))]))])
    (by kernel_rfl) ⟨(cat3_nnny_u0_1 (X := X) (Y := Y) (Z := Z) c1 (cat3_nnny_u0_2 (X := X) (Y := Y) (Z := Z) c2 (cat3_nnny_u0_3 (X := X) (Y := Y) (Z := Z) c3 (cat3_nnny_u0_4 (X := X) (Y := Y) (Z := Z) )))), (grow_ny (n := IntKind.wrap .i64 ((IntKind.wrap .i64 ((IntKind.wrap .i64 (0 + ((List.length (bs X) : Nat) : Int))) + ((List.length (bs Y) : Nat) : Int))) + ((List.length (bs Z) : Nat) : Int))) c3 c4 h5), (cat3_nnny_u1_1 (X := X) (Y := Y) (Z := Z) h6 (cat3_nnny_u1_2 (X := X) (Y := Y) (Z := Z) h7 (cat3_nnny_u1_3 (X := X) (Y := Y) (Z := Z) h8 (cat3_nnny_u1_4 (X := X) (Y := Y) (Z := Z) )))), trivial⟩

end Go.Proofs.Ythiilhepneddpaa
