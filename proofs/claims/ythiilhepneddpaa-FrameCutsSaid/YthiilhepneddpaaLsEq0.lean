/- slices.Equal at bytes: ways, printed by eq.py. -/
import Derived.Test.YthiilhepneddpaaLsCrc2
set_option linter.unusedVariables false
set_option maxRecDepth 100000
namespace Go.Proofs.Ythiilhepneddpaa
open Go Go.LS

theorem eq_ret_y {A B : List UInt8} (c1 : (((List.length (bs A) : Nat) : Int) != ((List.length (bs B) : Nat) : Int)) = true) :
    Runs lp 31 [(.p (.sl (bs A))), (.p (.sl (bs B)))] [] ((.p (.bool false)), []) :=
  runO_sound (N := 100) (os := [(6, .b true)])
    (ps := [(LV.p (PV.bool (((List.length (bs A) : Nat) : Int) != ((List.length (bs B) : Nat) : Int))) = .p (.bool true))])
    (by kernel_rfl) ⟨(congrArg (fun b => LV.p (PV.bool b)) c1), trivial⟩

theorem eq_ret_n {A B : List UInt8} (c1 : (((List.length (bs A) : Nat) : Int) != ((List.length (bs B) : Nat) : Int)) = false) (h2 : LoopAt lp 0 (loopNo lf31 0).1 (loopNo lf31 0).2 (tl 0 26 [(0, (.p (.sl (bs A)))), (1, (.p (.sl (bs B)))), (12, (.p (.int .i64 ((List.length (bs A) : Nat) : Int)))), (13, (.p (.int .i64 0)))]) [] (.ret, (tl 0 26 [(4, (.p (.bool false)))]), [])) :
    Runs lp 31 [(.p (.sl (bs A))), (.p (.sl (bs B)))] [] ((.p (.bool false)), []) :=
  runO_sound (N := 100) (os := [(6, .b false), (3, .lp .ret (tl 0 26 [(4, (.p (.bool false)))]) [])])
    (ps := [(LV.p (PV.bool (((List.length (bs A) : Nat) : Int) != ((List.length (bs B) : Nat) : Int))) = .p (.bool false)), (LoopAt lp 0 (loopNo lf31 0).1 (loopNo lf31 0).2 (tl 0 26 [(0, (.p (.sl (bs A)))), (1, (.p (.sl (bs B)))), (12, (.p (.int .i64 ((List.length (bs A) : Nat) : Int)))), (13, (.p (.int .i64 0)))]) [] (.ret, (tl 0 26 [(4, (.p (.bool false)))]), []))])
    (by kernel_rfl) ⟨(congrArg (fun b => LV.p (PV.bool b)) c1), h2, trivial⟩

theorem eq_exit_n {A B : List UInt8} (c1 : (((List.length (bs A) : Nat) : Int) != ((List.length (bs B) : Nat) : Int)) = false) (h2 : LoopAt lp 0 (loopNo lf31 0).1 (loopNo lf31 0).2 (tl 0 26 [(0, (.p (.sl (bs A)))), (1, (.p (.sl (bs B)))), (12, (.p (.int .i64 ((List.length (bs A) : Nat) : Int)))), (13, (.p (.int .i64 0)))]) [] ((.exit 0), (tl 0 26 []), [])) :
    Runs lp 31 [(.p (.sl (bs A))), (.p (.sl (bs B)))] [] ((.p (.bool true)), []) :=
  runO_sound (N := 100) (os := [(6, .b false), (3, .lp (.exit 0) (tl 0 26 []) [])])
    (ps := [(LV.p (PV.bool (((List.length (bs A) : Nat) : Int) != ((List.length (bs B) : Nat) : Int))) = .p (.bool false)), (LoopAt lp 0 (loopNo lf31 0).1 (loopNo lf31 0).2 (tl 0 26 [(0, (.p (.sl (bs A)))), (1, (.p (.sl (bs B)))), (12, (.p (.int .i64 ((List.length (bs A) : Nat) : Int)))), (13, (.p (.int .i64 0)))]) [] ((.exit 0), (tl 0 26 []), []))])
    (by kernel_rfl) ⟨(congrArg (fun b => LV.p (PV.bool b)) c1), h2, trivial⟩

/- decide ((i : Int) < ((List.length (bs A) : Nat) : Int)), ((List.getD (α := UInt8) A i 0).toNat : Int) != ((List.getD (α := UInt8) B i 0).toNat : Int) -/
theorem eqR_yy {A B : List UInt8} {i : Nat} (c1 : (decide ((i : Int) < ((List.length (bs A) : Nat) : Int))) = true) (h2 : (i : Nat) < List.length (α := UInt8) A) (h3 : (i : Nat) < List.length (α := UInt8) B) (c4 : (((List.getD (α := UInt8) A i 0).toNat : Int) != ((List.getD (α := UInt8) B i 0).toNat : Int)) = true) :
    LoopAt lp 0 (loopNo lf31 0).1 (loopNo lf31 0).2 (tl 0 26 [(0, (.p (.sl (bs A)))), (1, (.p (.sl (bs B)))), (12, (.p (.int .i64 ((List.length (bs A) : Nat) : Int)))), (13, (.p (.int .i64 (i : Int))))]) [] (.ret, (tl 0 26 [(4, (.p (.bool false)))]), []) :=
  .out (N := 100) (os := [(1, .b true), (4, .op (.pin [(.int .u8 ((List.getD (α := UInt8) A i 0).toNat : Int))] 0) []), (3, .op (.pin [(.int .u8 ((List.getD (α := UInt8) B i 0).toNat : Int))] 0) []), (2, .b true)])
    (ps := [(LV.p (PV.bool (decide ((i : Int) < ((List.length (bs A) : Nat) : Int)))) = .p (.bool true)), (opStep noCall [] [] (.indexAddr 1 (.const (.p (.sl (bs A)))) (.const (.p (.int .i64 (i : Int))))) = some ((.pin [(.int .u8 ((List.getD (α := UInt8) A i 0).toNat : Int))] 0), [])), (opStep noCall [] [] (.indexAddr 1 (.const (.p (.sl (bs B)))) (.const (.p (.int .i64 (i : Int))))) = some ((.pin [(.int .u8 ((List.getD (α := UInt8) B i 0).toNat : Int))] 0), [])), (LV.p (PV.bool (((List.getD (α := UInt8) A i 0).toNat : Int) != ((List.getD (α := UInt8) B i 0).toNat : Int))) = .p (.bool true))])
    (by kernel_rfl) (by kernel_rfl) ⟨(congrArg (fun b => LV.p (PV.bool b)) c1), (opIs_idxD rfl rfl h2), (opIs_idxD rfl rfl h3), (congrArg (fun b => LV.p (PV.bool b)) c4), trivial⟩

/- decide ((i : Int) < ((List.length (bs A) : Nat) : Int)), not ((List.getD (α := UInt8) A i 0).toNat : Int) != ((List.getD (α := UInt8) B i 0).toNat : Int) -/
theorem eqR_yn {A B : List UInt8} {i : Nat} (c1 : (decide ((i : Int) < ((List.length (bs A) : Nat) : Int))) = true) (h2 : (i : Nat) < List.length (α := UInt8) A) (h3 : (i : Nat) < List.length (α := UInt8) B) (c4 : (((List.getD (α := UInt8) A i 0).toNat : Int) != ((List.getD (α := UInt8) B i 0).toNat : Int)) = false) {r : LOut × List LV × List LObj} (hr : LoopAt lp 0 (loopNo lf31 0).1 (loopNo lf31 0).2 (tl 0 26 [(0, (.p (.sl (bs A)))), (1, (.p (.sl (bs B)))), (12, (.p (.int .i64 ((List.length (bs A) : Nat) : Int)))), (13, (.p (.int .i64 (IntKind.wrap .i64 ((i : Int) + 1)))))]) [] r) :
    LoopAt lp 0 (loopNo lf31 0).1 (loopNo lf31 0).2 (tl 0 26 [(0, (.p (.sl (bs A)))), (1, (.p (.sl (bs B)))), (12, (.p (.int .i64 ((List.length (bs A) : Nat) : Int)))), (13, (.p (.int .i64 (i : Int))))]) [] r :=
  .on (N := 100) (os := [(1, .b true), (4, .op (.pin [(.int .u8 ((List.getD (α := UInt8) A i 0).toNat : Int))] 0) []), (3, .op (.pin [(.int .u8 ((List.getD (α := UInt8) B i 0).toNat : Int))] 0) []), (2, .b false)])
    (ps := [(LV.p (PV.bool (decide ((i : Int) < ((List.length (bs A) : Nat) : Int)))) = .p (.bool true)), (opStep noCall [] [] (.indexAddr 1 (.const (.p (.sl (bs A)))) (.const (.p (.int .i64 (i : Int))))) = some ((.pin [(.int .u8 ((List.getD (α := UInt8) A i 0).toNat : Int))] 0), [])), (opStep noCall [] [] (.indexAddr 1 (.const (.p (.sl (bs B)))) (.const (.p (.int .i64 (i : Int))))) = some ((.pin [(.int .u8 ((List.getD (α := UInt8) B i 0).toNat : Int))] 0), [])), (LV.p (PV.bool (((List.getD (α := UInt8) A i 0).toNat : Int) != ((List.getD (α := UInt8) B i 0).toNat : Int))) = .p (.bool false))])
    (by kernel_rfl) ⟨(congrArg (fun b => LV.p (PV.bool b)) c1), (opIs_idxD rfl rfl h2), (opIs_idxD rfl rfl h3), (congrArg (fun b => LV.p (PV.bool b)) c4), trivial⟩ hr

/- not decide ((i : Int) < ((List.length (bs A) : Nat) : Int)) -/
theorem eqR_n {A B : List UInt8} {i : Nat} (c1 : (decide ((i : Int) < ((List.length (bs A) : Nat) : Int))) = false) :
    LoopAt lp 0 (loopNo lf31 0).1 (loopNo lf31 0).2 (tl 0 26 [(0, (.p (.sl (bs A)))), (1, (.p (.sl (bs B)))), (12, (.p (.int .i64 ((List.length (bs A) : Nat) : Int)))), (13, (.p (.int .i64 (i : Int))))]) [] ((.exit 0), (tl 0 26 []), []) :=
  .out (N := 100) (os := [(1, .b false)])
    (ps := [(LV.p (PV.bool (decide ((i : Int) < ((List.length (bs A) : Nat) : Int)))) = .p (.bool false))])
    (by kernel_rfl) (by kernel_rfl) ⟨(congrArg (fun b => LV.p (PV.bool b)) c1), trivial⟩

end Go.Proofs.Ythiilhepneddpaa
