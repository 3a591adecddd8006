/- Ways and rounds of the sums: printed by crc.py. -/
import Derived.Test.YthiilhepneddpaaLsF
import Derived.Test.YthiilhepneddpaaLsG5
set_option linter.unusedVariables false
set_option maxRecDepth 100000
namespace Go.Proofs.Ythiilhepneddpaa
open Go Go.LS

theorem step_w_y {x : Nat} (c1 : ((IntKind.wrap .u32 ↑(BitVec.ofInt (IntKind.bits .u32) (x : Int) &&& BitVec.ofInt (IntKind.bits .u32) 1).toNat) == 1) = true) :
    Runs lp 16 [(.p (.int .u32 (x : Int)))] [] ((.p (.int .u32 (IntKind.wrap .u32 ↑(BitVec.ofInt (IntKind.bits .u32) (Int.fdiv (x : Int) (2 ^ 1)) ^^^ BitVec.ofInt (IntKind.bits .u32) 3988292384).toNat))), []) :=
  runO_sound (N := 100) (os := [(4, .b true)])
    (ps := [(LV.p (PV.bool ((IntKind.wrap .u32 ↑(BitVec.ofInt (IntKind.bits .u32) (x : Int) &&& BitVec.ofInt (IntKind.bits .u32) 1).toNat) == 1)) = .p (.bool true))])
    (by kernel_rfl) ⟨(congrArg (fun b => LV.p (PV.bool b)) c1), trivial⟩

theorem step_w_n {x : Nat} (c1 : ((IntKind.wrap .u32 ↑(BitVec.ofInt (IntKind.bits .u32) (x : Int) &&& BitVec.ofInt (IntKind.bits .u32) 1).toNat) == 1) = false) :
    Runs lp 16 [(.p (.int .u32 (x : Int)))] [] ((.p (.int .u32 (Int.fdiv (x : Int) (2 ^ 1)))), []) :=
  runO_sound (N := 100) (os := [(4, .b false)])
    (ps := [(LV.p (PV.bool ((IntKind.wrap .u32 ↑(BitVec.ofInt (IntKind.bits .u32) (x : Int) &&& BitVec.ofInt (IntKind.bits .u32) 1).toNat) == 1)) = .p (.bool false))])
    (by kernel_rfl) ⟨(congrArg (fun b => LV.p (PV.bool b)) c1), trivial⟩

/- decide ((k : Int) < 8) -/
theorem vsumI_y {L : List UInt8} {x i k : Nat} (c1 : (decide ((k : Int) < 8)) = true) (h2 : Runs lp 16 [(.p (.int .u32 (x : Int)))] [] ((.p (.int .u32 (crc1 x : Int))), [])) {r : LOut × List LV × List LObj} (hr : LoopAt lp 0 (loopNo lf8 1).1 (loopNo lf8 1).2 (tl 0 25 [(3, (.p (.int .u32 (crc1 x : Int)))), (6, (.p (.sl (bs L)))), (7, (.p (.int .i64 ((List.length (bs L) : Nat) : Int)))), (8, (.p (.int .i64 (i : Int)))), (16, (.p (.int .i64 (IntKind.wrap .i64 ((k : Int) + 1)))))]) [] r) :
    LoopAt lp 0 (loopNo lf8 1).1 (loopNo lf8 1).2 (tl 0 25 [(3, (.p (.int .u32 (x : Int)))), (6, (.p (.sl (bs L)))), (7, (.p (.int .i64 ((List.length (bs L) : Nat) : Int)))), (8, (.p (.int .i64 (i : Int)))), (16, (.p (.int .i64 (k : Int))))]) [] r :=
  .on (N := 100) (os := [(1, .b true), (1, .call (.p (.int .u32 (crc1 x : Int))) [])])
    (ps := [(LV.p (PV.bool (decide ((k : Int) < 8))) = .p (.bool true)), (Runs lp 16 [(.p (.int .u32 (x : Int)))] [] ((.p (.int .u32 (crc1 x : Int))), []))])
    (by kernel_rfl) ⟨(congrArg (fun b => LV.p (PV.bool b)) c1), h2, trivial⟩ hr

/- not decide ((k : Int) < 8) -/
theorem vsumI_n {L : List UInt8} {x i k : Nat} (c1 : (decide ((k : Int) < 8)) = false) :
    LoopAt lp 0 (loopNo lf8 1).1 (loopNo lf8 1).2 (tl 0 25 [(3, (.p (.int .u32 (x : Int)))), (6, (.p (.sl (bs L)))), (7, (.p (.int .i64 ((List.length (bs L) : Nat) : Int)))), (8, (.p (.int .i64 (i : Int)))), (16, (.p (.int .i64 (k : Int))))]) [] ((.exit 2), (tl 0 25 [(3, (.p (.int .u32 (x : Int)))), (6, (.p (.sl (bs L)))), (7, (.p (.int .i64 ((List.length (bs L) : Nat) : Int)))), (8, (.p (.int .i64 (i : Int))))]), []) :=
  .out (N := 100) (os := [(1, .b false)])
    (ps := [(LV.p (PV.bool (decide ((k : Int) < 8))) = .p (.bool false))])
    (by kernel_rfl) (by kernel_rfl) ⟨(congrArg (fun b => LV.p (PV.bool b)) c1), trivial⟩

/- decide ((i : Int) < ((List.length (bs L) : Nat) : Int)) -/
theorem vsumO_y {L : List UInt8} {x i : Nat} {y : Nat} (c1 : (decide ((i : Int) < ((List.length (bs L) : Nat) : Int))) = true) (h2 : (i : Nat) < List.length (α := UInt8) L) (h3 : LoopAt lp 0 (loopNo lf8 1).1 (loopNo lf8 1).2 (tl 0 25 [(3, (.p (.int .u32 (IntKind.wrap .u32 ↑(BitVec.ofInt (IntKind.bits .u32) (x : Int) ^^^ BitVec.ofInt (IntKind.bits .u32) (IntKind.wrap .u32 ((List.getD (α := UInt8) L i 0).toNat : Int))).toNat)))), (6, (.p (.sl (bs L)))), (7, (.p (.int .i64 ((List.length (bs L) : Nat) : Int)))), (8, (.p (.int .i64 (i : Int)))), (16, (.p (.int .i64 0)))]) [] ((.exit 2), (tl 0 25 [(3, (.p (.int .u32 (y : Int)))), (6, (.p (.sl (bs L)))), (7, (.p (.int .i64 ((List.length (bs L) : Nat) : Int)))), (8, (.p (.int .i64 (i : Int))))]), [])) {r : LOut × List LV × List LObj} (hr : LoopAt lp 0 (loopNo lf8 0).1 (loopNo lf8 0).2 (tl 0 25 [(3, (.p (.int .u32 (y : Int)))), (6, (.p (.sl (bs L)))), (7, (.p (.int .i64 ((List.length (bs L) : Nat) : Int)))), (8, (.p (.int .i64 (IntKind.wrap .i64 ((i : Int) + 1)))))]) [] r) :
    LoopAt lp 0 (loopNo lf8 0).1 (loopNo lf8 0).2 (tl 0 25 [(3, (.p (.int .u32 (x : Int)))), (6, (.p (.sl (bs L)))), (7, (.p (.int .i64 ((List.length (bs L) : Nat) : Int)))), (8, (.p (.int .i64 (i : Int))))]) [] r :=
  .on (N := 100) (os := [(1, .b true), (0, .op (.pin [(.int .u8 ((List.getD (α := UInt8) L i 0).toNat : Int))] 0) []), (8, .lp (.exit 2) (tl 0 25 [(3, (.p (.int .u32 (y : Int)))), (6, (.p (.sl (bs L)))), (7, (.p (.int .i64 ((List.length (bs L) : Nat) : Int)))), (8, (.p (.int .i64 (i : Int))))]) [])])
    (ps := [(LV.p (PV.bool (decide ((i : Int) < ((List.length (bs L) : Nat) : Int)))) = .p (.bool true)), (opStep noCall [] [] (.indexAddr 1 (.const (.p (.sl (bs L)))) (.const (.p (.int .i64 (i : Int))))) = some ((.pin [(.int .u8 ((List.getD (α := UInt8) L i 0).toNat : Int))] 0), [])), (LoopAt lp 0 (loopNo lf8 1).1 (loopNo lf8 1).2 (tl 0 25 [(3, (.p (.int .u32 (IntKind.wrap .u32 ↑(BitVec.ofInt (IntKind.bits .u32) (x : Int) ^^^ BitVec.ofInt (IntKind.bits .u32) (IntKind.wrap .u32 ((List.getD (α := UInt8) L i 0).toNat : Int))).toNat)))), (6, (.p (.sl (bs L)))), (7, (.p (.int .i64 ((List.length (bs L) : Nat) : Int)))), (8, (.p (.int .i64 (i : Int)))), (16, (.p (.int .i64 0)))]) [] ((.exit 2), (tl 0 25 [(3, (.p (.int .u32 (y : Int)))), (6, (.p (.sl (bs L)))), (7, (.p (.int .i64 ((List.length (bs L) : Nat) : Int)))), (8, (.p (.int .i64 (i : Int))))]), []))])
    (by kernel_rfl) ⟨(congrArg (fun b => LV.p (PV.bool b)) c1), (opIs_idxD rfl rfl h2), h3, trivial⟩ hr

/- not decide ((i : Int) < ((List.length (bs L) : Nat) : Int)) -/
theorem vsumO_n {L : List UInt8} {x i : Nat} (c1 : (decide ((i : Int) < ((List.length (bs L) : Nat) : Int))) = false) :
    LoopAt lp 0 (loopNo lf8 0).1 (loopNo lf8 0).2 (tl 0 25 [(3, (.p (.int .u32 (x : Int)))), (6, (.p (.sl (bs L)))), (7, (.p (.int .i64 ((List.length (bs L) : Nat) : Int)))), (8, (.p (.int .i64 (i : Int))))]) [] ((.exit 0), (tl 0 25 [(3, (.p (.int .u32 (x : Int))))]), []) :=
  .out (N := 100) (os := [(1, .b false)])
    (ps := [(LV.p (PV.bool (decide ((i : Int) < ((List.length (bs L) : Nat) : Int)))) = .p (.bool false))])
    (by kernel_rfl) (by kernel_rfl) ⟨(congrArg (fun b => LV.p (PV.bool b)) c1), trivial⟩

theorem vsum_fn {L : List UInt8} {y : Nat} (h1 : LoopAt lp 0 (loopNo lf8 0).1 (loopNo lf8 0).2 (tl 0 25 [(3, (.p (.int .u32 4294967295))), (6, (.p (.sl (bs L)))), (7, (.p (.int .i64 ((List.length (bs L) : Nat) : Int)))), (8, (.p (.int .i64 0)))]) [] ((.exit 0), (tl 0 25 [(3, (.p (.int .u32 (y : Int))))]), [])) :
    Runs lp 8 [(.p (.sl (bs L)))] [] ((.p (.int .i64 (IntKind.wrap .i64 (IntKind.wrap .u32 ↑(BitVec.ofInt (IntKind.bits .u32) 4294967295 ^^^ BitVec.ofInt (IntKind.bits .u32) (y : Int)).toNat)))), []) :=
  runO_sound (N := 100) (os := [(5, .lp (.exit 0) (tl 0 25 [(3, (.p (.int .u32 (y : Int))))]) [])])
    (ps := [(LoopAt lp 0 (loopNo lf8 0).1 (loopNo lf8 0).2 (tl 0 25 [(3, (.p (.int .u32 4294967295))), (6, (.p (.sl (bs L)))), (7, (.p (.int .i64 ((List.length (bs L) : Nat) : Int)))), (8, (.p (.int .i64 0)))]) [] ((.exit 0), (tl 0 25 [(3, (.p (.int .u32 (y : Int))))]), []))])
    (by kernel_rfl) ⟨h1, trivial⟩

/- decide ((k : Int) < 8) -/
theorem vsumI_s_y {L : List UInt8} {x i k : Nat} {m : Nat} (c1 : (decide ((k : Int) < 8)) = true) (h2 : Runs lp 16 [(.p (.int .u32 (x : Int)))] [] ((.p (.int .u32 (crc1 x : Int))), [])) {r : LOut × List LV × List LObj} (hr : LoopAt lp 1 (loopNo lf8 1).1 (loopNo lf8 1).2 (tl 0 25 [(3, (.p (.int .u32 (crc1 x : Int)))), (6, (.p (.sl (bs L)))), (7, (.p (.int .i64 ((List.length (bs L) : Nat) : Int)))), (8, (.p (.int .i64 (i : Int)))), (16, (.p (.int .i64 (IntKind.wrap .i64 ((k : Int) + 1)))))]) [.spare 1 m] r) :
    LoopAt lp 1 (loopNo lf8 1).1 (loopNo lf8 1).2 (tl 0 25 [(3, (.p (.int .u32 (x : Int)))), (6, (.p (.sl (bs L)))), (7, (.p (.int .i64 ((List.length (bs L) : Nat) : Int)))), (8, (.p (.int .i64 (i : Int)))), (16, (.p (.int .i64 (k : Int))))]) [.spare 1 m] r :=
  .on (N := 100) (os := [(1, .b true), (1, .call (.p (.int .u32 (crc1 x : Int))) [])])
    (ps := [(LV.p (PV.bool (decide ((k : Int) < 8))) = .p (.bool true)), (Runs lp 16 [(.p (.int .u32 (x : Int)))] [] ((.p (.int .u32 (crc1 x : Int))), []))])
    (by kernel_rfl) ⟨(congrArg (fun b => LV.p (PV.bool b)) c1), h2, trivial⟩ hr

/- not decide ((k : Int) < 8) -/
theorem vsumI_s_n {L : List UInt8} {x i k : Nat} {m : Nat} (c1 : (decide ((k : Int) < 8)) = false) :
    LoopAt lp 1 (loopNo lf8 1).1 (loopNo lf8 1).2 (tl 0 25 [(3, (.p (.int .u32 (x : Int)))), (6, (.p (.sl (bs L)))), (7, (.p (.int .i64 ((List.length (bs L) : Nat) : Int)))), (8, (.p (.int .i64 (i : Int)))), (16, (.p (.int .i64 (k : Int))))]) [.spare 1 m] ((.exit 2), (tl 0 25 [(3, (.p (.int .u32 (x : Int)))), (6, (.p (.sl (bs L)))), (7, (.p (.int .i64 ((List.length (bs L) : Nat) : Int)))), (8, (.p (.int .i64 (i : Int))))]), [.spare 1 m]) :=
  .out (N := 100) (os := [(1, .b false)])
    (ps := [(LV.p (PV.bool (decide ((k : Int) < 8))) = .p (.bool false))])
    (by kernel_rfl) (by kernel_rfl) ⟨(congrArg (fun b => LV.p (PV.bool b)) c1), trivial⟩

/- decide ((k : Int) < 8), (Int.tmod (x : Int) 2) == 1 -/
theorem rsumI_s_yy {L : List UInt8} {x i k : Nat} {m : Nat} (c1 : (decide ((k : Int) < 8)) = true) (c2 : ((Int.tmod (x : Int) 2) == 1) = true) {r : LOut × List LV × List LObj} (hr : LoopAt lp 1 (loopNo lf9 1).1 (loopNo lf9 1).2 (tl 0 34 [(0, (.p (.sl (bs L)))), (3, (.p (.int .u32 (IntKind.wrap .u32 ↑(BitVec.ofInt (IntKind.bits .u32) (IntKind.wrap .u32 (Int.tdiv (x : Int) 2)) ^^^ BitVec.ofInt (IntKind.bits .u32) 3988292384).toNat)))), (4, (.p (.int .i64 (i : Int)))), (5, (.p (.int .i64 (IntKind.wrap .i64 ((k : Int) + 1)))))]) [.spare 1 m] r) :
    LoopAt lp 1 (loopNo lf9 1).1 (loopNo lf9 1).2 (tl 0 34 [(0, (.p (.sl (bs L)))), (3, (.p (.int .u32 (x : Int)))), (4, (.p (.int .i64 (i : Int)))), (5, (.p (.int .i64 (k : Int))))]) [.spare 1 m] r :=
  .on (N := 100) (os := [(2, .b true), (3, .b true)])
    (ps := [(LV.p (PV.bool (decide ((k : Int) < 8))) = .p (.bool true)), (LV.p (PV.bool ((Int.tmod (x : Int) 2) == 1)) = .p (.bool true))])
    (by kernel_rfl) ⟨(congrArg (fun b => LV.p (PV.bool b)) c1), (congrArg (fun b => LV.p (PV.bool b)) c2), trivial⟩ hr

/- decide ((k : Int) < 8), not (Int.tmod (x : Int) 2) == 1 -/
theorem rsumI_s_yn {L : List UInt8} {x i k : Nat} {m : Nat} (c1 : (decide ((k : Int) < 8)) = true) (c2 : ((Int.tmod (x : Int) 2) == 1) = false) {r : LOut × List LV × List LObj} (hr : LoopAt lp 1 (loopNo lf9 1).1 (loopNo lf9 1).2 (tl 0 34 [(0, (.p (.sl (bs L)))), (3, (.p (.int .u32 (IntKind.wrap .u32 (Int.tdiv (x : Int) 2))))), (4, (.p (.int .i64 (i : Int)))), (5, (.p (.int .i64 (IntKind.wrap .i64 ((k : Int) + 1)))))]) [.spare 1 m] r) :
    LoopAt lp 1 (loopNo lf9 1).1 (loopNo lf9 1).2 (tl 0 34 [(0, (.p (.sl (bs L)))), (3, (.p (.int .u32 (x : Int)))), (4, (.p (.int .i64 (i : Int)))), (5, (.p (.int .i64 (k : Int))))]) [.spare 1 m] r :=
  .on (N := 100) (os := [(2, .b true), (3, .b false)])
    (ps := [(LV.p (PV.bool (decide ((k : Int) < 8))) = .p (.bool true)), (LV.p (PV.bool ((Int.tmod (x : Int) 2) == 1)) = .p (.bool false))])
    (by kernel_rfl) ⟨(congrArg (fun b => LV.p (PV.bool b)) c1), (congrArg (fun b => LV.p (PV.bool b)) c2), trivial⟩ hr

/- not decide ((k : Int) < 8) -/
theorem rsumI_s_n {L : List UInt8} {x i k : Nat} {m : Nat} (c1 : (decide ((k : Int) < 8)) = false) :
    LoopAt lp 1 (loopNo lf9 1).1 (loopNo lf9 1).2 (tl 0 34 [(0, (.p (.sl (bs L)))), (3, (.p (.int .u32 (x : Int)))), (4, (.p (.int .i64 (i : Int)))), (5, (.p (.int .i64 (k : Int))))]) [.spare 1 m] ((.exit 2), (tl 0 34 [(0, (.p (.sl (bs L)))), (3, (.p (.int .u32 (x : Int)))), (4, (.p (.int .i64 (i : Int))))]), [.spare 1 m]) :=
  .out (N := 100) (os := [(2, .b false)])
    (ps := [(LV.p (PV.bool (decide ((k : Int) < 8))) = .p (.bool false))])
    (by kernel_rfl) (by kernel_rfl) ⟨(congrArg (fun b => LV.p (PV.bool b)) c1), trivial⟩

/- decide ((i : Int) < ((List.length (bs L) : Nat) : Int)) -/
theorem vsumO_s_y {L : List UInt8} {x i : Nat} {m : Nat} {y : Nat} (c1 : (decide ((i : Int) < ((List.length (bs L) : Nat) : Int))) = true) (h2 : (i : Nat) < List.length (α := UInt8) L) (h3 : LoopAt lp 1 (loopNo lf8 1).1 (loopNo lf8 1).2 (tl 0 25 [(3, (.p (.int .u32 (IntKind.wrap .u32 ↑(BitVec.ofInt (IntKind.bits .u32) (x : Int) ^^^ BitVec.ofInt (IntKind.bits .u32) (IntKind.wrap .u32 ((List.getD (α := UInt8) L i 0).toNat : Int))).toNat)))), (6, (.p (.sl (bs L)))), (7, (.p (.int .i64 ((List.length (bs L) : Nat) : Int)))), (8, (.p (.int .i64 (i : Int)))), (16, (.p (.int .i64 0)))]) [.spare 1 m] ((.exit 2), (tl 0 25 [(3, (.p (.int .u32 (y : Int)))), (6, (.p (.sl (bs L)))), (7, (.p (.int .i64 ((List.length (bs L) : Nat) : Int)))), (8, (.p (.int .i64 (i : Int))))]), [.spare 1 m])) {r : LOut × List LV × List LObj} (hr : LoopAt lp 1 (loopNo lf8 0).1 (loopNo lf8 0).2 (tl 0 25 [(3, (.p (.int .u32 (y : Int)))), (6, (.p (.sl (bs L)))), (7, (.p (.int .i64 ((List.length (bs L) : Nat) : Int)))), (8, (.p (.int .i64 (IntKind.wrap .i64 ((i : Int) + 1)))))]) [.spare 1 m] r) :
    LoopAt lp 1 (loopNo lf8 0).1 (loopNo lf8 0).2 (tl 0 25 [(3, (.p (.int .u32 (x : Int)))), (6, (.p (.sl (bs L)))), (7, (.p (.int .i64 ((List.length (bs L) : Nat) : Int)))), (8, (.p (.int .i64 (i : Int))))]) [.spare 1 m] r :=
  .on (N := 100) (os := [(1, .b true), (0, .op (.pin [(.int .u8 ((List.getD (α := UInt8) L i 0).toNat : Int))] 0) [.spare 1 m]), (8, .lp (.exit 2) (tl 0 25 [(3, (.p (.int .u32 (y : Int)))), (6, (.p (.sl (bs L)))), (7, (.p (.int .i64 ((List.length (bs L) : Nat) : Int)))), (8, (.p (.int .i64 (i : Int))))]) [.spare 1 m])])
    (ps := [(LV.p (PV.bool (decide ((i : Int) < ((List.length (bs L) : Nat) : Int)))) = .p (.bool true)), (opStep noCall [] [.spare 1 m] (.indexAddr 1 (.const (.p (.sl (bs L)))) (.const (.p (.int .i64 (i : Int))))) = some ((.pin [(.int .u8 ((List.getD (α := UInt8) L i 0).toNat : Int))] 0), [.spare 1 m])), (LoopAt lp 1 (loopNo lf8 1).1 (loopNo lf8 1).2 (tl 0 25 [(3, (.p (.int .u32 (IntKind.wrap .u32 ↑(BitVec.ofInt (IntKind.bits .u32) (x : Int) ^^^ BitVec.ofInt (IntKind.bits .u32) (IntKind.wrap .u32 ((List.getD (α := UInt8) L i 0).toNat : Int))).toNat)))), (6, (.p (.sl (bs L)))), (7, (.p (.int .i64 ((List.length (bs L) : Nat) : Int)))), (8, (.p (.int .i64 (i : Int)))), (16, (.p (.int .i64 0)))]) [.spare 1 m] ((.exit 2), (tl 0 25 [(3, (.p (.int .u32 (y : Int)))), (6, (.p (.sl (bs L)))), (7, (.p (.int .i64 ((List.length (bs L) : Nat) : Int)))), (8, (.p (.int .i64 (i : Int))))]), [.spare 1 m]))])
    (by kernel_rfl) ⟨(congrArg (fun b => LV.p (PV.bool b)) c1), (opIs_idxD rfl rfl h2), h3, trivial⟩ hr

/- not decide ((i : Int) < ((List.length (bs L) : Nat) : Int)) -/
theorem vsumO_s_n {L : List UInt8} {x i : Nat} {m : Nat} (c1 : (decide ((i : Int) < ((List.length (bs L) : Nat) : Int))) = false) :
    LoopAt lp 1 (loopNo lf8 0).1 (loopNo lf8 0).2 (tl 0 25 [(3, (.p (.int .u32 (x : Int)))), (6, (.p (.sl (bs L)))), (7, (.p (.int .i64 ((List.length (bs L) : Nat) : Int)))), (8, (.p (.int .i64 (i : Int))))]) [.spare 1 m] ((.exit 0), (tl 0 25 [(3, (.p (.int .u32 (x : Int))))]), [.spare 1 m]) :=
  .out (N := 100) (os := [(1, .b false)])
    (ps := [(LV.p (PV.bool (decide ((i : Int) < ((List.length (bs L) : Nat) : Int)))) = .p (.bool false))])
    (by kernel_rfl) (by kernel_rfl) ⟨(congrArg (fun b => LV.p (PV.bool b)) c1), trivial⟩

/- decide ((i : Int) < ((List.length (bs L) : Nat) : Int)) -/
theorem rsumO_s_y {L : List UInt8} {x i : Nat} {m : Nat} {y : Nat} (c1 : (decide ((i : Int) < ((List.length (bs L) : Nat) : Int))) = true) (h2 : (i : Nat) < List.length (α := UInt8) L) (h3 : LoopAt lp 1 (loopNo lf9 1).1 (loopNo lf9 1).2 (tl 0 34 [(0, (.p (.sl (bs L)))), (3, (.p (.int .u32 (IntKind.wrap .u32 ↑(BitVec.ofInt (IntKind.bits .u32) (x : Int) ^^^ BitVec.ofInt (IntKind.bits .u32) (IntKind.wrap .u32 ((List.getD (α := UInt8) L i 0).toNat : Int))).toNat)))), (4, (.p (.int .i64 (i : Int)))), (5, (.p (.int .i64 0)))]) [.spare 1 m] ((.exit 2), (tl 0 34 [(0, (.p (.sl (bs L)))), (3, (.p (.int .u32 (y : Int)))), (4, (.p (.int .i64 (i : Int))))]), [.spare 1 m])) {r : LOut × List LV × List LObj} (hr : LoopAt lp 1 (loopNo lf9 0).1 (loopNo lf9 0).2 (tl 0 34 [(0, (.p (.sl (bs L)))), (3, (.p (.int .u32 (y : Int)))), (4, (.p (.int .i64 (IntKind.wrap .i64 ((i : Int) + 1)))))]) [.spare 1 m] r) :
    LoopAt lp 1 (loopNo lf9 0).1 (loopNo lf9 0).2 (tl 0 34 [(0, (.p (.sl (bs L)))), (3, (.p (.int .u32 (x : Int)))), (4, (.p (.int .i64 (i : Int))))]) [.spare 1 m] r :=
  .on (N := 100) (os := [(4, .b true), (3, .op (.pin [(.int .u8 ((List.getD (α := UInt8) L i 0).toNat : Int))] 0) [.spare 1 m]), (5, .lp (.exit 2) (tl 0 34 [(0, (.p (.sl (bs L)))), (3, (.p (.int .u32 (y : Int)))), (4, (.p (.int .i64 (i : Int))))]) [.spare 1 m])])
    (ps := [(LV.p (PV.bool (decide ((i : Int) < ((List.length (bs L) : Nat) : Int)))) = .p (.bool true)), (opStep noCall [] [.spare 1 m] (.indexAddr 1 (.const (.p (.sl (bs L)))) (.const (.p (.int .i64 (i : Int))))) = some ((.pin [(.int .u8 ((List.getD (α := UInt8) L i 0).toNat : Int))] 0), [.spare 1 m])), (LoopAt lp 1 (loopNo lf9 1).1 (loopNo lf9 1).2 (tl 0 34 [(0, (.p (.sl (bs L)))), (3, (.p (.int .u32 (IntKind.wrap .u32 ↑(BitVec.ofInt (IntKind.bits .u32) (x : Int) ^^^ BitVec.ofInt (IntKind.bits .u32) (IntKind.wrap .u32 ((List.getD (α := UInt8) L i 0).toNat : Int))).toNat)))), (4, (.p (.int .i64 (i : Int)))), (5, (.p (.int .i64 0)))]) [.spare 1 m] ((.exit 2), (tl 0 34 [(0, (.p (.sl (bs L)))), (3, (.p (.int .u32 (y : Int)))), (4, (.p (.int .i64 (i : Int))))]), [.spare 1 m]))])
    (by kernel_rfl) ⟨(congrArg (fun b => LV.p (PV.bool b)) c1), (opIs_idxD rfl rfl h2), h3, trivial⟩ hr

/- not decide ((i : Int) < ((List.length (bs L) : Nat) : Int)) -/
theorem rsumO_s_n {L : List UInt8} {x i : Nat} {m : Nat} (c1 : (decide ((i : Int) < ((List.length (bs L) : Nat) : Int))) = false) :
    LoopAt lp 1 (loopNo lf9 0).1 (loopNo lf9 0).2 (tl 0 34 [(0, (.p (.sl (bs L)))), (3, (.p (.int .u32 (x : Int)))), (4, (.p (.int .i64 (i : Int))))]) [.spare 1 m] ((.exit 0), (tl 0 34 [(3, (.p (.int .u32 (x : Int))))]), [.spare 1 m]) :=
  .out (N := 100) (os := [(4, .b false)])
    (ps := [(LV.p (PV.bool (decide ((i : Int) < ((List.length (bs L) : Nat) : Int)))) = .p (.bool false))])
    (by kernel_rfl) (by kernel_rfl) ⟨(congrArg (fun b => LV.p (PV.bool b)) c1), trivial⟩

theorem vsum_fn_s {L : List UInt8} {y m : Nat} (h1 : LoopAt lp 1 (loopNo lf8 0).1 (loopNo lf8 0).2 (tl 0 25 [(3, (.p (.int .u32 4294967295))), (6, (.p (.sl (bs L)))), (7, (.p (.int .i64 ((List.length (bs L) : Nat) : Int)))), (8, (.p (.int .i64 0)))]) [.spare 1 m] ((.exit 0), (tl 0 25 [(3, (.p (.int .u32 (y : Int))))]), [.spare 1 m])) :
    Runs lp 8 [(.sl (bs L) 0 m)] [.spare 1 m] ((.p (.int .i64 (IntKind.wrap .i64 (IntKind.wrap .u32 ↑(BitVec.ofInt (IntKind.bits .u32) 4294967295 ^^^ BitVec.ofInt (IntKind.bits .u32) (y : Int)).toNat)))), [.spare 1 m]) :=
  runO_sound (N := 100) (os := [(5, .lp (.exit 0) (tl 0 25 [(3, (.p (.int .u32 (y : Int))))]) [.spare 1 m])])
    (ps := [(LoopAt lp 1 (loopNo lf8 0).1 (loopNo lf8 0).2 (tl 0 25 [(3, (.p (.int .u32 4294967295))), (6, (.p (.sl (bs L)))), (7, (.p (.int .i64 ((List.length (bs L) : Nat) : Int)))), (8, (.p (.int .i64 0)))]) [.spare 1 m] ((.exit 0), (tl 0 25 [(3, (.p (.int .u32 (y : Int))))]), [.spare 1 m]))])
    (by kernel_rfl) ⟨h1, trivial⟩

theorem rsum_fn_s {L : List UInt8} {y m : Nat} (h1 : LoopAt lp 1 (loopNo lf9 0).1 (loopNo lf9 0).2 (tl 0 34 [(0, (.p (.sl (bs L)))), (3, (.p (.int .u32 4294967295))), (4, (.p (.int .i64 0)))]) [.spare 1 m] ((.exit 0), (tl 0 34 [(3, (.p (.int .u32 (y : Int))))]), [.spare 1 m])) :
    Runs lp 9 [(.sl (bs L) 0 m)] [.spare 1 m] ((.p (.int .i64 (IntKind.wrap .i64 (IntKind.wrap .u32 ↑(BitVec.ofInt (IntKind.bits .u32) 4294967295 ^^^ BitVec.ofInt (IntKind.bits .u32) (y : Int)).toNat)))), [.spare 1 m]) :=
  runO_sound (N := 100) (os := [(3, .lp (.exit 0) (tl 0 34 [(3, (.p (.int .u32 (y : Int))))]) [.spare 1 m])])
    (ps := [(LoopAt lp 1 (loopNo lf9 0).1 (loopNo lf9 0).2 (tl 0 34 [(0, (.p (.sl (bs L)))), (3, (.p (.int .u32 4294967295))), (4, (.p (.int .i64 0)))]) [.spare 1 m] ((.exit 0), (tl 0 34 [(3, (.p (.int .u32 (y : Int))))]), [.spare 1 m]))])
    (by kernel_rfl) ⟨h1, trivial⟩

end Go.Proofs.Ythiilhepneddpaa
