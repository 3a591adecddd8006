import Derived.Test.YthmjaeflpgcmdaaLsF
import Derived.Test.YthmjaeflpgcmdaaLsG7
import Derived.Test.YthmjaeflpgcmdaaLsG5
set_option linter.unusedVariables false
set_option maxRecDepth 100000
namespace Go.Proofs.Ythmjaeflpgcmdaa
open Go Go.LS
theorem Yb {x : Nat} (c1 : ((IntKind.wrap .u32 ↑(BitVec.ofInt (IntKind.bits .u32) (x : Int) &&& BitVec.ofInt (IntKind.bits .u32) 1).toNat) == 1) = true) :
  Runs lp 81 [(.p (.int .u32 (x : Int)))] [] ((.p (.int .u32 (IntKind.wrap .u32 ↑(BitVec.ofInt (IntKind.bits .u32) (Int.fdiv (x : Int) (2 ^ 1)) ^^^ BitVec.ofInt (IntKind.bits .u32) 3988292384).toNat))), []) :=
 Db (N := 100) (os := [(4, .b true)]) (ps := [_]) (by kernel_rfl) ⟨cI c1, trivial⟩
theorem Yc {x : Nat} (c1 : ((IntKind.wrap .u32 ↑(BitVec.ofInt (IntKind.bits .u32) (x : Int) &&& BitVec.ofInt (IntKind.bits .u32) 1).toNat) == 1) = false) :
  Runs lp 81 [(.p (.int .u32 (x : Int)))] [] ((.p (.int .u32 (Int.fdiv (x : Int) (2 ^ 1)))), []) :=
 Db (N := 100) (os := [(4, .b false)]) (ps := [_]) (by kernel_rfl) ⟨cI c1, trivial⟩
theorem vsumI_y {L : List UInt8} {x i k : Nat} (c1 : (decide ((k : Int) < 8)) = true) (h2 : Runs lp 81 [(.p (.int .u32 (x : Int)))] [] ((.p (.int .u32 (Qe x : Int))), [])) {r : C4 × List LV × List LObj} (hr : LoopN lp 0 (Aj Ie 1) (tl 0 25 [(3, (.p (.int .u32 (Qe x : Int)))), (6, (.p (.sl (bs L)))), (7, (.p (.int .i64 ((List.length (bs L) : Nat) : Int)))), (8, (.p (.int .i64 (i : Int)))), (16, (.p (.int .i64 (IntKind.wrap .i64 ((k : Int) + 1)))))]) [] r) :
  LoopN lp 0 (Aj Ie 1) (tl 0 25 [(3, (.p (.int .u32 (x : Int)))), (6, (.p (.sl (bs L)))), (7, (.p (.int .i64 ((List.length (bs L) : Nat) : Int)))), (8, (.p (.int .i64 (i : Int)))), (16, (.p (.int .i64 (k : Int))))]) [] r :=
 LoopAt.on (N := 100) (os := [(1, .b true), (1, oC h2)]) (ps := [_, _]) (by kernel_rfl) ⟨cI c1, h2, trivial⟩ hr
theorem vsumI_n {L : List UInt8} {x i k : Nat} (c1 : (decide ((k : Int) < 8)) = false) :
  LoopN lp 0 (Aj Ie 1) (tl 0 25 [(3, (.p (.int .u32 (x : Int)))), (6, (.p (.sl (bs L)))), (7, (.p (.int .i64 ((List.length (bs L) : Nat) : Int)))), (8, (.p (.int .i64 (i : Int)))), (16, (.p (.int .i64 (k : Int))))]) [] ((.exit 2), (tl 0 25 [(3, (.p (.int .u32 (x : Int)))), (6, (.p (.sl (bs L)))), (7, (.p (.int .i64 ((List.length (bs L) : Nat) : Int)))), (8, (.p (.int .i64 (i : Int))))]), []) :=
 LoopAt.out (N := 100) (os := [(1, .b false)]) (ps := [_]) (by kernel_rfl) (by kernel_rfl) ⟨cI c1, trivial⟩
theorem vsumO_y {L : List UInt8} {x i : Nat} {y : Nat} (c1 : (decide ((i : Int) < ((List.length (bs L) : Nat) : Int))) = true) (h2 : (i : Nat) < List.length (α := UInt8) L) (h3 : LoopN lp 0 (Aj Ie 1) (tl 0 25 [(3, (.p (.int .u32 (IntKind.wrap .u32 ↑(BitVec.ofInt (IntKind.bits .u32) (x : Int) ^^^ BitVec.ofInt (IntKind.bits .u32) (IntKind.wrap .u32 ((List.getD (α := UInt8) L i 0).toNat : Int))).toNat)))), (6, (.p (.sl (bs L)))), (7, (.p (.int .i64 ((List.length (bs L) : Nat) : Int)))), (8, (.p (.int .i64 (i : Int)))), (16, .p (.int .i64 0))]) [] ((.exit 2), (tl 0 25 [(3, (.p (.int .u32 (y : Int)))), (6, (.p (.sl (bs L)))), (7, (.p (.int .i64 ((List.length (bs L) : Nat) : Int)))), (8, (.p (.int .i64 (i : Int))))]), [])) {r : C4 × List LV × List LObj} (hr : LoopN lp 0 (Aj Ie 0) (tl 0 25 [(3, (.p (.int .u32 (y : Int)))), (6, (.p (.sl (bs L)))), (7, (.p (.int .i64 ((List.length (bs L) : Nat) : Int)))), (8, (.p (.int .i64 (IntKind.wrap .i64 ((i : Int) + 1)))))]) [] r) :
  LoopN lp 0 (Aj Ie 0) (tl 0 25 [(3, (.p (.int .u32 (x : Int)))), (6, (.p (.sl (bs L)))), (7, (.p (.int .i64 ((List.length (bs L) : Nat) : Int)))), (8, (.p (.int .i64 (i : Int))))]) [] r :=
 have q1 : OpW [] (.indexAddr 1 (.const (.p (.sl (bs L)))) (.const (.p (.int .i64 (i : Int))))) (.pin [(.int .u8 ((List.getD (α := UInt8) L i 0).toNat : Int))] 0) [] := (B4 rfl rfl h2)
 LoopAt.on (N := 100) (os := [(1, .b true), (0, oO q1), (8, oL h3)]) (ps := [_, _, _]) (by kernel_rfl) ⟨cI c1, q1, h3, trivial⟩ hr
theorem vsumO_n {L : List UInt8} {x i : Nat} (c1 : (decide ((i : Int) < ((List.length (bs L) : Nat) : Int))) = false) :
  LoopN lp 0 (Aj Ie 0) (tl 0 25 [(3, (.p (.int .u32 (x : Int)))), (6, (.p (.sl (bs L)))), (7, (.p (.int .i64 ((List.length (bs L) : Nat) : Int)))), (8, (.p (.int .i64 (i : Int))))]) [] ((.exit 0), (tl 0 25 [(3, (.p (.int .u32 (x : Int))))]), []) :=
 LoopAt.out (N := 100) (os := [(1, .b false)]) (ps := [_]) (by kernel_rfl) (by kernel_rfl) ⟨cI c1, trivial⟩
theorem vsum_fn {L : List UInt8} {y : Nat} (h1 : LoopN lp 0 (Aj Ie 0) (tl 0 25 [(3, .p (.int .u32 4294967295)), (6, (.p (.sl (bs L)))), (7, (.p (.int .i64 ((List.length (bs L) : Nat) : Int)))), (8, .p (.int .i64 0))]) [] ((.exit 0), (tl 0 25 [(3, (.p (.int .u32 (y : Int))))]), [])) :
  Runs lp 65 [(.p (.sl (bs L)))] [] ((.p (.int .i64 (IntKind.wrap .i64 (IntKind.wrap .u32 ↑(BitVec.ofInt (IntKind.bits .u32) 4294967295 ^^^ BitVec.ofInt (IntKind.bits .u32) (y : Int)).toNat)))), []) :=
 Db (N := 100) (os := [(5, oL h1)]) (ps := [_]) (by kernel_rfl) ⟨h1, trivial⟩
end Go.Proofs.Ythmjaeflpgcmdaa
