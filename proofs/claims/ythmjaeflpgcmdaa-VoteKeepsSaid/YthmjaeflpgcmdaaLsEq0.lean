import Derived.Test.YthmjaeflpgcmdaaLsCrc2
import Derived.Test.YthmjaeflpgcmdaaLsG5
set_option linter.unusedVariables false
set_option maxRecDepth 100000
namespace Go.Proofs.Ythmjaeflpgcmdaa
open Go Go.LS
theorem Yd {A B : List UInt8} (c1 : (((List.length (bs A) : Nat) : Int) == ((List.length (bs B) : Nat) : Int)) = true) (h2 : LoopN lp 0 (Aj M2 0) (tl 0 26 [(0, (.p (.sl (bs A)))), (1, (.p (.sl (bs B)))), (12, (.p (.int .i64 ((List.length (bs A) : Nat) : Int)))), (13, .p (.int .i64 0))]) [] (.ret, (tl 0 26 [(4, .p (.bool false))]), [])) :
  Runs lp 60 [(.p (.sl (bs A))), (.p (.sl (bs B)))] [] (.p (.bool false), []) :=
 Db (N := 100) (os := [(6, .b false), (3, oL h2)]) (ps := [_, _]) (by kernel_rfl) ⟨(cI (Ay c1)), h2, trivial⟩
theorem Ye {A B : List UInt8} (c1 : (((List.length (bs A) : Nat) : Int) == ((List.length (bs B) : Nat) : Int)) = false) :
  Runs lp 60 [(.p (.sl (bs A))), (.p (.sl (bs B)))] [] (.p (.bool false), []) :=
 Db (N := 100) (os := [(6, .b true)]) (ps := [_]) (by kernel_rfl) ⟨(cI (Ay c1)), trivial⟩
theorem Vz {A B : List UInt8} (c1 : (((List.length (bs A) : Nat) : Int) == ((List.length (bs B) : Nat) : Int)) = true) (h2 : LoopN lp 0 (Aj M2 0) (tl 0 26 [(0, (.p (.sl (bs A)))), (1, (.p (.sl (bs B)))), (12, (.p (.int .i64 ((List.length (bs A) : Nat) : Int)))), (13, .p (.int .i64 0))]) [] ((.exit 0), (tl 0 26 []), [])) :
  Runs lp 60 [(.p (.sl (bs A))), (.p (.sl (bs B)))] [] (.p (.bool true), []) :=
 Db (N := 100) (os := [(6, .b false), (3, oL h2)]) (ps := [_, _]) (by kernel_rfl) ⟨(cI (Ay c1)), h2, trivial⟩
theorem eqR_yy {A B : List UInt8} {i : Nat} (c1 : (decide ((i : Int) < ((List.length (bs A) : Nat) : Int))) = true) (h2 : (i : Nat) < List.length (α := UInt8) A) (h3 : (i : Nat) < List.length (α := UInt8) B) (c4 : (((List.getD (α := UInt8) A i 0).toNat : Int) == ((List.getD (α := UInt8) B i 0).toNat : Int)) = true) {r : C4 × List LV × List LObj} (hr : LoopN lp 0 (Aj M2 0) (tl 0 26 [(0, (.p (.sl (bs A)))), (1, (.p (.sl (bs B)))), (12, (.p (.int .i64 ((List.length (bs A) : Nat) : Int)))), (13, (.p (.int .i64 (IntKind.wrap .i64 ((i : Int) + 1)))))]) [] r) :
  LoopN lp 0 (Aj M2 0) (tl 0 26 [(0, (.p (.sl (bs A)))), (1, (.p (.sl (bs B)))), (12, (.p (.int .i64 ((List.length (bs A) : Nat) : Int)))), (13, (.p (.int .i64 (i : Int))))]) [] r :=
 have q1 : OpW [] (.indexAddr 1 (.const (.p (.sl (bs A)))) (.const (.p (.int .i64 (i : Int))))) (.pin [(.int .u8 ((List.getD (α := UInt8) A i 0).toNat : Int))] 0) [] := (B4 rfl rfl h2)
 have q2 : OpW [] (.indexAddr 1 (.const (.p (.sl (bs B)))) (.const (.p (.int .i64 (i : Int))))) (.pin [(.int .u8 ((List.getD (α := UInt8) B i 0).toNat : Int))] 0) [] := (B4 rfl rfl h3)
 LoopAt.on (N := 100) (os := [(1, .b true), (4, oO q1), (3, oO q2), (2, .b false)]) (ps := [_, _, _, _]) (by kernel_rfl) ⟨cI c1, q1, q2, (cI (Ay c4)), trivial⟩ hr
theorem eqR_yn {A B : List UInt8} {i : Nat} (c1 : (decide ((i : Int) < ((List.length (bs A) : Nat) : Int))) = true) (h2 : (i : Nat) < List.length (α := UInt8) A) (h3 : (i : Nat) < List.length (α := UInt8) B) (c4 : (((List.getD (α := UInt8) A i 0).toNat : Int) == ((List.getD (α := UInt8) B i 0).toNat : Int)) = false) :
  LoopN lp 0 (Aj M2 0) (tl 0 26 [(0, (.p (.sl (bs A)))), (1, (.p (.sl (bs B)))), (12, (.p (.int .i64 ((List.length (bs A) : Nat) : Int)))), (13, (.p (.int .i64 (i : Int))))]) [] (.ret, (tl 0 26 [(4, .p (.bool false))]), []) :=
 have q1 : OpW [] (.indexAddr 1 (.const (.p (.sl (bs A)))) (.const (.p (.int .i64 (i : Int))))) (.pin [(.int .u8 ((List.getD (α := UInt8) A i 0).toNat : Int))] 0) [] := (B4 rfl rfl h2)
 have q2 : OpW [] (.indexAddr 1 (.const (.p (.sl (bs B)))) (.const (.p (.int .i64 (i : Int))))) (.pin [(.int .u8 ((List.getD (α := UInt8) B i 0).toNat : Int))] 0) [] := (B4 rfl rfl h3)
 LoopAt.out (N := 100) (os := [(1, .b true), (4, oO q1), (3, oO q2), (2, .b true)]) (ps := [_, _, _, _]) (by kernel_rfl) (by kernel_rfl) ⟨cI c1, q1, q2, (cI (Ay c4)), trivial⟩
theorem eqR_n {A B : List UInt8} {i : Nat} (c1 : (decide ((i : Int) < ((List.length (bs A) : Nat) : Int))) = false) :
  LoopN lp 0 (Aj M2 0) (tl 0 26 [(0, (.p (.sl (bs A)))), (1, (.p (.sl (bs B)))), (12, (.p (.int .i64 ((List.length (bs A) : Nat) : Int)))), (13, (.p (.int .i64 (i : Int))))]) [] ((.exit 0), (tl 0 26 []), []) :=
 LoopAt.out (N := 100) (os := [(1, .b false)]) (ps := [_]) (by kernel_rfl) (by kernel_rfl) ⟨cI c1, trivial⟩
end Go.Proofs.Ythmjaeflpgcmdaa
