import Derived.Test.YthmjaeflpgcmdaaLsAb
import Derived.Test.YthmjaeflpgcmdaaLsCodes2
set_option linter.unusedVariables false
set_option maxRecDepth 100000
namespace Go.Proofs.Ythmjaeflpgcmdaa
open Go Go.LS
theorem Oe {L : BY} {bad : Bool}  :
  Runs lp 59 [P00] (aR1 L bad) (pB bad, (aR1 L bad)) :=
 rO [] [] (by kernel_rfl) trivial
theorem T2 {L : BY} {bad : Bool}  :
  Runs lp 82 [P00] (aR1 L bad) (.tup [], [.row [[pS L, pB true]]]) :=
 rO [] [] (by kernel_rfl) trivial
theorem U4 {L : BY} {bad : Bool} (c1 : (bad) = true) :
  Runs lp 58 [P00] (aR1 L bad) (pI 0, (aR1 L bad)) :=
 have q1 : Runs lp 59 [P00] (aR1 L bad) (pB bad, (aR1 L bad)) := (Oe (bad := bad) )
 rO [(2, oC q1), (0, .b true)] [_, _] (by kernel_rfl) ⟨q1, cI c1, trivial⟩
theorem Qg {L : BY} {bad : Bool} (c1 : (bad) = false) :
  Runs lp 58 [P00] (aR1 L bad) (pI ((List.length (bs L) : Nat) : Int), (aR1 L bad)) :=
 have q1 : Runs lp 59 [P00] (aR1 L bad) (pB bad, (aR1 L bad)) := (Oe (bad := bad) )
 rO [(2, oC q1), (0, .b false)] [_, _] (by kernel_rfl) ⟨q1, cI c1, trivial⟩
theorem vleft {L : BY} {bad : Bool}  :
  Runs lp 58 [P00] (aR1 L bad) (if (bad) = true then ((pI 0, (aR1 L bad))) else ((pI ((List.length (bs L) : Nat) : Int), (aR1 L bad)))) := by
 by_cases k1 : (bad) = true
 ·refine Ap k1 ?_
  exact U4 (L := L) (bad := bad) k1
 ·refine Aq k1 ?_
  replace k1 := Bool.eq_false_iff.2 k1
  exact Qg (L := L) (bad := bad) k1
theorem vdone_y {L : BY} {bad : Bool} (c1 : (bad) = true) :
  Runs lp 74 [P00] (aR1 L bad) (pI 10, (aR1 L bad)) :=
 have q1 : Runs lp 59 [P00] (aR1 L bad) (pB bad, (aR1 L bad)) := (Oe (bad := bad) )
 rO [(2, oC q1), (1, .b true), (0, .b true), (0, .b true), (0, .b true), (0, .b true), (0, .b true), (0, .b true)] [_, _, _, _, _, _, _, _] (by kernel_rfl) ⟨q1, cI c1, cI c1, cI c1, cI c1, cI c1, cI c1, cI c1, trivial⟩
theorem Ym {L : BY} {bad : Bool} (c1 : (bad) = false) (c2 : (decide (((List.length (bs L) : Nat) : Int) > 0)) = true) :
  Runs lp 74 [P00] (aR1 L bad) (pI 10, (aR1 L bad)) :=
 have q1 : Runs lp 59 [P00] (aR1 L bad) (pB bad, (aR1 L bad)) := (Oe (bad := bad) )
 rO [(2, oC q1), (1, .b false), (1, .b false), (1, .b false), (1, .b false), (1, .b false), (1, .b false), (1, .b false), (0, .b true)] [_, _, _, _, _, _, _, _, _] (by kernel_rfl) ⟨q1, cI c1, cI c1, cI c1, cI c1, cI c1, cI c1, cI c1, cI c2, trivial⟩
theorem Yn {L : BY} {bad : Bool} (c1 : (bad) = false) (c2 : (decide (((List.length (bs L) : Nat) : Int) > 0)) = false) :
  Runs lp 74 [P00] (aR1 L bad) (pI 0, (aR1 L bad)) :=
 have q1 : Runs lp 59 [P00] (aR1 L bad) (pB bad, (aR1 L bad)) := (Oe (bad := bad) )
 rO [(2, oC q1), (1, .b false), (1, .b false), (1, .b false), (1, .b false), (1, .b false), (1, .b false), (1, .b false), (0, .b false)] [_, _, _, _, _, _, _, _, _] (by kernel_rfl) ⟨q1, cI c1, cI c1, cI c1, cI c1, cI c1, cI c1, cI c1, cI c2, trivial⟩
theorem vdone {L : BY} {bad : Bool}  :
  Runs lp 74 [P00] (aR1 L bad) (if (bad) = true then ((pI 10, (aR1 L bad))) else (if (decide (((List.length (bs L) : Nat) : Int) > 0)) = true then ((pI 10, (aR1 L bad))) else ((pI 0, (aR1 L bad))))) := by
 by_cases k1 : (bad) = true
 ·refine Ap k1 ?_
  exact vdone_y (L := L) (bad := bad) k1
 ·refine Aq k1 ?_
  replace k1 := Bool.eq_false_iff.2 k1
  by_cases k2 : (decide (((List.length (bs L) : Nat) : Int) > 0)) = true
  ·refine Ap k2 ?_
   exact Ym (L := L) (bad := bad) k1 k2
  ·refine Aq k2 ?_
   replace k2 := Bool.eq_false_iff.2 k2
   exact Yn (L := L) (bad := bad) k1 k2
theorem Ju {L : BY}  :
  Runs lp 56 [pS L] [] (P00, [.row [[pS L, pB false]]]) :=
 rO [] [] (by kernel_rfl) trivial
theorem T3 {L : BY} {bad : Bool} {a b : Int} (c1 : (bad) = false) (h2 : LoopN lp 1 (Aj D6 0) (tl 0 47 [(0, P00), (4, .p (.int .u64 0)), (9, pI (if 10 < ((List.length (bs L) : Nat) : Int) then 10 else ((List.length (bs L) : Nat) : Int))), (10, pI 0)]) (aR1 L bad) (.ret, (tl 0 47 [(2, .p (.int .u64 a)), (3, pI b)]), (aR1 L bad))) :
  Runs lp 76 [P00] (aR1 L bad) (.tup [.p (.int .u64 a), pI b], (aR1 L bad)) :=
 have q1 : Runs lp 58 [P00] (aR1 L bad) (pI ((List.length (bs L) : Nat) : Int), (aR1 L bad)) := (Qg (bad := bad) c1)
 rO [(4, oC q1), (2, oL h2)] [_, _] (by kernel_rfl) ⟨q1, h2, trivial⟩
theorem Sb {L : BY} {bad : Bool} (c1 : (bad) = true) (h2 : LoopN lp 1 (Aj D6 0) (tl 0 47 [(0, P00), (4, .p (.int .u64 0)), (9, pI 0), (10, pI 0)]) (aR1 L bad) (.exit 0, (tl 0 47 []), (aR1 L bad))) :
  Runs lp 76 [P00] (aR1 L bad) (.tup [.p (.int .u64 0), pI 0], (aR1 L bad)) :=
 have q1 : Runs lp 58 [P00] (aR1 L bad) (pI 0, (aR1 L bad)) := (U4 (bad := bad) c1)
 rO [(4, oC q1), (2, oL h2)] [_, _] (by kernel_rfl) ⟨q1, h2, trivial⟩
theorem Sc {L : BY} {bad : Bool} (c1 : (bad) = false) (h2 : LoopN lp 1 (Aj D6 0) (tl 0 47 [(0, P00), (4, .p (.int .u64 0)), (9, pI (if 10 < ((List.length (bs L) : Nat) : Int) then 10 else ((List.length (bs L) : Nat) : Int))), (10, pI 0)]) (aR1 L bad) (.exit 0, (tl 0 47 []), (aR1 L bad))) :
  Runs lp 76 [P00] (aR1 L bad) (.tup [.p (.int .u64 0), pI 0], (aR1 L bad)) :=
 have q1 : Runs lp 58 [P00] (aR1 L bad) (pI ((List.length (bs L) : Nat) : Int), (aR1 L bad)) := (Qg (bad := bad) c1)
 rO [(4, oC q1), (2, oL h2)] [_, _] (by kernel_rfl) ⟨q1, h2, trivial⟩
theorem V2 {L : BY} {bad : Bool} {i : Nat} {u m : Int} (c1 : (decide ((i : Int) < m)) = true) (h2 : (i : Nat) < List.length L) (c3 : ((i : Int) == 9) = true) (c4 : (decide (((List.getD (α := UInt8) L i 0).toNat : Int) > 1)) = true) :
  LoopN lp 1 (Aj D6 0) (tl 0 47 [(0, P00), (4, .p (.int .u64 u)), (9, pI m), (10, pI (i : Int))]) (aR1 L bad) (.ret, (tl 0 47 [(2, .p (.int .u64 0)), (3, pI 0)]), (aR1 L bad)) :=
 have q1 : OpE (aR1 L bad) (.indexAddr 1 (.const (pS L)) (.const (pI (i : Int)))) (.pin [.int .u8 ((List.getD (α := UInt8) L i 0).toNat : Int)] 0) := (B4 rfl rfl h2)
 lX [(1, .b true), (7, oO q1), (5, .b true), (1, .b true), (1, .b true), (1, .b true), (0, .b true)] [_, _, _, _, _, _, _] (by kernel_rfl) (by kernel_rfl) ⟨cI c1, q1, cI c3, cI c3, cI c3, cI c4, cI c4, trivial⟩
theorem Sd {L : BY} {bad : Bool} {i : Nat} {u m : Int} (c1 : (decide ((i : Int) < m)) = true) (h2 : (i : Nat) < List.length L) (c3 : ((i : Int) == 9) = true) (c4 : (decide (((List.getD (α := UInt8) L i 0).toNat : Int) > 1)) = false) (c5 : (decide ((i : Int) > 0)) = true) (c6 : (((List.getD (α := UInt8) L i 0).toNat : Int) == 0) = true) :
  LoopN lp 1 (Aj D6 0) (tl 0 47 [(0, P00), (4, .p (.int .u64 u)), (9, pI m), (10, pI (i : Int))]) (aR1 L bad) (.ret, (tl 0 47 [(2, .p (.int .u64 0)), (3, pI 0)]), (aR1 L bad)) :=
 have q1 : OpE (aR1 L bad) (.indexAddr 1 (.const (pS L)) (.const (pI (i : Int)))) (.pin [.int .u8 ((List.getD (α := UInt8) L i 0).toNat : Int)] 0) := (B4 rfl rfl h2)
 lX [(1, .b true), (7, oO q1), (5, .b true), (1, .b true), (1, .b true), (1, .b false), (3, .b true), (1, .b true), (1, .b true), (1, .b true)] [_, _, _, _, _, _, _, _, _, _] (by kernel_rfl) (by kernel_rfl) ⟨cI c1, q1, cI c3, cI c3, cI c3, cI c4, cI c5, cI c5, cI c5, cI c6, trivial⟩
theorem Qh {L : BY} {bad : Bool} {i : Nat} {u m : Int} (c1 : (decide ((i : Int) < m)) = true) (h2 : (i : Nat) < List.length L) (c3 : ((i : Int) == 9) = true) (c4 : (decide (((List.getD (α := UInt8) L i 0).toNat : Int) > 1)) = false) (c5 : (decide ((i : Int) > 0)) = true) (c6 : (((List.getD (α := UInt8) L i 0).toNat : Int) == 0) = false) (h7 : 0 ≤ IntKind.wrap .i64 (7 * (i : Int))) (c8 : (decide (((List.getD (α := UInt8) L i 0).toNat : Int) < 128)) = true) :
  LoopN lp 1 (Aj D6 0) (tl 0 47 [(0, P00), (4, .p (.int .u64 u)), (9, pI m), (10, pI (i : Int))]) (aR1 L bad) (.ret, (tl 0 47 [(2, .p (.int .u64 (IntKind.wrap .u64 ↑(BitVec.ofInt (IntKind.bits .u64) u ||| BitVec.ofInt (IntKind.bits .u64) (IntKind.wrap .u64 ((IntKind.wrap .u64 (IntKind.wrap .u8 ↑(BitVec.ofInt (IntKind.bits .u8) ((List.getD (α := UInt8) L i 0).toNat : Int) &&& BitVec.ofInt (IntKind.bits .u8) 127).toNat)) * 2 ^ min (Int.toNat (IntKind.wrap .i64 (7 * (i : Int)))) (IntKind.bits .u64)))).toNat))), (3, pI (IntKind.wrap .i64 ((i : Int) + 1)))]), (aR1 L bad)) :=
 have q1 : OpE (aR1 L bad) (.indexAddr 1 (.const (pS L)) (.const (pI (i : Int)))) (.pin [.int .u8 ((List.getD (α := UInt8) L i 0).toNat : Int)] 0) := (B4 rfl rfl h2)
 have q2 : OpE (aR1 L bad) (.bin .shl (.const (.p (.int .u64 (IntKind.wrap .u64 (IntKind.wrap .u8 ↑(BitVec.ofInt (IntKind.bits .u8) ((List.getD (α := UInt8) L i 0).toNat : Int) &&& BitVec.ofInt (IntKind.bits .u8) 127).toNat))))) (.const (pI (IntKind.wrap .i64 (7 * (i : Int)))))) (.p (.int .u64 (IntKind.wrap .u64 ((IntKind.wrap .u64 (IntKind.wrap .u8 ↑(BitVec.ofInt (IntKind.bits .u8) ((List.getD (α := UInt8) L i 0).toNat : Int) &&& BitVec.ofInt (IntKind.bits .u8) 127).toNat)) * 2 ^ min (Int.toNat (IntKind.wrap .i64 (7 * (i : Int)))) (IntKind.bits .u64))))) := (Hh h7)
 lX [(1, .b true), (7, oO q1), (5, .b true), (1, .b true), (1, .b true), (1, .b false), (3, .b true), (1, .b true), (1, .b true), (1, .b false), (6, oO q2), (4, .b true)] [_, _, _, _, _, _, _, _, _, _, _, _] (by kernel_rfl) (by kernel_rfl) ⟨cI c1, q1, cI c3, cI c3, cI c3, cI c4, cI c5, cI c5, cI c5, cI c6, q2, cI c8, trivial⟩
theorem T4 {L : BY} {bad : Bool} {i : Nat} {u m : Int} (c1 : (decide ((i : Int) < m)) = true) (h2 : (i : Nat) < List.length L) (c3 : ((i : Int) == 9) = false) (c4 : (decide ((i : Int) > 0)) = true) (c5 : (((List.getD (α := UInt8) L i 0).toNat : Int) == 0) = true) :
  LoopN lp 1 (Aj D6 0) (tl 0 47 [(0, P00), (4, .p (.int .u64 u)), (9, pI m), (10, pI (i : Int))]) (aR1 L bad) (.ret, (tl 0 47 [(2, .p (.int .u64 0)), (3, pI 0)]), (aR1 L bad)) :=
 have q1 : OpE (aR1 L bad) (.indexAddr 1 (.const (pS L)) (.const (pI (i : Int)))) (.pin [.int .u8 ((List.getD (α := UInt8) L i 0).toNat : Int)] 0) := (B4 rfl rfl h2)
 lX [(1, .b true), (7, oO q1), (5, .b false), (0, .b false), (0, .b false), (5, .b true), (1, .b true), (1, .b true), (1, .b true)] [_, _, _, _, _, _, _, _, _] (by kernel_rfl) (by kernel_rfl) ⟨cI c1, q1, cI c3, cI c3, cI c3, cI c4, cI c4, cI c4, cI c5, trivial⟩
theorem Se {L : BY} {bad : Bool} {i : Nat} {u m : Int} (c1 : (decide ((i : Int) < m)) = true) (h2 : (i : Nat) < List.length L) (c3 : ((i : Int) == 9) = false) (c4 : (decide ((i : Int) > 0)) = true) (c5 : (((List.getD (α := UInt8) L i 0).toNat : Int) == 0) = false) (h6 : 0 ≤ IntKind.wrap .i64 (7 * (i : Int))) (c7 : (decide (((List.getD (α := UInt8) L i 0).toNat : Int) < 128)) = true) :
  LoopN lp 1 (Aj D6 0) (tl 0 47 [(0, P00), (4, .p (.int .u64 u)), (9, pI m), (10, pI (i : Int))]) (aR1 L bad) (.ret, (tl 0 47 [(2, .p (.int .u64 (IntKind.wrap .u64 ↑(BitVec.ofInt (IntKind.bits .u64) u ||| BitVec.ofInt (IntKind.bits .u64) (IntKind.wrap .u64 ((IntKind.wrap .u64 (IntKind.wrap .u8 ↑(BitVec.ofInt (IntKind.bits .u8) ((List.getD (α := UInt8) L i 0).toNat : Int) &&& BitVec.ofInt (IntKind.bits .u8) 127).toNat)) * 2 ^ min (Int.toNat (IntKind.wrap .i64 (7 * (i : Int)))) (IntKind.bits .u64)))).toNat))), (3, pI (IntKind.wrap .i64 ((i : Int) + 1)))]), (aR1 L bad)) :=
 have q1 : OpE (aR1 L bad) (.indexAddr 1 (.const (pS L)) (.const (pI (i : Int)))) (.pin [.int .u8 ((List.getD (α := UInt8) L i 0).toNat : Int)] 0) := (B4 rfl rfl h2)
 have q2 : OpE (aR1 L bad) (.bin .shl (.const (.p (.int .u64 (IntKind.wrap .u64 (IntKind.wrap .u8 ↑(BitVec.ofInt (IntKind.bits .u8) ((List.getD (α := UInt8) L i 0).toNat : Int) &&& BitVec.ofInt (IntKind.bits .u8) 127).toNat))))) (.const (pI (IntKind.wrap .i64 (7 * (i : Int)))))) (.p (.int .u64 (IntKind.wrap .u64 ((IntKind.wrap .u64 (IntKind.wrap .u8 ↑(BitVec.ofInt (IntKind.bits .u8) ((List.getD (α := UInt8) L i 0).toNat : Int) &&& BitVec.ofInt (IntKind.bits .u8) 127).toNat)) * 2 ^ min (Int.toNat (IntKind.wrap .i64 (7 * (i : Int)))) (IntKind.bits .u64))))) := (Hh h6)
 lX [(1, .b true), (7, oO q1), (5, .b false), (0, .b false), (0, .b false), (5, .b true), (1, .b true), (1, .b true), (1, .b false), (6, oO q2), (4, .b true)] [_, _, _, _, _, _, _, _, _, _, _] (by kernel_rfl) (by kernel_rfl) ⟨cI c1, q1, cI c3, cI c3, cI c3, cI c4, cI c4, cI c4, cI c5, q2, cI c7, trivial⟩
theorem Sf {L : BY} {bad : Bool} {i : Nat} {u m : Int} (c1 : (decide ((i : Int) < m)) = true) (h2 : (i : Nat) < List.length L) (c3 : ((i : Int) == 9) = false) (c4 : (decide ((i : Int) > 0)) = true) (c5 : (((List.getD (α := UInt8) L i 0).toNat : Int) == 0) = false) (h6 : 0 ≤ IntKind.wrap .i64 (7 * (i : Int))) (c7 : (decide (((List.getD (α := UInt8) L i 0).toNat : Int) < 128)) = false) {r : RL} (hr : LoopN lp 1 (Aj D6 0) (tl 0 47 [(0, P00), (4, .p (.int .u64 (IntKind.wrap .u64 ↑(BitVec.ofInt (IntKind.bits .u64) u ||| BitVec.ofInt (IntKind.bits .u64) (IntKind.wrap .u64 ((IntKind.wrap .u64 (IntKind.wrap .u8 ↑(BitVec.ofInt (IntKind.bits .u8) ((List.getD (α := UInt8) L i 0).toNat : Int) &&& BitVec.ofInt (IntKind.bits .u8) 127).toNat)) * 2 ^ min (Int.toNat (IntKind.wrap .i64 (7 * (i : Int)))) (IntKind.bits .u64)))).toNat))), (9, pI m), (10, pI (IntKind.wrap .i64 ((i : Int) + 1)))]) (aR1 L bad) r) :
  LoopN lp 1 (Aj D6 0) (tl 0 47 [(0, P00), (4, .p (.int .u64 u)), (9, pI m), (10, pI (i : Int))]) (aR1 L bad) r :=
 have q1 : OpE (aR1 L bad) (.indexAddr 1 (.const (pS L)) (.const (pI (i : Int)))) (.pin [.int .u8 ((List.getD (α := UInt8) L i 0).toNat : Int)] 0) := (B4 rfl rfl h2)
 have q2 : OpE (aR1 L bad) (.bin .shl (.const (.p (.int .u64 (IntKind.wrap .u64 (IntKind.wrap .u8 ↑(BitVec.ofInt (IntKind.bits .u8) ((List.getD (α := UInt8) L i 0).toNat : Int) &&& BitVec.ofInt (IntKind.bits .u8) 127).toNat))))) (.const (pI (IntKind.wrap .i64 (7 * (i : Int)))))) (.p (.int .u64 (IntKind.wrap .u64 ((IntKind.wrap .u64 (IntKind.wrap .u8 ↑(BitVec.ofInt (IntKind.bits .u8) ((List.getD (α := UInt8) L i 0).toNat : Int) &&& BitVec.ofInt (IntKind.bits .u8) 127).toNat)) * 2 ^ min (Int.toNat (IntKind.wrap .i64 (7 * (i : Int)))) (IntKind.bits .u64))))) := (Hh h6)
 lO [(1, .b true), (7, oO q1), (5, .b false), (0, .b false), (0, .b false), (5, .b true), (1, .b true), (1, .b true), (1, .b false), (6, oO q2), (4, .b false)] [_, _, _, _, _, _, _, _, _, _, _] (by kernel_rfl) ⟨cI c1, q1, cI c3, cI c3, cI c3, cI c4, cI c4, cI c4, cI c5, q2, cI c7, trivial⟩ hr
theorem T5 {L : BY} {bad : Bool} {i : Nat} {u m : Int} (c1 : (decide ((i : Int) < m)) = true) (h2 : (i : Nat) < List.length L) (c3 : ((i : Int) == 9) = false) (c4 : (decide ((i : Int) > 0)) = false) (h5 : 0 ≤ IntKind.wrap .i64 (7 * (i : Int))) (c6 : (decide (((List.getD (α := UInt8) L i 0).toNat : Int) < 128)) = true) :
  LoopN lp 1 (Aj D6 0) (tl 0 47 [(0, P00), (4, .p (.int .u64 u)), (9, pI m), (10, pI (i : Int))]) (aR1 L bad) (.ret, (tl 0 47 [(2, .p (.int .u64 (IntKind.wrap .u64 ↑(BitVec.ofInt (IntKind.bits .u64) u ||| BitVec.ofInt (IntKind.bits .u64) (IntKind.wrap .u64 ((IntKind.wrap .u64 (IntKind.wrap .u8 ↑(BitVec.ofInt (IntKind.bits .u8) ((List.getD (α := UInt8) L i 0).toNat : Int) &&& BitVec.ofInt (IntKind.bits .u8) 127).toNat)) * 2 ^ min (Int.toNat (IntKind.wrap .i64 (7 * (i : Int)))) (IntKind.bits .u64)))).toNat))), (3, pI (IntKind.wrap .i64 ((i : Int) + 1)))]), (aR1 L bad)) :=
 have q1 : OpE (aR1 L bad) (.indexAddr 1 (.const (pS L)) (.const (pI (i : Int)))) (.pin [.int .u8 ((List.getD (α := UInt8) L i 0).toNat : Int)] 0) := (B4 rfl rfl h2)
 have q2 : OpE (aR1 L bad) (.bin .shl (.const (.p (.int .u64 (IntKind.wrap .u64 (IntKind.wrap .u8 ↑(BitVec.ofInt (IntKind.bits .u8) ((List.getD (α := UInt8) L i 0).toNat : Int) &&& BitVec.ofInt (IntKind.bits .u8) 127).toNat))))) (.const (pI (IntKind.wrap .i64 (7 * (i : Int)))))) (.p (.int .u64 (IntKind.wrap .u64 ((IntKind.wrap .u64 (IntKind.wrap .u8 ↑(BitVec.ofInt (IntKind.bits .u8) ((List.getD (α := UInt8) L i 0).toNat : Int) &&& BitVec.ofInt (IntKind.bits .u8) 127).toNat)) * 2 ^ min (Int.toNat (IntKind.wrap .i64 (7 * (i : Int)))) (IntKind.bits .u64))))) := (Hh h5)
 lX [(1, .b true), (7, oO q1), (5, .b false), (0, .b false), (0, .b false), (5, .b false), (0, .b false), (0, .b false), (8, oO q2), (4, .b true)] [_, _, _, _, _, _, _, _, _, _] (by kernel_rfl) (by kernel_rfl) ⟨cI c1, q1, cI c3, cI c3, cI c3, cI c4, cI c4, cI c4, q2, cI c6, trivial⟩
theorem T6 {L : BY} {bad : Bool} {i : Nat} {u m : Int} (c1 : (decide ((i : Int) < m)) = true) (h2 : (i : Nat) < List.length L) (c3 : ((i : Int) == 9) = false) (c4 : (decide ((i : Int) > 0)) = false) (h5 : 0 ≤ IntKind.wrap .i64 (7 * (i : Int))) (c6 : (decide (((List.getD (α := UInt8) L i 0).toNat : Int) < 128)) = false) {r : RL} (hr : LoopN lp 1 (Aj D6 0) (tl 0 47 [(0, P00), (4, .p (.int .u64 (IntKind.wrap .u64 ↑(BitVec.ofInt (IntKind.bits .u64) u ||| BitVec.ofInt (IntKind.bits .u64) (IntKind.wrap .u64 ((IntKind.wrap .u64 (IntKind.wrap .u8 ↑(BitVec.ofInt (IntKind.bits .u8) ((List.getD (α := UInt8) L i 0).toNat : Int) &&& BitVec.ofInt (IntKind.bits .u8) 127).toNat)) * 2 ^ min (Int.toNat (IntKind.wrap .i64 (7 * (i : Int)))) (IntKind.bits .u64)))).toNat))), (9, pI m), (10, pI (IntKind.wrap .i64 ((i : Int) + 1)))]) (aR1 L bad) r) :
  LoopN lp 1 (Aj D6 0) (tl 0 47 [(0, P00), (4, .p (.int .u64 u)), (9, pI m), (10, pI (i : Int))]) (aR1 L bad) r :=
 have q1 : OpE (aR1 L bad) (.indexAddr 1 (.const (pS L)) (.const (pI (i : Int)))) (.pin [.int .u8 ((List.getD (α := UInt8) L i 0).toNat : Int)] 0) := (B4 rfl rfl h2)
 have q2 : OpE (aR1 L bad) (.bin .shl (.const (.p (.int .u64 (IntKind.wrap .u64 (IntKind.wrap .u8 ↑(BitVec.ofInt (IntKind.bits .u8) ((List.getD (α := UInt8) L i 0).toNat : Int) &&& BitVec.ofInt (IntKind.bits .u8) 127).toNat))))) (.const (pI (IntKind.wrap .i64 (7 * (i : Int)))))) (.p (.int .u64 (IntKind.wrap .u64 ((IntKind.wrap .u64 (IntKind.wrap .u8 ↑(BitVec.ofInt (IntKind.bits .u8) ((List.getD (α := UInt8) L i 0).toNat : Int) &&& BitVec.ofInt (IntKind.bits .u8) 127).toNat)) * 2 ^ min (Int.toNat (IntKind.wrap .i64 (7 * (i : Int)))) (IntKind.bits .u64))))) := (Hh h5)
 lO [(1, .b true), (7, oO q1), (5, .b false), (0, .b false), (0, .b false), (5, .b false), (0, .b false), (0, .b false), (8, oO q2), (4, .b false)] [_, _, _, _, _, _, _, _, _, _] (by kernel_rfl) ⟨cI c1, q1, cI c3, cI c3, cI c3, cI c4, cI c4, cI c4, q2, cI c6, trivial⟩ hr
theorem Qi {L : BY} {bad : Bool} {i : Nat} {u m : Int} (c1 : (decide ((i : Int) < m)) = false) :
  LoopN lp 1 (Aj D6 0) (tl 0 47 [(0, P00), (4, .p (.int .u64 u)), (9, pI m), (10, pI (i : Int))]) (aR1 L bad) (.exit 0, (tl 0 47 []), (aR1 L bad)) :=
 lX [(1, .b false)] [_] (by kernel_rfl) (by kernel_rfl) ⟨cI c1, trivial⟩
end Go.Proofs.Ythmjaeflpgcmdaa
