import Derived.Test.YtegboccilfofmaaGreatLsAb
import Derived.Test.YtegboccilfofmaaGreatLsCodes2
set_option linter.unusedVariables false
set_option maxRecDepth 100000
namespace Go.Proofs.YtegboccilfofmaaGreat
open Go Go.LS
theorem Sv {L : BY} {bad : Bool}  :
  Runs lp 15 [P00] (aR9 L bad) (pB bad, (aR9 L bad)) :=
 rO [] [] (by kernel_rfl) trivial
theorem Eg {L : BY} {bad : Bool}  :
  Runs lp 40 [P00] (aR9 L bad) (.tup [], (Be L)) :=
 rO [] [] (by kernel_rfl) trivial
theorem Lt {L : BY} {bad : Bool} (c1 : (bad) = true) :
  Runs lp 16 [P00] (aR9 L bad) (pI 0, (aR9 L bad)) :=
 have q1 : Runs lp 15 [P00] (aR9 L bad) (pB bad, (aR9 L bad)) := (Sv (bad := bad) )
 rO [(2, oC q1), (0, .b true)] [_, _] (by kernel_rfl) ⟨q1, cI c1, trivial⟩
theorem Fe {L : BY} {bad : Bool} (c1 : (bad) = false) :
  Runs lp 16 [P00] (aR9 L bad) (pI ((List.length (bs L) : Nat) : Int), (aR9 L bad)) :=
 have q1 : Runs lp 15 [P00] (aR9 L bad) (pB bad, (aR9 L bad)) := (Sv (bad := bad) )
 rO [(2, oC q1), (0, .b false)] [_, _] (by kernel_rfl) ⟨q1, cI c1, trivial⟩
theorem vleft {L : BY} {bad : Bool}  :
  Runs lp 16 [P00] (aR9 L bad) (if (bad) = true then ((pI 0, (aR9 L bad))) else ((pI ((List.length (bs L) : Nat) : Int), (aR9 L bad)))) := by
 by_cases k1 : (bad) = true
 ·refine Ak k1 ?_
  exact Lt (L := L) (bad := bad) k1
 ·refine Al k1 ?_
  replace k1 := Bool.eq_false_iff.2 k1
  exact Fe (L := L) (bad := bad) k1
theorem vbyte_y {L : BY} {bad : Bool} (c1 : (bad) = true) :
  Runs lp 36 [P00] (aR9 L bad) (pI 0, (Be L)) :=
 have q1 : Runs lp 16 [P00] (aR9 L bad) (pI 0, (aR9 L bad)) := (Lt (bad := bad) c1)
 have q2 : Runs lp 40 [P00] (aR9 L bad) (.tup [], (Be L)) := (Eg (bad := bad) )
 rO [(2, oC q1), (3, oC q2)] [_, _] (by kernel_rfl) ⟨q1, q2, trivial⟩
theorem Y3 {L : BY} {bad : Bool} (c1 : (bad) = false) (c2 : (((List.length (bs L) : Nat) : Int) == 0) = true) :
  Runs lp 36 [P00] (aR9 L bad) (pI 0, (Be L)) :=
 have q1 : Runs lp 16 [P00] (aR9 L bad) (pI ((List.length (bs L) : Nat) : Int), (aR9 L bad)) := (Fe (bad := bad) c1)
 have q2 : Runs lp 40 [P00] (aR9 L bad) (.tup [], (Be L)) := (Eg (bad := bad) )
 rO [(2, oC q1), (1, .b true), (1, oC q2)] [_, _, _] (by kernel_rfl) ⟨q1, cI c2, q2, trivial⟩
theorem Y4 {L : BY} {bad : Bool} (c1 : (bad) = false) (c2 : (((List.length (bs L) : Nat) : Int) == 0) = false) (h3 : (0 : Nat) < List.length L) (h4 : 0 ≤ (1 : Int)) (h5 : (1 : Int) ≤ (List.length L : Int)) :
  Runs lp 36 [P00] (aR9 L bad) (pI (IntKind.wrap .i64 ((List.getD (α := UInt8) L 0 0).toNat : Int)), [.row [[pS (List.drop (Int.toNat (1 : Int)) L), pB bad]]]) :=
 have q1 : Runs lp 16 [P00] (aR9 L bad) (pI ((List.length (bs L) : Nat) : Int), (aR9 L bad)) := (Fe (bad := bad) c1)
 have q2 : OpE (aR9 L bad) (.indexAddr 1 (.const (pS L)) (.const (pI 0))) (.pin [.int .u8 ((List.getD (α := UInt8) L 0 0).toNat : Int)] 0) := (A5 rfl rfl h3)
 have q3 : OpE (aR9 L bad) (.slice 1 (.const (pS L)) (some (.const (pI 1))) none none) (pS (List.drop (Int.toNat (1 : Int)) L)) := (Cd h4 h5)
 rO [(2, oC q1), (1, .b false), (4, oO q2), (7, oO q3)] [_, _, _, _] (by kernel_rfl) ⟨q1, cI c2, q2, q3, trivial⟩
theorem vbyte {L : BY} {bad : Bool} (w1 : (bad) = false → (((List.length (bs L) : Nat) : Int) == 0) = false → (0 : Nat) < List.length L) (w2 : (bad) = false → (((List.length (bs L) : Nat) : Int) == 0) = false → 0 ≤ (1 : Int)) (w3 : (bad) = false → (((List.length (bs L) : Nat) : Int) == 0) = false → (1 : Int) ≤ (List.length L : Int)) :
  Runs lp 36 [P00] (aR9 L bad) (if (bad) = true then ((pI 0, (Be L))) else (if (((List.length (bs L) : Nat) : Int) == 0) = true then ((pI 0, (Be L))) else ((pI (IntKind.wrap .i64 ((List.getD (α := UInt8) L 0 0).toNat : Int)), [.row [[pS (List.drop (Int.toNat (1 : Int)) L), pB bad]]])))) := by
 by_cases k1 : (bad) = true
 ·refine Ak k1 ?_
  exact vbyte_y (L := L) (bad := bad) k1
 ·refine Al k1 ?_
  replace k1 := Bool.eq_false_iff.2 k1
  by_cases k2 : (((List.length (bs L) : Nat) : Int) == 0) = true
  ·refine Ak k2 ?_
   exact Y3 (L := L) (bad := bad) k1 k2
  ·refine Al k2 ?_
   replace k2 := Bool.eq_false_iff.2 k2
   exact Y4 (L := L) (bad := bad) k1 k2 (w1 k1 k2) (w2 k1 k2) (w3 k1 k2)
theorem rleft_y {L : BY} {bad : Bool} (c1 : (bad) = true) :
  Runs lp 17 [P00] (aR9 L bad) (pI 0, (aR9 L bad)) :=
 rO [(5, .b true)] [_] (by kernel_rfl) ⟨cI c1, trivial⟩
theorem rleft_n {L : BY} {bad : Bool} (c1 : (bad) = false) :
  Runs lp 17 [P00] (aR9 L bad) (pI ((List.length (bs L) : Nat) : Int), (aR9 L bad)) :=
 rO [(5, .b false)] [_] (by kernel_rfl) ⟨cI c1, trivial⟩
theorem rleft {L : BY} {bad : Bool}  :
  Runs lp 17 [P00] (aR9 L bad) (if (bad) = true then ((pI 0, (aR9 L bad))) else ((pI ((List.length (bs L) : Nat) : Int), (aR9 L bad)))) := by
 by_cases k1 : (bad) = true
 ·refine Ak k1 ?_
  exact rleft_y (L := L) (bad := bad) k1
 ·refine Al k1 ?_
  replace k1 := Bool.eq_false_iff.2 k1
  exact rleft_n (L := L) (bad := bad) k1
theorem rbyte_y {L : BY} {bad : Bool} (c1 : (bad) = true) :
  Runs lp 41 [P00] (aR9 L bad) (pI 0, (Be L)) :=
 rO [(6, .b true), (0, .b true), (0, .b true), (0, .b true), (0, .b true), (0, .b true), (0, .b true)] [_, _, _, _, _, _, _] (by kernel_rfl) ⟨cI c1, cI c1, cI c1, cI c1, cI c1, cI c1, cI c1, trivial⟩
theorem Y5 {L : BY} {bad : Bool} (c1 : (bad) = false) (c2 : (((List.length (bs L) : Nat) : Int) == 0) = true) :
  Runs lp 41 [P00] (aR9 L bad) (pI 0, (Be L)) :=
 rO [(6, .b false), (1, .b false), (1, .b false), (1, .b false), (1, .b false), (1, .b false), (1, .b false), (0, .b true)] [_, _, _, _, _, _, _, _] (by kernel_rfl) ⟨cI c1, cI c1, cI c1, cI c1, cI c1, cI c1, cI c1, cI c2, trivial⟩
theorem Y6 {L : BY} {bad : Bool} (c1 : (bad) = false) (c2 : (((List.length (bs L) : Nat) : Int) == 0) = false) (h3 : (0 : Nat) < List.length L) (h4 : 0 ≤ (1 : Int)) (h5 : (1 : Int) ≤ (List.length L : Int)) :
  Runs lp 41 [P00] (aR9 L bad) (pI (IntKind.wrap .i64 ((List.getD (α := UInt8) L 0 0).toNat : Int)), [.row [[pS (List.drop (Int.toNat (1 : Int)) L), pB bad]]]) :=
 have q1 : OpE (aR9 L bad) (.indexAddr 1 (.const (pS L)) (.const (pI 0))) (.pin [.int .u8 ((List.getD (α := UInt8) L 0 0).toNat : Int)] 0) := (A5 rfl rfl h3)
 have q2 : OpE (aR9 L bad) (.slice 1 (.const (pS L)) (some (.const (pI 1))) none none) (pS (List.drop (Int.toNat (1 : Int)) L)) := (Cd h4 h5)
 rO [(6, .b false), (1, .b false), (1, .b false), (1, .b false), (1, .b false), (1, .b false), (1, .b false), (0, .b false), (4, oO q1), (8, oO q2)] [_, _, _, _, _, _, _, _, _, _] (by kernel_rfl) ⟨cI c1, cI c1, cI c1, cI c1, cI c1, cI c1, cI c1, cI c2, q1, q2, trivial⟩
theorem rbyte {L : BY} {bad : Bool} (w1 : (bad) = false → (((List.length (bs L) : Nat) : Int) == 0) = false → (0 : Nat) < List.length L) (w2 : (bad) = false → (((List.length (bs L) : Nat) : Int) == 0) = false → 0 ≤ (1 : Int)) (w3 : (bad) = false → (((List.length (bs L) : Nat) : Int) == 0) = false → (1 : Int) ≤ (List.length L : Int)) :
  Runs lp 41 [P00] (aR9 L bad) (if (bad) = true then ((pI 0, (Be L))) else (if (((List.length (bs L) : Nat) : Int) == 0) = true then ((pI 0, (Be L))) else ((pI (IntKind.wrap .i64 ((List.getD (α := UInt8) L 0 0).toNat : Int)), [.row [[pS (List.drop (Int.toNat (1 : Int)) L), pB bad]]])))) := by
 by_cases k1 : (bad) = true
 ·refine Ak k1 ?_
  exact rbyte_y (L := L) (bad := bad) k1
 ·refine Al k1 ?_
  replace k1 := Bool.eq_false_iff.2 k1
  by_cases k2 : (((List.length (bs L) : Nat) : Int) == 0) = true
  ·refine Ak k2 ?_
   exact Y5 (L := L) (bad := bad) k1 k2
  ·refine Al k2 ?_
   replace k2 := Bool.eq_false_iff.2 k2
   exact Y6 (L := L) (bad := bad) k1 k2 (w1 k1 k2) (w2 k1 k2) (w3 k1 k2)
theorem T9 {L : BY}  :
  Runs lp 10 [pS L] [] (P00, (aR8 L)) :=
 rO [] [] (by kernel_rfl) trivial
theorem Sw {L : BY} {bad : Bool} {a b : Int} (c1 : (bad) = false) (h2 : LoopN lp 1 (Ac Ee 0) (tl 0 47 [(0, P00), (4, .p (.int .u64 0)), (9, pI (if 10 < ((List.length (bs L) : Nat) : Int) then 10 else ((List.length (bs L) : Nat) : Int))), (10, pI 0)]) (aR9 L bad) (.ret, (tl 0 47 [(2, .p (.int .u64 a)), (3, pI b)]), (aR9 L bad))) :
  Runs lp 67 [P00] (aR9 L bad) (.tup [.p (.int .u64 a), pI b], (aR9 L bad)) :=
 have q1 : Runs lp 16 [P00] (aR9 L bad) (pI ((List.length (bs L) : Nat) : Int), (aR9 L bad)) := (Fe (bad := bad) c1)
 rO [(4, oC q1), (2, oL h2)] [_, _] (by kernel_rfl) ⟨q1, h2, trivial⟩
theorem Q5 {L : BY} {bad : Bool} (c1 : (bad) = true) (h2 : LoopN lp 1 (Ac Ee 0) (tl 0 47 [(0, P00), (4, .p (.int .u64 0)), (9, pI 0), (10, pI 0)]) (aR9 L bad) (.exit 0, (tl 0 47 []), (aR9 L bad))) :
  Runs lp 67 [P00] (aR9 L bad) (.tup [.p (.int .u64 0), pI 0], (aR9 L bad)) :=
 have q1 : Runs lp 16 [P00] (aR9 L bad) (pI 0, (aR9 L bad)) := (Lt (bad := bad) c1)
 rO [(4, oC q1), (2, oL h2)] [_, _] (by kernel_rfl) ⟨q1, h2, trivial⟩
theorem Q6 {L : BY} {bad : Bool} (c1 : (bad) = false) (h2 : LoopN lp 1 (Ac Ee 0) (tl 0 47 [(0, P00), (4, .p (.int .u64 0)), (9, pI (if 10 < ((List.length (bs L) : Nat) : Int) then 10 else ((List.length (bs L) : Nat) : Int))), (10, pI 0)]) (aR9 L bad) (.exit 0, (tl 0 47 []), (aR9 L bad))) :
  Runs lp 67 [P00] (aR9 L bad) (.tup [.p (.int .u64 0), pI 0], (aR9 L bad)) :=
 have q1 : Runs lp 16 [P00] (aR9 L bad) (pI ((List.length (bs L) : Nat) : Int), (aR9 L bad)) := (Fe (bad := bad) c1)
 rO [(4, oC q1), (2, oL h2)] [_, _] (by kernel_rfl) ⟨q1, h2, trivial⟩
theorem Vd {L : BY} {bad : Bool} {i : Nat} {u m : Int} (c1 : (decide ((i : Int) < m)) = true) (h2 : (i : Nat) < List.length L) (c3 : ((i : Int) == 9) = true) (c4 : (decide (((List.getD (α := UInt8) L i 0).toNat : Int) > 1)) = true) :
  LoopN lp 1 (Ac Ee 0) (tl 0 47 [(0, P00), (4, .p (.int .u64 u)), (9, pI m), (10, pI (i : Int))]) (aR9 L bad) (.ret, (tl 0 47 [(2, .p (.int .u64 0)), (3, pI 0)]), (aR9 L bad)) :=
 have q1 : OpE (aR9 L bad) (.indexAddr 1 (.const (pS L)) (.const (pI (i : Int)))) (.pin [.int .u8 ((List.getD (α := UInt8) L i 0).toNat : Int)] 0) := (A5 rfl rfl h2)
 lX [(1, .b true), (7, oO q1), (5, .b true), (1, .b true), (1, .b true), (1, .b true), (0, .b true)] [_, _, _, _, _, _, _] (by kernel_rfl) (by kernel_rfl) ⟨cI c1, q1, cI c3, cI c3, cI c3, cI c4, cI c4, trivial⟩
theorem Q7 {L : BY} {bad : Bool} {i : Nat} {u m : Int} (c1 : (decide ((i : Int) < m)) = true) (h2 : (i : Nat) < List.length L) (c3 : ((i : Int) == 9) = true) (c4 : (decide (((List.getD (α := UInt8) L i 0).toNat : Int) > 1)) = false) (c5 : (decide ((i : Int) > 0)) = true) (c6 : (((List.getD (α := UInt8) L i 0).toNat : Int) == 0) = true) :
  LoopN lp 1 (Ac Ee 0) (tl 0 47 [(0, P00), (4, .p (.int .u64 u)), (9, pI m), (10, pI (i : Int))]) (aR9 L bad) (.ret, (tl 0 47 [(2, .p (.int .u64 0)), (3, pI 0)]), (aR9 L bad)) :=
 have q1 : OpE (aR9 L bad) (.indexAddr 1 (.const (pS L)) (.const (pI (i : Int)))) (.pin [.int .u8 ((List.getD (α := UInt8) L i 0).toNat : Int)] 0) := (A5 rfl rfl h2)
 lX [(1, .b true), (7, oO q1), (5, .b true), (1, .b true), (1, .b true), (1, .b false), (3, .b true), (1, .b true), (1, .b true), (1, .b true)] [_, _, _, _, _, _, _, _, _, _] (by kernel_rfl) (by kernel_rfl) ⟨cI c1, q1, cI c3, cI c3, cI c3, cI c4, cI c5, cI c5, cI c5, cI c6, trivial⟩
theorem Pc {L : BY} {bad : Bool} {i : Nat} {u m : Int} (c1 : (decide ((i : Int) < m)) = true) (h2 : (i : Nat) < List.length L) (c3 : ((i : Int) == 9) = true) (c4 : (decide (((List.getD (α := UInt8) L i 0).toNat : Int) > 1)) = false) (c5 : (decide ((i : Int) > 0)) = true) (c6 : (((List.getD (α := UInt8) L i 0).toNat : Int) == 0) = false) (h7 : 0 ≤ IntKind.wrap .i64 (7 * (i : Int))) (c8 : (decide (((List.getD (α := UInt8) L i 0).toNat : Int) < 128)) = true) :
  LoopN lp 1 (Ac Ee 0) (tl 0 47 [(0, P00), (4, .p (.int .u64 u)), (9, pI m), (10, pI (i : Int))]) (aR9 L bad) (.ret, (tl 0 47 [(2, .p (.int .u64 (IntKind.wrap .u64 ↑(BitVec.ofInt (IntKind.bits .u64) u ||| BitVec.ofInt (IntKind.bits .u64) (IntKind.wrap .u64 ((IntKind.wrap .u64 (IntKind.wrap .u8 ↑(BitVec.ofInt (IntKind.bits .u8) ((List.getD (α := UInt8) L i 0).toNat : Int) &&& BitVec.ofInt (IntKind.bits .u8) 127).toNat)) * 2 ^ min (Int.toNat (IntKind.wrap .i64 (7 * (i : Int)))) (IntKind.bits .u64)))).toNat))), (3, pI (IntKind.wrap .i64 ((i : Int) + 1)))]), (aR9 L bad)) :=
 have q1 : OpE (aR9 L bad) (.indexAddr 1 (.const (pS L)) (.const (pI (i : Int)))) (.pin [.int .u8 ((List.getD (α := UInt8) L i 0).toNat : Int)] 0) := (A5 rfl rfl h2)
 have q2 : OpE (aR9 L bad) (.bin .shl (.const (.p (.int .u64 (IntKind.wrap .u64 (IntKind.wrap .u8 ↑(BitVec.ofInt (IntKind.bits .u8) ((List.getD (α := UInt8) L i 0).toNat : Int) &&& BitVec.ofInt (IntKind.bits .u8) 127).toNat))))) (.const (pI (IntKind.wrap .i64 (7 * (i : Int)))))) (.p (.int .u64 (IntKind.wrap .u64 ((IntKind.wrap .u64 (IntKind.wrap .u8 ↑(BitVec.ofInt (IntKind.bits .u8) ((List.getD (α := UInt8) L i 0).toNat : Int) &&& BitVec.ofInt (IntKind.bits .u8) 127).toNat)) * 2 ^ min (Int.toNat (IntKind.wrap .i64 (7 * (i : Int)))) (IntKind.bits .u64))))) := (C9 h7)
 lX [(1, .b true), (7, oO q1), (5, .b true), (1, .b true), (1, .b true), (1, .b false), (3, .b true), (1, .b true), (1, .b true), (1, .b false), (6, oO q2), (4, .b true)] [_, _, _, _, _, _, _, _, _, _, _, _] (by kernel_rfl) (by kernel_rfl) ⟨cI c1, q1, cI c3, cI c3, cI c3, cI c4, cI c5, cI c5, cI c5, cI c6, q2, cI c8, trivial⟩
theorem Sx {L : BY} {bad : Bool} {i : Nat} {u m : Int} (c1 : (decide ((i : Int) < m)) = true) (h2 : (i : Nat) < List.length L) (c3 : ((i : Int) == 9) = false) (c4 : (decide ((i : Int) > 0)) = true) (c5 : (((List.getD (α := UInt8) L i 0).toNat : Int) == 0) = true) :
  LoopN lp 1 (Ac Ee 0) (tl 0 47 [(0, P00), (4, .p (.int .u64 u)), (9, pI m), (10, pI (i : Int))]) (aR9 L bad) (.ret, (tl 0 47 [(2, .p (.int .u64 0)), (3, pI 0)]), (aR9 L bad)) :=
 have q1 : OpE (aR9 L bad) (.indexAddr 1 (.const (pS L)) (.const (pI (i : Int)))) (.pin [.int .u8 ((List.getD (α := UInt8) L i 0).toNat : Int)] 0) := (A5 rfl rfl h2)
 lX [(1, .b true), (7, oO q1), (5, .b false), (0, .b false), (0, .b false), (5, .b true), (1, .b true), (1, .b true), (1, .b true)] [_, _, _, _, _, _, _, _, _] (by kernel_rfl) (by kernel_rfl) ⟨cI c1, q1, cI c3, cI c3, cI c3, cI c4, cI c4, cI c4, cI c5, trivial⟩
theorem Q8 {L : BY} {bad : Bool} {i : Nat} {u m : Int} (c1 : (decide ((i : Int) < m)) = true) (h2 : (i : Nat) < List.length L) (c3 : ((i : Int) == 9) = false) (c4 : (decide ((i : Int) > 0)) = true) (c5 : (((List.getD (α := UInt8) L i 0).toNat : Int) == 0) = false) (h6 : 0 ≤ IntKind.wrap .i64 (7 * (i : Int))) (c7 : (decide (((List.getD (α := UInt8) L i 0).toNat : Int) < 128)) = true) :
  LoopN lp 1 (Ac Ee 0) (tl 0 47 [(0, P00), (4, .p (.int .u64 u)), (9, pI m), (10, pI (i : Int))]) (aR9 L bad) (.ret, (tl 0 47 [(2, .p (.int .u64 (IntKind.wrap .u64 ↑(BitVec.ofInt (IntKind.bits .u64) u ||| BitVec.ofInt (IntKind.bits .u64) (IntKind.wrap .u64 ((IntKind.wrap .u64 (IntKind.wrap .u8 ↑(BitVec.ofInt (IntKind.bits .u8) ((List.getD (α := UInt8) L i 0).toNat : Int) &&& BitVec.ofInt (IntKind.bits .u8) 127).toNat)) * 2 ^ min (Int.toNat (IntKind.wrap .i64 (7 * (i : Int)))) (IntKind.bits .u64)))).toNat))), (3, pI (IntKind.wrap .i64 ((i : Int) + 1)))]), (aR9 L bad)) :=
 have q1 : OpE (aR9 L bad) (.indexAddr 1 (.const (pS L)) (.const (pI (i : Int)))) (.pin [.int .u8 ((List.getD (α := UInt8) L i 0).toNat : Int)] 0) := (A5 rfl rfl h2)
 have q2 : OpE (aR9 L bad) (.bin .shl (.const (.p (.int .u64 (IntKind.wrap .u64 (IntKind.wrap .u8 ↑(BitVec.ofInt (IntKind.bits .u8) ((List.getD (α := UInt8) L i 0).toNat : Int) &&& BitVec.ofInt (IntKind.bits .u8) 127).toNat))))) (.const (pI (IntKind.wrap .i64 (7 * (i : Int)))))) (.p (.int .u64 (IntKind.wrap .u64 ((IntKind.wrap .u64 (IntKind.wrap .u8 ↑(BitVec.ofInt (IntKind.bits .u8) ((List.getD (α := UInt8) L i 0).toNat : Int) &&& BitVec.ofInt (IntKind.bits .u8) 127).toNat)) * 2 ^ min (Int.toNat (IntKind.wrap .i64 (7 * (i : Int)))) (IntKind.bits .u64))))) := (C9 h6)
 lX [(1, .b true), (7, oO q1), (5, .b false), (0, .b false), (0, .b false), (5, .b true), (1, .b true), (1, .b true), (1, .b false), (6, oO q2), (4, .b true)] [_, _, _, _, _, _, _, _, _, _, _] (by kernel_rfl) (by kernel_rfl) ⟨cI c1, q1, cI c3, cI c3, cI c3, cI c4, cI c4, cI c4, cI c5, q2, cI c7, trivial⟩
theorem Q9 {L : BY} {bad : Bool} {i : Nat} {u m : Int} (c1 : (decide ((i : Int) < m)) = true) (h2 : (i : Nat) < List.length L) (c3 : ((i : Int) == 9) = false) (c4 : (decide ((i : Int) > 0)) = true) (c5 : (((List.getD (α := UInt8) L i 0).toNat : Int) == 0) = false) (h6 : 0 ≤ IntKind.wrap .i64 (7 * (i : Int))) (c7 : (decide (((List.getD (α := UInt8) L i 0).toNat : Int) < 128)) = false) {r : RL} (hr : LoopN lp 1 (Ac Ee 0) (tl 0 47 [(0, P00), (4, .p (.int .u64 (IntKind.wrap .u64 ↑(BitVec.ofInt (IntKind.bits .u64) u ||| BitVec.ofInt (IntKind.bits .u64) (IntKind.wrap .u64 ((IntKind.wrap .u64 (IntKind.wrap .u8 ↑(BitVec.ofInt (IntKind.bits .u8) ((List.getD (α := UInt8) L i 0).toNat : Int) &&& BitVec.ofInt (IntKind.bits .u8) 127).toNat)) * 2 ^ min (Int.toNat (IntKind.wrap .i64 (7 * (i : Int)))) (IntKind.bits .u64)))).toNat))), (9, pI m), (10, pI (IntKind.wrap .i64 ((i : Int) + 1)))]) (aR9 L bad) r) :
  LoopN lp 1 (Ac Ee 0) (tl 0 47 [(0, P00), (4, .p (.int .u64 u)), (9, pI m), (10, pI (i : Int))]) (aR9 L bad) r :=
 have q1 : OpE (aR9 L bad) (.indexAddr 1 (.const (pS L)) (.const (pI (i : Int)))) (.pin [.int .u8 ((List.getD (α := UInt8) L i 0).toNat : Int)] 0) := (A5 rfl rfl h2)
 have q2 : OpE (aR9 L bad) (.bin .shl (.const (.p (.int .u64 (IntKind.wrap .u64 (IntKind.wrap .u8 ↑(BitVec.ofInt (IntKind.bits .u8) ((List.getD (α := UInt8) L i 0).toNat : Int) &&& BitVec.ofInt (IntKind.bits .u8) 127).toNat))))) (.const (pI (IntKind.wrap .i64 (7 * (i : Int)))))) (.p (.int .u64 (IntKind.wrap .u64 ((IntKind.wrap .u64 (IntKind.wrap .u8 ↑(BitVec.ofInt (IntKind.bits .u8) ((List.getD (α := UInt8) L i 0).toNat : Int) &&& BitVec.ofInt (IntKind.bits .u8) 127).toNat)) * 2 ^ min (Int.toNat (IntKind.wrap .i64 (7 * (i : Int)))) (IntKind.bits .u64))))) := (C9 h6)
 lO [(1, .b true), (7, oO q1), (5, .b false), (0, .b false), (0, .b false), (5, .b true), (1, .b true), (1, .b true), (1, .b false), (6, oO q2), (4, .b false)] [_, _, _, _, _, _, _, _, _, _, _] (by kernel_rfl) ⟨cI c1, q1, cI c3, cI c3, cI c3, cI c4, cI c4, cI c4, cI c5, q2, cI c7, trivial⟩ hr
theorem Sy {L : BY} {bad : Bool} {i : Nat} {u m : Int} (c1 : (decide ((i : Int) < m)) = true) (h2 : (i : Nat) < List.length L) (c3 : ((i : Int) == 9) = false) (c4 : (decide ((i : Int) > 0)) = false) (h5 : 0 ≤ IntKind.wrap .i64 (7 * (i : Int))) (c6 : (decide (((List.getD (α := UInt8) L i 0).toNat : Int) < 128)) = true) :
  LoopN lp 1 (Ac Ee 0) (tl 0 47 [(0, P00), (4, .p (.int .u64 u)), (9, pI m), (10, pI (i : Int))]) (aR9 L bad) (.ret, (tl 0 47 [(2, .p (.int .u64 (IntKind.wrap .u64 ↑(BitVec.ofInt (IntKind.bits .u64) u ||| BitVec.ofInt (IntKind.bits .u64) (IntKind.wrap .u64 ((IntKind.wrap .u64 (IntKind.wrap .u8 ↑(BitVec.ofInt (IntKind.bits .u8) ((List.getD (α := UInt8) L i 0).toNat : Int) &&& BitVec.ofInt (IntKind.bits .u8) 127).toNat)) * 2 ^ min (Int.toNat (IntKind.wrap .i64 (7 * (i : Int)))) (IntKind.bits .u64)))).toNat))), (3, pI (IntKind.wrap .i64 ((i : Int) + 1)))]), (aR9 L bad)) :=
 have q1 : OpE (aR9 L bad) (.indexAddr 1 (.const (pS L)) (.const (pI (i : Int)))) (.pin [.int .u8 ((List.getD (α := UInt8) L i 0).toNat : Int)] 0) := (A5 rfl rfl h2)
 have q2 : OpE (aR9 L bad) (.bin .shl (.const (.p (.int .u64 (IntKind.wrap .u64 (IntKind.wrap .u8 ↑(BitVec.ofInt (IntKind.bits .u8) ((List.getD (α := UInt8) L i 0).toNat : Int) &&& BitVec.ofInt (IntKind.bits .u8) 127).toNat))))) (.const (pI (IntKind.wrap .i64 (7 * (i : Int)))))) (.p (.int .u64 (IntKind.wrap .u64 ((IntKind.wrap .u64 (IntKind.wrap .u8 ↑(BitVec.ofInt (IntKind.bits .u8) ((List.getD (α := UInt8) L i 0).toNat : Int) &&& BitVec.ofInt (IntKind.bits .u8) 127).toNat)) * 2 ^ min (Int.toNat (IntKind.wrap .i64 (7 * (i : Int)))) (IntKind.bits .u64))))) := (C9 h5)
 lX [(1, .b true), (7, oO q1), (5, .b false), (0, .b false), (0, .b false), (5, .b false), (0, .b false), (0, .b false), (8, oO q2), (4, .b true)] [_, _, _, _, _, _, _, _, _, _] (by kernel_rfl) (by kernel_rfl) ⟨cI c1, q1, cI c3, cI c3, cI c3, cI c4, cI c4, cI c4, q2, cI c6, trivial⟩
theorem Sz {L : BY} {bad : Bool} {i : Nat} {u m : Int} (c1 : (decide ((i : Int) < m)) = true) (h2 : (i : Nat) < List.length L) (c3 : ((i : Int) == 9) = false) (c4 : (decide ((i : Int) > 0)) = false) (h5 : 0 ≤ IntKind.wrap .i64 (7 * (i : Int))) (c6 : (decide (((List.getD (α := UInt8) L i 0).toNat : Int) < 128)) = false) {r : RL} (hr : LoopN lp 1 (Ac Ee 0) (tl 0 47 [(0, P00), (4, .p (.int .u64 (IntKind.wrap .u64 ↑(BitVec.ofInt (IntKind.bits .u64) u ||| BitVec.ofInt (IntKind.bits .u64) (IntKind.wrap .u64 ((IntKind.wrap .u64 (IntKind.wrap .u8 ↑(BitVec.ofInt (IntKind.bits .u8) ((List.getD (α := UInt8) L i 0).toNat : Int) &&& BitVec.ofInt (IntKind.bits .u8) 127).toNat)) * 2 ^ min (Int.toNat (IntKind.wrap .i64 (7 * (i : Int)))) (IntKind.bits .u64)))).toNat))), (9, pI m), (10, pI (IntKind.wrap .i64 ((i : Int) + 1)))]) (aR9 L bad) r) :
  LoopN lp 1 (Ac Ee 0) (tl 0 47 [(0, P00), (4, .p (.int .u64 u)), (9, pI m), (10, pI (i : Int))]) (aR9 L bad) r :=
 have q1 : OpE (aR9 L bad) (.indexAddr 1 (.const (pS L)) (.const (pI (i : Int)))) (.pin [.int .u8 ((List.getD (α := UInt8) L i 0).toNat : Int)] 0) := (A5 rfl rfl h2)
 have q2 : OpE (aR9 L bad) (.bin .shl (.const (.p (.int .u64 (IntKind.wrap .u64 (IntKind.wrap .u8 ↑(BitVec.ofInt (IntKind.bits .u8) ((List.getD (α := UInt8) L i 0).toNat : Int) &&& BitVec.ofInt (IntKind.bits .u8) 127).toNat))))) (.const (pI (IntKind.wrap .i64 (7 * (i : Int)))))) (.p (.int .u64 (IntKind.wrap .u64 ((IntKind.wrap .u64 (IntKind.wrap .u8 ↑(BitVec.ofInt (IntKind.bits .u8) ((List.getD (α := UInt8) L i 0).toNat : Int) &&& BitVec.ofInt (IntKind.bits .u8) 127).toNat)) * 2 ^ min (Int.toNat (IntKind.wrap .i64 (7 * (i : Int)))) (IntKind.bits .u64))))) := (C9 h5)
 lO [(1, .b true), (7, oO q1), (5, .b false), (0, .b false), (0, .b false), (5, .b false), (0, .b false), (0, .b false), (8, oO q2), (4, .b false)] [_, _, _, _, _, _, _, _, _, _] (by kernel_rfl) ⟨cI c1, q1, cI c3, cI c3, cI c3, cI c4, cI c4, cI c4, q2, cI c6, trivial⟩ hr
theorem Pd {L : BY} {bad : Bool} {i : Nat} {u m : Int} (c1 : (decide ((i : Int) < m)) = false) :
  LoopN lp 1 (Ac Ee 0) (tl 0 47 [(0, P00), (4, .p (.int .u64 u)), (9, pI m), (10, pI (i : Int))]) (aR9 L bad) (.exit 0, (tl 0 47 []), (aR9 L bad)) :=
 lX [(1, .b false)] [_] (by kernel_rfl) (by kernel_rfl) ⟨cI c1, trivial⟩
theorem S0 {L : BY} {bad : Bool} {i : Nat} {u : Int} (c1 : (decide ((i : Int) < 10)) = true) (c2 : (decide ((i : Int) < ((List.length (bs L) : Nat) : Int))) = true) (h3 : (i : Nat) < List.length L) (c4 : ((i : Int) == 9) = true) (c5 : (decide (((List.getD (α := UInt8) L i 0).toNat : Int) > 1)) = true) :
  LoopN lp 1 (Ac Ef 0) (tl 0 82 [(0, P00), (3, .p (.int .u64 u)), (4, pI (i : Int))]) (aR9 L bad) (.exit 0, (tl 0 82 [(0, P00)]), (aR9 L bad)) :=
 have q1 : OpE (aR9 L bad) (.indexAddr 1 (.const (pS L)) (.const (pI (i : Int)))) (.pin [.int .u8 ((List.getD (α := UInt8) L i 0).toNat : Int)] 0) := (A5 rfl rfl h3)
 have q2 : OpE (aR9 L bad) (.indexAddr 1 (.const (pS L)) (.const (pI (i : Int)))) (.pin [.int .u8 ((List.getD (α := UInt8) L i 0).toNat : Int)] 0) := (A5 rfl rfl h3)
 lX [(3, .b true), (1, .b true), (1, .b true), (1, .b true), (1, .b true), (1, .b true), (1, .b true), (1, .b true), (0, .b true), (5, oO q1), (7, .b true), (1, .b true), (1, .b true), (1, .b true), (1, .b true), (1, .b true), (0, oO q2), (0, .b true), (1, .b true), (1, .b true), (1, .b true), (0, .b true), (0, .b true), (8, .b true), (0, .b true)] [_, _, _, _, _, _, _, _, _, _, _, _, _, _, _, _, _, _, _, _, _, _, _, _, _] (by kernel_rfl) (by kernel_rfl) ⟨cI c1, cI c1, cI c1, cI c1, cI c1, cI c1, cI c1, cI c1, cI c2, q1, cI c4, cI c4, cI c4, cI c4, cI c4, cI c4, q2, cI c4, cI c4, cI c4, cI c5, cI c5, cI c5, cI c5, cI c5, trivial⟩
theorem Pe {L : BY} {bad : Bool} {i : Nat} {u : Int} (c1 : (decide ((i : Int) < 10)) = true) (c2 : (decide ((i : Int) < ((List.length (bs L) : Nat) : Int))) = true) (h3 : (i : Nat) < List.length L) (c4 : ((i : Int) == 9) = true) (c5 : (decide (((List.getD (α := UInt8) L i 0).toNat : Int) > 1)) = false) (c6 : (decide ((i : Int) > 0)) = true) (c7 : (((List.getD (α := UInt8) L i 0).toNat : Int) == 0) = true) :
  LoopN lp 1 (Ac Ef 0) (tl 0 82 [(0, P00), (3, .p (.int .u64 u)), (4, pI (i : Int))]) (aR9 L bad) (.exit 0, (tl 0 82 [(0, P00)]), (aR9 L bad)) :=
 have q1 : OpE (aR9 L bad) (.indexAddr 1 (.const (pS L)) (.const (pI (i : Int)))) (.pin [.int .u8 ((List.getD (α := UInt8) L i 0).toNat : Int)] 0) := (A5 rfl rfl h3)
 have q2 : OpE (aR9 L bad) (.indexAddr 1 (.const (pS L)) (.const (pI (i : Int)))) (.pin [.int .u8 ((List.getD (α := UInt8) L i 0).toNat : Int)] 0) := (A5 rfl rfl h3)
 have q3 : OpE (aR9 L bad) (.indexAddr 1 (.const (pS L)) (.const (pI (i : Int)))) (.pin [.int .u8 ((List.getD (α := UInt8) L i 0).toNat : Int)] 0) := (A5 rfl rfl h3)
 lX [(3, .b true), (1, .b true), (1, .b true), (1, .b true), (1, .b true), (1, .b true), (1, .b true), (1, .b true), (0, .b true), (5, oO q1), (7, .b true), (1, .b true), (1, .b true), (1, .b true), (1, .b true), (1, .b true), (0, oO q2), (0, .b true), (1, .b true), (1, .b true), (1, .b false), (1, .b false), (1, .b false), (1, .b true), (1, .b true), (1, .b true), (1, .b true), (1, .b true), (1, .b true), (0, oO q3), (0, .b true), (1, .b true), (1, .b false), (0, .b true), (0, .b false), (0, .b true)] [_, _, _, _, _, _, _, _, _, _, _, _, _, _, _, _, _, _, _, _, _, _, _, _, _, _, _, _, _, _, _, _, _, _, _, _] (by kernel_rfl) (by kernel_rfl) ⟨cI c1, cI c1, cI c1, cI c1, cI c1, cI c1, cI c1, cI c1, cI c2, q1, cI c4, cI c4, cI c4, cI c4, cI c4, cI c4, q2, cI c4, cI c4, cI c4, cI c5, cI c5, cI c5, cI c6, cI c6, cI c6, cI c6, cI c6, cI c6, q3, cI c6, cI c6, cI c5, cI c6, cI c5, cI c7, trivial⟩
theorem Nn {L : BY} {bad : Bool} {i : Nat} {u : Int} (c1 : (decide ((i : Int) < 10)) = true) (c2 : (decide ((i : Int) < ((List.length (bs L) : Nat) : Int))) = true) (h3 : (i : Nat) < List.length L) (c4 : ((i : Int) == 9) = true) (c5 : (decide (((List.getD (α := UInt8) L i 0).toNat : Int) > 1)) = false) (c6 : (decide ((i : Int) > 0)) = true) (c7 : (((List.getD (α := UInt8) L i 0).toNat : Int) == 0) = false) (h8 : 0 ≤ IntKind.wrap .i64 (7 * (i : Int))) (c9 : (decide (((List.getD (α := UInt8) L i 0).toNat : Int) < 128)) = true) (h10 : 0 ≤ IntKind.wrap .i64 ((i : Int) + 1)) (h11 : IntKind.wrap .i64 ((i : Int) + 1) ≤ (List.length L : Int)) :
  LoopN lp 1 (Ac Ef 0) (tl 0 82 [(0, P00), (3, .p (.int .u64 u)), (4, pI (i : Int))]) (aR9 L bad) (.ret, (tl 0 82 [(2, .p (.int .u64 (IntKind.wrap .u64 (u + (IntKind.wrap .u64 ((IntKind.wrap .u64 (Int.tmod ((List.getD (α := UInt8) L i 0).toNat : Int) 128)) * 2 ^ min (Int.toNat (IntKind.wrap .i64 (7 * (i : Int)))) (IntKind.bits .u64)))))))]), [.row [[pS (List.drop (Int.toNat (IntKind.wrap .i64 ((i : Int) + 1))) L), pB bad]]]) :=
 have q1 : OpE (aR9 L bad) (.indexAddr 1 (.const (pS L)) (.const (pI (i : Int)))) (.pin [.int .u8 ((List.getD (α := UInt8) L i 0).toNat : Int)] 0) := (A5 rfl rfl h3)
 have q2 : OpE (aR9 L bad) (.indexAddr 1 (.const (pS L)) (.const (pI (i : Int)))) (.pin [.int .u8 ((List.getD (α := UInt8) L i 0).toNat : Int)] 0) := (A5 rfl rfl h3)
 have q3 : OpE (aR9 L bad) (.indexAddr 1 (.const (pS L)) (.const (pI (i : Int)))) (.pin [.int .u8 ((List.getD (α := UInt8) L i 0).toNat : Int)] 0) := (A5 rfl rfl h3)
 have q4 : OpE (aR9 L bad) (.bin .shl (.const (.p (.int .u64 (IntKind.wrap .u64 (Int.tmod ((List.getD (α := UInt8) L i 0).toNat : Int) 128))))) (.const (pI (IntKind.wrap .i64 (7 * (i : Int)))))) (.p (.int .u64 (IntKind.wrap .u64 ((IntKind.wrap .u64 (Int.tmod ((List.getD (α := UInt8) L i 0).toNat : Int) 128)) * 2 ^ min (Int.toNat (IntKind.wrap .i64 (7 * (i : Int)))) (IntKind.bits .u64))))) := (C9 h8)
 have q5 : OpE (aR9 L bad) (.indexAddr 1 (.const (pS L)) (.const (pI (i : Int)))) (.pin [.int .u8 ((List.getD (α := UInt8) L i 0).toNat : Int)] 0) := (A5 rfl rfl h3)
 have q6 : OpE (aR9 L bad) (.slice 1 (.const (pS L)) (some (.const (pI (IntKind.wrap .i64 ((i : Int) + 1))))) none none) (pS (List.drop (Int.toNat (IntKind.wrap .i64 ((i : Int) + 1))) L)) := (Cd h10 h11)
 lX [(3, .b true), (1, .b true), (1, .b true), (1, .b true), (1, .b true), (1, .b true), (1, .b true), (1, .b true), (0, .b true), (5, oO q1), (7, .b true), (1, .b true), (1, .b true), (1, .b true), (1, .b true), (1, .b true), (0, oO q2), (0, .b true), (1, .b true), (1, .b true), (1, .b false), (1, .b false), (1, .b false), (1, .b true), (1, .b true), (1, .b true), (1, .b true), (1, .b true), (1, .b true), (0, oO q3), (0, .b true), (1, .b true), (1, .b false), (0, .b true), (0, .b false), (0, .b false), (4, oO q4), (7, oO q5), (2, .b true), (7, oO q6)] [_, _, _, _, _, _, _, _, _, _, _, _, _, _, _, _, _, _, _, _, _, _, _, _, _, _, _, _, _, _, _, _, _, _, _, _, _, _, _, _] (by kernel_rfl) (by kernel_rfl) ⟨cI c1, cI c1, cI c1, cI c1, cI c1, cI c1, cI c1, cI c1, cI c2, q1, cI c4, cI c4, cI c4, cI c4, cI c4, cI c4, q2, cI c4, cI c4, cI c4, cI c5, cI c5, cI c5, cI c6, cI c6, cI c6, cI c6, cI c6, cI c6, q3, cI c6, cI c6, cI c5, cI c6, cI c5, cI c7, q4, q5, cI c9, q6, trivial⟩
theorem Ra {L : BY} {bad : Bool} {i : Nat} {u : Int} (c1 : (decide ((i : Int) < 10)) = true) (c2 : (decide ((i : Int) < ((List.length (bs L) : Nat) : Int))) = true) (h3 : (i : Nat) < List.length L) (c4 : ((i : Int) == 9) = false) (c5 : (decide ((i : Int) > 0)) = true) (c6 : (((List.getD (α := UInt8) L i 0).toNat : Int) == 0) = true) :
  LoopN lp 1 (Ac Ef 0) (tl 0 82 [(0, P00), (3, .p (.int .u64 u)), (4, pI (i : Int))]) (aR9 L bad) (.exit 0, (tl 0 82 [(0, P00)]), (aR9 L bad)) :=
 have q1 : OpE (aR9 L bad) (.indexAddr 1 (.const (pS L)) (.const (pI (i : Int)))) (.pin [.int .u8 ((List.getD (α := UInt8) L i 0).toNat : Int)] 0) := (A5 rfl rfl h3)
 have q2 : OpE (aR9 L bad) (.indexAddr 1 (.const (pS L)) (.const (pI (i : Int)))) (.pin [.int .u8 ((List.getD (α := UInt8) L i 0).toNat : Int)] 0) := (A5 rfl rfl h3)
 lX [(3, .b true), (1, .b true), (1, .b true), (1, .b true), (1, .b true), (1, .b true), (1, .b true), (1, .b true), (0, .b true), (5, oO q1), (7, .b false), (0, .b false), (0, .b false), (0, .b false), (0, .b false), (0, .b false), (0, .b false), (0, .b false), (0, .b false), (7, .b true), (1, .b true), (1, .b true), (1, .b true), (1, .b true), (1, .b true), (0, oO q2), (0, .b true), (1, .b true), (2, .b true), (1, .b true)] [_, _, _, _, _, _, _, _, _, _, _, _, _, _, _, _, _, _, _, _, _, _, _, _, _, _, _, _, _, _] (by kernel_rfl) (by kernel_rfl) ⟨cI c1, cI c1, cI c1, cI c1, cI c1, cI c1, cI c1, cI c1, cI c2, q1, cI c4, cI c4, cI c4, cI c4, cI c4, cI c4, cI c4, cI c4, cI c4, cI c5, cI c5, cI c5, cI c5, cI c5, cI c5, q2, cI c5, cI c5, cI c5, cI c6, trivial⟩
theorem Pf {L : BY} {bad : Bool} {i : Nat} {u : Int} (c1 : (decide ((i : Int) < 10)) = true) (c2 : (decide ((i : Int) < ((List.length (bs L) : Nat) : Int))) = true) (h3 : (i : Nat) < List.length L) (c4 : ((i : Int) == 9) = false) (c5 : (decide ((i : Int) > 0)) = true) (c6 : (((List.getD (α := UInt8) L i 0).toNat : Int) == 0) = false) (h7 : 0 ≤ IntKind.wrap .i64 (7 * (i : Int))) (c8 : (decide (((List.getD (α := UInt8) L i 0).toNat : Int) < 128)) = true) (h9 : 0 ≤ IntKind.wrap .i64 ((i : Int) + 1)) (h10 : IntKind.wrap .i64 ((i : Int) + 1) ≤ (List.length L : Int)) :
  LoopN lp 1 (Ac Ef 0) (tl 0 82 [(0, P00), (3, .p (.int .u64 u)), (4, pI (i : Int))]) (aR9 L bad) (.ret, (tl 0 82 [(2, .p (.int .u64 (IntKind.wrap .u64 (u + (IntKind.wrap .u64 ((IntKind.wrap .u64 (Int.tmod ((List.getD (α := UInt8) L i 0).toNat : Int) 128)) * 2 ^ min (Int.toNat (IntKind.wrap .i64 (7 * (i : Int)))) (IntKind.bits .u64)))))))]), [.row [[pS (List.drop (Int.toNat (IntKind.wrap .i64 ((i : Int) + 1))) L), pB bad]]]) :=
 have q1 : OpE (aR9 L bad) (.indexAddr 1 (.const (pS L)) (.const (pI (i : Int)))) (.pin [.int .u8 ((List.getD (α := UInt8) L i 0).toNat : Int)] 0) := (A5 rfl rfl h3)
 have q2 : OpE (aR9 L bad) (.indexAddr 1 (.const (pS L)) (.const (pI (i : Int)))) (.pin [.int .u8 ((List.getD (α := UInt8) L i 0).toNat : Int)] 0) := (A5 rfl rfl h3)
 have q3 : OpE (aR9 L bad) (.bin .shl (.const (.p (.int .u64 (IntKind.wrap .u64 (Int.tmod ((List.getD (α := UInt8) L i 0).toNat : Int) 128))))) (.const (pI (IntKind.wrap .i64 (7 * (i : Int)))))) (.p (.int .u64 (IntKind.wrap .u64 ((IntKind.wrap .u64 (Int.tmod ((List.getD (α := UInt8) L i 0).toNat : Int) 128)) * 2 ^ min (Int.toNat (IntKind.wrap .i64 (7 * (i : Int)))) (IntKind.bits .u64))))) := (C9 h7)
 have q4 : OpE (aR9 L bad) (.indexAddr 1 (.const (pS L)) (.const (pI (i : Int)))) (.pin [.int .u8 ((List.getD (α := UInt8) L i 0).toNat : Int)] 0) := (A5 rfl rfl h3)
 have q5 : OpE (aR9 L bad) (.slice 1 (.const (pS L)) (some (.const (pI (IntKind.wrap .i64 ((i : Int) + 1))))) none none) (pS (List.drop (Int.toNat (IntKind.wrap .i64 ((i : Int) + 1))) L)) := (Cd h9 h10)
 lX [(3, .b true), (1, .b true), (1, .b true), (1, .b true), (1, .b true), (1, .b true), (1, .b true), (1, .b true), (0, .b true), (5, oO q1), (7, .b false), (0, .b false), (0, .b false), (0, .b false), (0, .b false), (0, .b false), (0, .b false), (0, .b false), (0, .b false), (7, .b true), (1, .b true), (1, .b true), (1, .b true), (1, .b true), (1, .b true), (0, oO q2), (0, .b true), (1, .b true), (2, .b true), (1, .b false), (4, oO q3), (7, oO q4), (2, .b true), (7, oO q5)] [_, _, _, _, _, _, _, _, _, _, _, _, _, _, _, _, _, _, _, _, _, _, _, _, _, _, _, _, _, _, _, _, _, _] (by kernel_rfl) (by kernel_rfl) ⟨cI c1, cI c1, cI c1, cI c1, cI c1, cI c1, cI c1, cI c1, cI c2, q1, cI c4, cI c4, cI c4, cI c4, cI c4, cI c4, cI c4, cI c4, cI c4, cI c5, cI c5, cI c5, cI c5, cI c5, cI c5, q2, cI c5, cI c5, cI c5, cI c6, q3, q4, cI c8, q5, trivial⟩
theorem Pg {L : BY} {bad : Bool} {i : Nat} {u : Int} (c1 : (decide ((i : Int) < 10)) = true) (c2 : (decide ((i : Int) < ((List.length (bs L) : Nat) : Int))) = true) (h3 : (i : Nat) < List.length L) (c4 : ((i : Int) == 9) = false) (c5 : (decide ((i : Int) > 0)) = true) (c6 : (((List.getD (α := UInt8) L i 0).toNat : Int) == 0) = false) (h7 : 0 ≤ IntKind.wrap .i64 (7 * (i : Int))) (c8 : (decide (((List.getD (α := UInt8) L i 0).toNat : Int) < 128)) = false) {r : RL} (hr : LoopN lp 1 (Ac Ef 0) (tl 0 82 [(0, P00), (3, .p (.int .u64 (IntKind.wrap .u64 (u + (IntKind.wrap .u64 ((IntKind.wrap .u64 (Int.tmod ((List.getD (α := UInt8) L i 0).toNat : Int) 128)) * 2 ^ min (Int.toNat (IntKind.wrap .i64 (7 * (i : Int)))) (IntKind.bits .u64))))))), (4, pI (IntKind.wrap .i64 ((i : Int) + 1)))]) (aR9 L bad) r) :
  LoopN lp 1 (Ac Ef 0) (tl 0 82 [(0, P00), (3, .p (.int .u64 u)), (4, pI (i : Int))]) (aR9 L bad) r :=
 have q1 : OpE (aR9 L bad) (.indexAddr 1 (.const (pS L)) (.const (pI (i : Int)))) (.pin [.int .u8 ((List.getD (α := UInt8) L i 0).toNat : Int)] 0) := (A5 rfl rfl h3)
 have q2 : OpE (aR9 L bad) (.indexAddr 1 (.const (pS L)) (.const (pI (i : Int)))) (.pin [.int .u8 ((List.getD (α := UInt8) L i 0).toNat : Int)] 0) := (A5 rfl rfl h3)
 have q3 : OpE (aR9 L bad) (.bin .shl (.const (.p (.int .u64 (IntKind.wrap .u64 (Int.tmod ((List.getD (α := UInt8) L i 0).toNat : Int) 128))))) (.const (pI (IntKind.wrap .i64 (7 * (i : Int)))))) (.p (.int .u64 (IntKind.wrap .u64 ((IntKind.wrap .u64 (Int.tmod ((List.getD (α := UInt8) L i 0).toNat : Int) 128)) * 2 ^ min (Int.toNat (IntKind.wrap .i64 (7 * (i : Int)))) (IntKind.bits .u64))))) := (C9 h7)
 have q4 : OpE (aR9 L bad) (.indexAddr 1 (.const (pS L)) (.const (pI (i : Int)))) (.pin [.int .u8 ((List.getD (α := UInt8) L i 0).toNat : Int)] 0) := (A5 rfl rfl h3)
 lO [(3, .b true), (1, .b true), (1, .b true), (1, .b true), (1, .b true), (1, .b true), (1, .b true), (1, .b true), (0, .b true), (5, oO q1), (7, .b false), (0, .b false), (0, .b false), (0, .b false), (0, .b false), (0, .b false), (0, .b false), (0, .b false), (0, .b false), (7, .b true), (1, .b true), (1, .b true), (1, .b true), (1, .b true), (1, .b true), (0, oO q2), (0, .b true), (1, .b true), (2, .b true), (1, .b false), (4, oO q3), (7, oO q4), (2, .b false)] [_, _, _, _, _, _, _, _, _, _, _, _, _, _, _, _, _, _, _, _, _, _, _, _, _, _, _, _, _, _, _, _, _] (by kernel_rfl) ⟨cI c1, cI c1, cI c1, cI c1, cI c1, cI c1, cI c1, cI c1, cI c2, q1, cI c4, cI c4, cI c4, cI c4, cI c4, cI c4, cI c4, cI c4, cI c4, cI c5, cI c5, cI c5, cI c5, cI c5, cI c5, q2, cI c5, cI c5, cI c5, cI c6, q3, q4, cI c8, trivial⟩ hr
theorem Rb {L : BY} {bad : Bool} {i : Nat} {u : Int} (c1 : (decide ((i : Int) < 10)) = true) (c2 : (decide ((i : Int) < ((List.length (bs L) : Nat) : Int))) = true) (h3 : (i : Nat) < List.length L) (c4 : ((i : Int) == 9) = false) (c5 : (decide ((i : Int) > 0)) = false) (h6 : 0 ≤ IntKind.wrap .i64 (7 * (i : Int))) (c7 : (decide (((List.getD (α := UInt8) L i 0).toNat : Int) < 128)) = true) (h8 : 0 ≤ IntKind.wrap .i64 ((i : Int) + 1)) (h9 : IntKind.wrap .i64 ((i : Int) + 1) ≤ (List.length L : Int)) :
  LoopN lp 1 (Ac Ef 0) (tl 0 82 [(0, P00), (3, .p (.int .u64 u)), (4, pI (i : Int))]) (aR9 L bad) (.ret, (tl 0 82 [(2, .p (.int .u64 (IntKind.wrap .u64 (u + (IntKind.wrap .u64 ((IntKind.wrap .u64 (Int.tmod ((List.getD (α := UInt8) L i 0).toNat : Int) 128)) * 2 ^ min (Int.toNat (IntKind.wrap .i64 (7 * (i : Int)))) (IntKind.bits .u64)))))))]), [.row [[pS (List.drop (Int.toNat (IntKind.wrap .i64 ((i : Int) + 1))) L), pB bad]]]) :=
 have q1 : OpE (aR9 L bad) (.indexAddr 1 (.const (pS L)) (.const (pI (i : Int)))) (.pin [.int .u8 ((List.getD (α := UInt8) L i 0).toNat : Int)] 0) := (A5 rfl rfl h3)
 have q2 : OpE (aR9 L bad) (.bin .shl (.const (.p (.int .u64 (IntKind.wrap .u64 (Int.tmod ((List.getD (α := UInt8) L i 0).toNat : Int) 128))))) (.const (pI (IntKind.wrap .i64 (7 * (i : Int)))))) (.p (.int .u64 (IntKind.wrap .u64 ((IntKind.wrap .u64 (Int.tmod ((List.getD (α := UInt8) L i 0).toNat : Int) 128)) * 2 ^ min (Int.toNat (IntKind.wrap .i64 (7 * (i : Int)))) (IntKind.bits .u64))))) := (C9 h6)
 have q3 : OpE (aR9 L bad) (.indexAddr 1 (.const (pS L)) (.const (pI (i : Int)))) (.pin [.int .u8 ((List.getD (α := UInt8) L i 0).toNat : Int)] 0) := (A5 rfl rfl h3)
 have q4 : OpE (aR9 L bad) (.slice 1 (.const (pS L)) (some (.const (pI (IntKind.wrap .i64 ((i : Int) + 1))))) none none) (pS (List.drop (Int.toNat (IntKind.wrap .i64 ((i : Int) + 1))) L)) := (Cd h8 h9)
 lX [(3, .b true), (1, .b true), (1, .b true), (1, .b true), (1, .b true), (1, .b true), (1, .b true), (1, .b true), (0, .b true), (5, oO q1), (7, .b false), (0, .b false), (0, .b false), (0, .b false), (0, .b false), (0, .b false), (0, .b false), (0, .b false), (0, .b false), (7, .b false), (0, .b false), (0, .b false), (0, .b false), (0, .b false), (0, .b false), (0, .b false), (0, .b false), (1, .b false), (6, oO q2), (7, oO q3), (2, .b true), (7, oO q4)] [_, _, _, _, _, _, _, _, _, _, _, _, _, _, _, _, _, _, _, _, _, _, _, _, _, _, _, _, _, _, _, _] (by kernel_rfl) (by kernel_rfl) ⟨cI c1, cI c1, cI c1, cI c1, cI c1, cI c1, cI c1, cI c1, cI c2, q1, cI c4, cI c4, cI c4, cI c4, cI c4, cI c4, cI c4, cI c4, cI c4, cI c5, cI c5, cI c5, cI c5, cI c5, cI c5, cI c5, cI c5, cI c5, q2, q3, cI c7, q4, trivial⟩
theorem Rc {L : BY} {bad : Bool} {i : Nat} {u : Int} (c1 : (decide ((i : Int) < 10)) = true) (c2 : (decide ((i : Int) < ((List.length (bs L) : Nat) : Int))) = true) (h3 : (i : Nat) < List.length L) (c4 : ((i : Int) == 9) = false) (c5 : (decide ((i : Int) > 0)) = false) (h6 : 0 ≤ IntKind.wrap .i64 (7 * (i : Int))) (c7 : (decide (((List.getD (α := UInt8) L i 0).toNat : Int) < 128)) = false) {r : RL} (hr : LoopN lp 1 (Ac Ef 0) (tl 0 82 [(0, P00), (3, .p (.int .u64 (IntKind.wrap .u64 (u + (IntKind.wrap .u64 ((IntKind.wrap .u64 (Int.tmod ((List.getD (α := UInt8) L i 0).toNat : Int) 128)) * 2 ^ min (Int.toNat (IntKind.wrap .i64 (7 * (i : Int)))) (IntKind.bits .u64))))))), (4, pI (IntKind.wrap .i64 ((i : Int) + 1)))]) (aR9 L bad) r) :
  LoopN lp 1 (Ac Ef 0) (tl 0 82 [(0, P00), (3, .p (.int .u64 u)), (4, pI (i : Int))]) (aR9 L bad) r :=
 have q1 : OpE (aR9 L bad) (.indexAddr 1 (.const (pS L)) (.const (pI (i : Int)))) (.pin [.int .u8 ((List.getD (α := UInt8) L i 0).toNat : Int)] 0) := (A5 rfl rfl h3)
 have q2 : OpE (aR9 L bad) (.bin .shl (.const (.p (.int .u64 (IntKind.wrap .u64 (Int.tmod ((List.getD (α := UInt8) L i 0).toNat : Int) 128))))) (.const (pI (IntKind.wrap .i64 (7 * (i : Int)))))) (.p (.int .u64 (IntKind.wrap .u64 ((IntKind.wrap .u64 (Int.tmod ((List.getD (α := UInt8) L i 0).toNat : Int) 128)) * 2 ^ min (Int.toNat (IntKind.wrap .i64 (7 * (i : Int)))) (IntKind.bits .u64))))) := (C9 h6)
 have q3 : OpE (aR9 L bad) (.indexAddr 1 (.const (pS L)) (.const (pI (i : Int)))) (.pin [.int .u8 ((List.getD (α := UInt8) L i 0).toNat : Int)] 0) := (A5 rfl rfl h3)
 lO [(3, .b true), (1, .b true), (1, .b true), (1, .b true), (1, .b true), (1, .b true), (1, .b true), (1, .b true), (0, .b true), (5, oO q1), (7, .b false), (0, .b false), (0, .b false), (0, .b false), (0, .b false), (0, .b false), (0, .b false), (0, .b false), (0, .b false), (7, .b false), (0, .b false), (0, .b false), (0, .b false), (0, .b false), (0, .b false), (0, .b false), (0, .b false), (1, .b false), (6, oO q2), (7, oO q3), (2, .b false)] [_, _, _, _, _, _, _, _, _, _, _, _, _, _, _, _, _, _, _, _, _, _, _, _, _, _, _, _, _, _, _] (by kernel_rfl) ⟨cI c1, cI c1, cI c1, cI c1, cI c1, cI c1, cI c1, cI c1, cI c2, q1, cI c4, cI c4, cI c4, cI c4, cI c4, cI c4, cI c4, cI c4, cI c4, cI c5, cI c5, cI c5, cI c5, cI c5, cI c5, cI c5, cI c5, cI c5, q2, q3, cI c7, trivial⟩ hr
theorem Y7 {L : BY} {bad : Bool} {i : Nat} {u : Int} (c1 : (decide ((i : Int) < 10)) = true) (c2 : (decide ((i : Int) < ((List.length (bs L) : Nat) : Int))) = false) :
  LoopN lp 1 (Ac Ef 0) (tl 0 82 [(0, P00), (3, .p (.int .u64 u)), (4, pI (i : Int))]) (aR9 L bad) (.exit 0, (tl 0 82 [(0, P00)]), (aR9 L bad)) :=
 lX [(3, .b true), (1, .b true), (1, .b true), (1, .b true), (1, .b true), (1, .b true), (1, .b true), (1, .b true), (0, .b false)] [_, _, _, _, _, _, _, _, _] (by kernel_rfl) (by kernel_rfl) ⟨cI c1, cI c1, cI c1, cI c1, cI c1, cI c1, cI c1, cI c1, cI c2, trivial⟩
theorem rgrpR_n {L : BY} {bad : Bool} {i : Nat} {u : Int} (c1 : (decide ((i : Int) < 10)) = false) :
  LoopN lp 1 (Ac Ef 0) (tl 0 82 [(0, P00), (3, .p (.int .u64 u)), (4, pI (i : Int))]) (aR9 L bad) (.exit 0, (tl 0 82 [(0, P00)]), (aR9 L bad)) :=
 lX [(3, .b false), (0, .b false), (0, .b false), (0, .b false), (0, .b false), (0, .b false), (0, .b false), (0, .b false)] [_, _, _, _, _, _, _, _] (by kernel_rfl) (by kernel_rfl) ⟨cI c1, cI c1, cI c1, cI c1, cI c1, cI c1, cI c1, cI c1, trivial⟩
theorem Y8 {L : BY} {bad : Bool} {M : BY} {a : Int} (h1 : LoopN lp 1 (Ac Ef 0) (tl 0 82 [(0, P00), (3, .p (.int .u64 0)), (4, pI 0)]) (aR9 L bad) (.ret, (tl 0 82 [(2, .p (.int .u64 a))]), [.row [[pS M, pB bad]]])) :
  Runs lp 72 [P00] (aR9 L bad) (.p (.int .u64 a), [.row [[pS M, pB bad]]]) :=
 rO [(3, oL h1)] [_] (by kernel_rfl) ⟨h1, trivial⟩
theorem Ve {L : BY} {bad : Bool} (h1 : LoopN lp 1 (Ac Ef 0) (tl 0 82 [(0, P00), (3, .p (.int .u64 0)), (4, pI 0)]) (aR9 L bad) (.exit 0, (tl 0 82 [(0, P00)]), (aR9 L bad))) :
  Runs lp 72 [P00] (aR9 L bad) (.p (.int .u64 0), (Be L)) :=
 rO [(3, oL h1)] [_] (by kernel_rfl) ⟨h1, trivial⟩
end Go.Proofs.YtegboccilfofmaaGreat
