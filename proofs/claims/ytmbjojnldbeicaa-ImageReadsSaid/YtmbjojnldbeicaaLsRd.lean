import Derived.Test.YtmbjojnldbeicaaLsAb
import Derived.Test.YtmbjojnldbeicaaLsCodes2
set_option linter.unusedVariables false
set_option maxRecDepth 100000
namespace Go.Proofs.Ytmbjojnldbeicaa
open Go Go.LS
theorem Sc {L : BY} {bad : Bool}  :
  Runs lp 23 [P00] (aR3 L bad) (pB bad, (aR3 L bad)) :=
 rO [] [] (by kernel_rfl) trivial
theorem Ee {L : BY} {bad : Bool}  :
  Runs lp 40 [P00] (aR3 L bad) (.tup [], (aR5 L)) :=
 rO [] [] (by kernel_rfl) trivial
theorem Ll {L : BY} {bad : Bool} (c1 : (bad) = true) :
  Runs lp 24 [P00] (aR3 L bad) (pI 0, (aR3 L bad)) :=
 have q1 : Runs lp 23 [P00] (aR3 L bad) (pB bad, (aR3 L bad)) := (Sc (bad := bad) )
 rO [(2, oC q1), (0, .b true)] [_, _] (by kernel_rfl) ⟨q1, cI c1, trivial⟩
theorem Fc {L : BY} {bad : Bool} (c1 : (bad) = false) :
  Runs lp 24 [P00] (aR3 L bad) (pI ((List.length (bs L) : Nat) : Int), (aR3 L bad)) :=
 have q1 : Runs lp 23 [P00] (aR3 L bad) (pB bad, (aR3 L bad)) := (Sc (bad := bad) )
 rO [(2, oC q1), (0, .b false)] [_, _] (by kernel_rfl) ⟨q1, cI c1, trivial⟩
theorem vleft {L : BY} {bad : Bool}  :
  Runs lp 24 [P00] (aR3 L bad) (if (bad) = true then ((pI 0, (aR3 L bad))) else ((pI ((List.length (bs L) : Nat) : Int), (aR3 L bad)))) := by
 by_cases k1 : (bad) = true
 ·refine Am k1 ?_
  exact Ll (L := L) (bad := bad) k1
 ·refine An k1 ?_
  replace k1 := Bool.eq_false_iff.2 k1
  exact Fc (L := L) (bad := bad) k1
theorem Zw {L : BY} {bad : Bool} (c1 : (bad) = true) :
  Runs lp 61 [P00] (aR3 L bad) (pI 0, (aR5 L)) :=
 have q1 : Runs lp 24 [P00] (aR3 L bad) (pI 0, (aR3 L bad)) := (Ll (bad := bad) c1)
 have q2 : Runs lp 40 [P00] (aR3 L bad) (.tup [], (aR5 L)) := (Ee (bad := bad) )
 rO [(2, oC q1), (3, oC q2)] [_, _] (by kernel_rfl) ⟨q1, q2, trivial⟩
theorem Xo {L : BY} {bad : Bool} (c1 : (bad) = false) (c2 : (((List.length (bs L) : Nat) : Int) == 0) = true) :
  Runs lp 61 [P00] (aR3 L bad) (pI 0, (aR5 L)) :=
 have q1 : Runs lp 24 [P00] (aR3 L bad) (pI ((List.length (bs L) : Nat) : Int), (aR3 L bad)) := (Fc (bad := bad) c1)
 have q2 : Runs lp 40 [P00] (aR3 L bad) (.tup [], (aR5 L)) := (Ee (bad := bad) )
 rO [(2, oC q1), (1, .b true), (1, oC q2)] [_, _, _] (by kernel_rfl) ⟨q1, cI c2, q2, trivial⟩
theorem Xp {L : BY} {bad : Bool} (c1 : (bad) = false) (c2 : (((List.length (bs L) : Nat) : Int) == 0) = false) (h3 : (0 : Nat) < List.length L) (h4 : 0 ≤ (1 : Int)) (h5 : (1 : Int) ≤ (List.length L : Int)) :
  Runs lp 61 [P00] (aR3 L bad) (pI (IntKind.wrap .i64 ((List.getD (α := UInt8) L 0 0).toNat : Int)), [.row [[pS (List.drop (Int.toNat (1 : Int)) L), pB bad]]]) :=
 have q1 : Runs lp 24 [P00] (aR3 L bad) (pI ((List.length (bs L) : Nat) : Int), (aR3 L bad)) := (Fc (bad := bad) c1)
 have q2 : OpE (aR3 L bad) (.indexAddr 1 (.const (pS L)) (.const (pI 0))) (.pin [.int .u8 ((List.getD (α := UInt8) L 0 0).toNat : Int)] 0) := (Bi rfl rfl h3)
 have q3 : OpE (aR3 L bad) (.slice 1 (.const (pS L)) (some (.const (pI 1))) none none) (pS (List.drop (Int.toNat (1 : Int)) L)) := (Cm h4 h5)
 rO [(2, oC q1), (1, .b false), (4, oO q2), (7, oO q3)] [_, _, _, _] (by kernel_rfl) ⟨q1, cI c2, q2, q3, trivial⟩
theorem vbyte {L : BY} {bad : Bool} (w1 : (bad) = false → (((List.length (bs L) : Nat) : Int) == 0) = false → (0 : Nat) < List.length L) (w2 : (bad) = false → (((List.length (bs L) : Nat) : Int) == 0) = false → 0 ≤ (1 : Int)) (w3 : (bad) = false → (((List.length (bs L) : Nat) : Int) == 0) = false → (1 : Int) ≤ (List.length L : Int)) :
  Runs lp 61 [P00] (aR3 L bad) (if (bad) = true then ((pI 0, (aR5 L))) else (if (((List.length (bs L) : Nat) : Int) == 0) = true then ((pI 0, (aR5 L))) else ((pI (IntKind.wrap .i64 ((List.getD (α := UInt8) L 0 0).toNat : Int)), [.row [[pS (List.drop (Int.toNat (1 : Int)) L), pB bad]]])))) := by
 by_cases k1 : (bad) = true
 ·refine Am k1 ?_
  exact Zw (L := L) (bad := bad) k1
 ·refine An k1 ?_
  replace k1 := Bool.eq_false_iff.2 k1
  by_cases k2 : (((List.length (bs L) : Nat) : Int) == 0) = true
  ·refine Am k2 ?_
   exact Xo (L := L) (bad := bad) k1 k2
  ·refine An k2 ?_
   replace k2 := Bool.eq_false_iff.2 k2
   exact Xp (L := L) (bad := bad) k1 k2 (w1 k1 k2) (w2 k1 k2) (w3 k1 k2)
theorem Zx {L : BY} {bad : Bool} (c1 : (bad) = true) :
  Runs lp 25 [P00] (aR3 L bad) (pI 0, (aR3 L bad)) :=
 rO [(5, .b true)] [_] (by kernel_rfl) ⟨cI c1, trivial⟩
theorem Zy {L : BY} {bad : Bool} (c1 : (bad) = false) :
  Runs lp 25 [P00] (aR3 L bad) (pI ((List.length (bs L) : Nat) : Int), (aR3 L bad)) :=
 rO [(5, .b false)] [_] (by kernel_rfl) ⟨cI c1, trivial⟩
theorem rleft {L : BY} {bad : Bool}  :
  Runs lp 25 [P00] (aR3 L bad) (if (bad) = true then ((pI 0, (aR3 L bad))) else ((pI ((List.length (bs L) : Nat) : Int), (aR3 L bad)))) := by
 by_cases k1 : (bad) = true
 ·refine Am k1 ?_
  exact Zx (L := L) (bad := bad) k1
 ·refine An k1 ?_
  replace k1 := Bool.eq_false_iff.2 k1
  exact Zy (L := L) (bad := bad) k1
theorem Zz {L : BY} {bad : Bool} (c1 : (bad) = true) :
  Runs lp 47 [P00] (aR3 L bad) (pI 0, (aR5 L)) :=
 rO [(6, .b true), (0, .b true), (0, .b true), (0, .b true), (0, .b true), (0, .b true), (0, .b true)] [_, _, _, _, _, _, _] (by kernel_rfl) ⟨cI c1, cI c1, cI c1, cI c1, cI c1, cI c1, cI c1, trivial⟩
theorem Xq {L : BY} {bad : Bool} (c1 : (bad) = false) (c2 : (((List.length (bs L) : Nat) : Int) == 0) = true) :
  Runs lp 47 [P00] (aR3 L bad) (pI 0, (aR5 L)) :=
 rO [(6, .b false), (1, .b false), (1, .b false), (1, .b false), (1, .b false), (1, .b false), (1, .b false), (0, .b true)] [_, _, _, _, _, _, _, _] (by kernel_rfl) ⟨cI c1, cI c1, cI c1, cI c1, cI c1, cI c1, cI c1, cI c2, trivial⟩
theorem Xr {L : BY} {bad : Bool} (c1 : (bad) = false) (c2 : (((List.length (bs L) : Nat) : Int) == 0) = false) (h3 : (0 : Nat) < List.length L) (h4 : 0 ≤ (1 : Int)) (h5 : (1 : Int) ≤ (List.length L : Int)) :
  Runs lp 47 [P00] (aR3 L bad) (pI (IntKind.wrap .i64 ((List.getD (α := UInt8) L 0 0).toNat : Int)), [.row [[pS (List.drop (Int.toNat (1 : Int)) L), pB bad]]]) :=
 have q1 : OpE (aR3 L bad) (.indexAddr 1 (.const (pS L)) (.const (pI 0))) (.pin [.int .u8 ((List.getD (α := UInt8) L 0 0).toNat : Int)] 0) := (Bi rfl rfl h3)
 have q2 : OpE (aR3 L bad) (.slice 1 (.const (pS L)) (some (.const (pI 1))) none none) (pS (List.drop (Int.toNat (1 : Int)) L)) := (Cm h4 h5)
 rO [(6, .b false), (1, .b false), (1, .b false), (1, .b false), (1, .b false), (1, .b false), (1, .b false), (0, .b false), (4, oO q1), (8, oO q2)] [_, _, _, _, _, _, _, _, _, _] (by kernel_rfl) ⟨cI c1, cI c1, cI c1, cI c1, cI c1, cI c1, cI c1, cI c2, q1, q2, trivial⟩
theorem rbyte {L : BY} {bad : Bool} (w1 : (bad) = false → (((List.length (bs L) : Nat) : Int) == 0) = false → (0 : Nat) < List.length L) (w2 : (bad) = false → (((List.length (bs L) : Nat) : Int) == 0) = false → 0 ≤ (1 : Int)) (w3 : (bad) = false → (((List.length (bs L) : Nat) : Int) == 0) = false → (1 : Int) ≤ (List.length L : Int)) :
  Runs lp 47 [P00] (aR3 L bad) (if (bad) = true then ((pI 0, (aR5 L))) else (if (((List.length (bs L) : Nat) : Int) == 0) = true then ((pI 0, (aR5 L))) else ((pI (IntKind.wrap .i64 ((List.getD (α := UInt8) L 0 0).toNat : Int)), [.row [[pS (List.drop (Int.toNat (1 : Int)) L), pB bad]]])))) := by
 by_cases k1 : (bad) = true
 ·refine Am k1 ?_
  exact Zz (L := L) (bad := bad) k1
 ·refine An k1 ?_
  replace k1 := Bool.eq_false_iff.2 k1
  by_cases k2 : (((List.length (bs L) : Nat) : Int) == 0) = true
  ·refine Am k2 ?_
   exact Xq (L := L) (bad := bad) k1 k2
  ·refine An k2 ?_
   replace k2 := Bool.eq_false_iff.2 k2
   exact Xr (L := L) (bad := bad) k1 k2 (w1 k1 k2) (w2 k1 k2) (w3 k1 k2)
theorem Z0 {L : BY}  :
  Runs lp 16 [pS L] [] (P00, (aR2 L)) :=
 rO [] [] (by kernel_rfl) trivial
theorem Sd {L : BY} {bad : Bool} {a b : Int} (c1 : (bad) = false) (h2 : LoopN lp 1 (Ag Ec 0) (tl 0 47 [(0, P00), (4, .p (.int .u64 0)), (9, pI (if 10 < ((List.length (bs L) : Nat) : Int) then 10 else ((List.length (bs L) : Nat) : Int))), (10, pI 0)]) (aR3 L bad) (.ret, (tl 0 47 [(2, .p (.int .u64 a)), (3, pI b)]), (aR3 L bad))) :
  Runs lp 59 [P00] (aR3 L bad) (.tup [.p (.int .u64 a), pI b], (aR3 L bad)) :=
 have q1 : Runs lp 24 [P00] (aR3 L bad) (pI ((List.length (bs L) : Nat) : Int), (aR3 L bad)) := (Fc (bad := bad) c1)
 rO [(4, oC q1), (2, oL h2)] [_, _] (by kernel_rfl) ⟨q1, h2, trivial⟩
theorem Qm {L : BY} {bad : Bool} (c1 : (bad) = true) (h2 : LoopN lp 1 (Ag Ec 0) (tl 0 47 [(0, P00), (4, .p (.int .u64 0)), (9, pI 0), (10, pI 0)]) (aR3 L bad) (.exit 0, (tl 0 47 []), (aR3 L bad))) :
  Runs lp 59 [P00] (aR3 L bad) (.tup [.p (.int .u64 0), pI 0], (aR3 L bad)) :=
 have q1 : Runs lp 24 [P00] (aR3 L bad) (pI 0, (aR3 L bad)) := (Ll (bad := bad) c1)
 rO [(4, oC q1), (2, oL h2)] [_, _] (by kernel_rfl) ⟨q1, h2, trivial⟩
theorem Qn {L : BY} {bad : Bool} (c1 : (bad) = false) (h2 : LoopN lp 1 (Ag Ec 0) (tl 0 47 [(0, P00), (4, .p (.int .u64 0)), (9, pI (if 10 < ((List.length (bs L) : Nat) : Int) then 10 else ((List.length (bs L) : Nat) : Int))), (10, pI 0)]) (aR3 L bad) (.exit 0, (tl 0 47 []), (aR3 L bad))) :
  Runs lp 59 [P00] (aR3 L bad) (.tup [.p (.int .u64 0), pI 0], (aR3 L bad)) :=
 have q1 : Runs lp 24 [P00] (aR3 L bad) (pI ((List.length (bs L) : Nat) : Int), (aR3 L bad)) := (Fc (bad := bad) c1)
 rO [(4, oC q1), (2, oL h2)] [_, _] (by kernel_rfl) ⟨q1, h2, trivial⟩
theorem Uy {L : BY} {bad : Bool} {i : Nat} {u m : Int} (c1 : (decide ((i : Int) < m)) = true) (h2 : (i : Nat) < List.length L) (c3 : ((i : Int) == 9) = true) (c4 : (decide (((List.getD (α := UInt8) L i 0).toNat : Int) > 1)) = true) :
  LoopN lp 1 (Ag Ec 0) (tl 0 47 [(0, P00), (4, .p (.int .u64 u)), (9, pI m), (10, pI (i : Int))]) (aR3 L bad) (.ret, (tl 0 47 [(2, .p (.int .u64 0)), (3, pI 0)]), (aR3 L bad)) :=
 have q1 : OpE (aR3 L bad) (.indexAddr 1 (.const (pS L)) (.const (pI (i : Int)))) (.pin [.int .u8 ((List.getD (α := UInt8) L i 0).toNat : Int)] 0) := (Bi rfl rfl h2)
 lX [(1, .b true), (7, oO q1), (5, .b true), (1, .b true), (1, .b true), (1, .b true), (0, .b true)] [_, _, _, _, _, _, _] (by kernel_rfl) (by kernel_rfl) ⟨cI c1, q1, cI c3, cI c3, cI c3, cI c4, cI c4, trivial⟩
theorem Qo {L : BY} {bad : Bool} {i : Nat} {u m : Int} (c1 : (decide ((i : Int) < m)) = true) (h2 : (i : Nat) < List.length L) (c3 : ((i : Int) == 9) = true) (c4 : (decide (((List.getD (α := UInt8) L i 0).toNat : Int) > 1)) = false) (c5 : (decide ((i : Int) > 0)) = true) (c6 : (((List.getD (α := UInt8) L i 0).toNat : Int) == 0) = true) :
  LoopN lp 1 (Ag Ec 0) (tl 0 47 [(0, P00), (4, .p (.int .u64 u)), (9, pI m), (10, pI (i : Int))]) (aR3 L bad) (.ret, (tl 0 47 [(2, .p (.int .u64 0)), (3, pI 0)]), (aR3 L bad)) :=
 have q1 : OpE (aR3 L bad) (.indexAddr 1 (.const (pS L)) (.const (pI (i : Int)))) (.pin [.int .u8 ((List.getD (α := UInt8) L i 0).toNat : Int)] 0) := (Bi rfl rfl h2)
 lX [(1, .b true), (7, oO q1), (5, .b true), (1, .b true), (1, .b true), (1, .b false), (3, .b true), (1, .b true), (1, .b true), (1, .b true)] [_, _, _, _, _, _, _, _, _, _] (by kernel_rfl) (by kernel_rfl) ⟨cI c1, q1, cI c3, cI c3, cI c3, cI c4, cI c5, cI c5, cI c5, cI c6, trivial⟩
theorem Ou {L : BY} {bad : Bool} {i : Nat} {u m : Int} (c1 : (decide ((i : Int) < m)) = true) (h2 : (i : Nat) < List.length L) (c3 : ((i : Int) == 9) = true) (c4 : (decide (((List.getD (α := UInt8) L i 0).toNat : Int) > 1)) = false) (c5 : (decide ((i : Int) > 0)) = true) (c6 : (((List.getD (α := UInt8) L i 0).toNat : Int) == 0) = false) (h7 : 0 ≤ IntKind.wrap .i64 (7 * (i : Int))) (c8 : (decide (((List.getD (α := UInt8) L i 0).toNat : Int) < 128)) = true) :
  LoopN lp 1 (Ag Ec 0) (tl 0 47 [(0, P00), (4, .p (.int .u64 u)), (9, pI m), (10, pI (i : Int))]) (aR3 L bad) (.ret, (tl 0 47 [(2, .p (.int .u64 (IntKind.wrap .u64 ↑(BitVec.ofInt (IntKind.bits .u64) u ||| BitVec.ofInt (IntKind.bits .u64) (IntKind.wrap .u64 ((IntKind.wrap .u64 (IntKind.wrap .u8 ↑(BitVec.ofInt (IntKind.bits .u8) ((List.getD (α := UInt8) L i 0).toNat : Int) &&& BitVec.ofInt (IntKind.bits .u8) 127).toNat)) * 2 ^ min (Int.toNat (IntKind.wrap .i64 (7 * (i : Int)))) (IntKind.bits .u64)))).toNat))), (3, pI (IntKind.wrap .i64 ((i : Int) + 1)))]), (aR3 L bad)) :=
 have q1 : OpE (aR3 L bad) (.indexAddr 1 (.const (pS L)) (.const (pI (i : Int)))) (.pin [.int .u8 ((List.getD (α := UInt8) L i 0).toNat : Int)] 0) := (Bi rfl rfl h2)
 have q2 : OpE (aR3 L bad) (.bin .shl (.const (.p (.int .u64 (IntKind.wrap .u64 (IntKind.wrap .u8 ↑(BitVec.ofInt (IntKind.bits .u8) ((List.getD (α := UInt8) L i 0).toNat : Int) &&& BitVec.ofInt (IntKind.bits .u8) 127).toNat))))) (.const (pI (IntKind.wrap .i64 (7 * (i : Int)))))) (.p (.int .u64 (IntKind.wrap .u64 ((IntKind.wrap .u64 (IntKind.wrap .u8 ↑(BitVec.ofInt (IntKind.bits .u8) ((List.getD (α := UInt8) L i 0).toNat : Int) &&& BitVec.ofInt (IntKind.bits .u8) 127).toNat)) * 2 ^ min (Int.toNat (IntKind.wrap .i64 (7 * (i : Int)))) (IntKind.bits .u64))))) := (Dd h7)
 lX [(1, .b true), (7, oO q1), (5, .b true), (1, .b true), (1, .b true), (1, .b false), (3, .b true), (1, .b true), (1, .b true), (1, .b false), (6, oO q2), (4, .b true)] [_, _, _, _, _, _, _, _, _, _, _, _] (by kernel_rfl) (by kernel_rfl) ⟨cI c1, q1, cI c3, cI c3, cI c3, cI c4, cI c5, cI c5, cI c5, cI c6, q2, cI c8, trivial⟩
theorem Se {L : BY} {bad : Bool} {i : Nat} {u m : Int} (c1 : (decide ((i : Int) < m)) = true) (h2 : (i : Nat) < List.length L) (c3 : ((i : Int) == 9) = false) (c4 : (decide ((i : Int) > 0)) = true) (c5 : (((List.getD (α := UInt8) L i 0).toNat : Int) == 0) = true) :
  LoopN lp 1 (Ag Ec 0) (tl 0 47 [(0, P00), (4, .p (.int .u64 u)), (9, pI m), (10, pI (i : Int))]) (aR3 L bad) (.ret, (tl 0 47 [(2, .p (.int .u64 0)), (3, pI 0)]), (aR3 L bad)) :=
 have q1 : OpE (aR3 L bad) (.indexAddr 1 (.const (pS L)) (.const (pI (i : Int)))) (.pin [.int .u8 ((List.getD (α := UInt8) L i 0).toNat : Int)] 0) := (Bi rfl rfl h2)
 lX [(1, .b true), (7, oO q1), (5, .b false), (0, .b false), (0, .b false), (5, .b true), (1, .b true), (1, .b true), (1, .b true)] [_, _, _, _, _, _, _, _, _] (by kernel_rfl) (by kernel_rfl) ⟨cI c1, q1, cI c3, cI c3, cI c3, cI c4, cI c4, cI c4, cI c5, trivial⟩
theorem Qp {L : BY} {bad : Bool} {i : Nat} {u m : Int} (c1 : (decide ((i : Int) < m)) = true) (h2 : (i : Nat) < List.length L) (c3 : ((i : Int) == 9) = false) (c4 : (decide ((i : Int) > 0)) = true) (c5 : (((List.getD (α := UInt8) L i 0).toNat : Int) == 0) = false) (h6 : 0 ≤ IntKind.wrap .i64 (7 * (i : Int))) (c7 : (decide (((List.getD (α := UInt8) L i 0).toNat : Int) < 128)) = true) :
  LoopN lp 1 (Ag Ec 0) (tl 0 47 [(0, P00), (4, .p (.int .u64 u)), (9, pI m), (10, pI (i : Int))]) (aR3 L bad) (.ret, (tl 0 47 [(2, .p (.int .u64 (IntKind.wrap .u64 ↑(BitVec.ofInt (IntKind.bits .u64) u ||| BitVec.ofInt (IntKind.bits .u64) (IntKind.wrap .u64 ((IntKind.wrap .u64 (IntKind.wrap .u8 ↑(BitVec.ofInt (IntKind.bits .u8) ((List.getD (α := UInt8) L i 0).toNat : Int) &&& BitVec.ofInt (IntKind.bits .u8) 127).toNat)) * 2 ^ min (Int.toNat (IntKind.wrap .i64 (7 * (i : Int)))) (IntKind.bits .u64)))).toNat))), (3, pI (IntKind.wrap .i64 ((i : Int) + 1)))]), (aR3 L bad)) :=
 have q1 : OpE (aR3 L bad) (.indexAddr 1 (.const (pS L)) (.const (pI (i : Int)))) (.pin [.int .u8 ((List.getD (α := UInt8) L i 0).toNat : Int)] 0) := (Bi rfl rfl h2)
 have q2 : OpE (aR3 L bad) (.bin .shl (.const (.p (.int .u64 (IntKind.wrap .u64 (IntKind.wrap .u8 ↑(BitVec.ofInt (IntKind.bits .u8) ((List.getD (α := UInt8) L i 0).toNat : Int) &&& BitVec.ofInt (IntKind.bits .u8) 127).toNat))))) (.const (pI (IntKind.wrap .i64 (7 * (i : Int)))))) (.p (.int .u64 (IntKind.wrap .u64 ((IntKind.wrap .u64 (IntKind.wrap .u8 ↑(BitVec.ofInt (IntKind.bits .u8) ((List.getD (α := UInt8) L i 0).toNat : Int) &&& BitVec.ofInt (IntKind.bits .u8) 127).toNat)) * 2 ^ min (Int.toNat (IntKind.wrap .i64 (7 * (i : Int)))) (IntKind.bits .u64))))) := (Dd h6)
 lX [(1, .b true), (7, oO q1), (5, .b false), (0, .b false), (0, .b false), (5, .b true), (1, .b true), (1, .b true), (1, .b false), (6, oO q2), (4, .b true)] [_, _, _, _, _, _, _, _, _, _, _] (by kernel_rfl) (by kernel_rfl) ⟨cI c1, q1, cI c3, cI c3, cI c3, cI c4, cI c4, cI c4, cI c5, q2, cI c7, trivial⟩
theorem Qq {L : BY} {bad : Bool} {i : Nat} {u m : Int} (c1 : (decide ((i : Int) < m)) = true) (h2 : (i : Nat) < List.length L) (c3 : ((i : Int) == 9) = false) (c4 : (decide ((i : Int) > 0)) = true) (c5 : (((List.getD (α := UInt8) L i 0).toNat : Int) == 0) = false) (h6 : 0 ≤ IntKind.wrap .i64 (7 * (i : Int))) (c7 : (decide (((List.getD (α := UInt8) L i 0).toNat : Int) < 128)) = false) {r : RL} (hr : LoopN lp 1 (Ag Ec 0) (tl 0 47 [(0, P00), (4, .p (.int .u64 (IntKind.wrap .u64 ↑(BitVec.ofInt (IntKind.bits .u64) u ||| BitVec.ofInt (IntKind.bits .u64) (IntKind.wrap .u64 ((IntKind.wrap .u64 (IntKind.wrap .u8 ↑(BitVec.ofInt (IntKind.bits .u8) ((List.getD (α := UInt8) L i 0).toNat : Int) &&& BitVec.ofInt (IntKind.bits .u8) 127).toNat)) * 2 ^ min (Int.toNat (IntKind.wrap .i64 (7 * (i : Int)))) (IntKind.bits .u64)))).toNat))), (9, pI m), (10, pI (IntKind.wrap .i64 ((i : Int) + 1)))]) (aR3 L bad) r) :
  LoopN lp 1 (Ag Ec 0) (tl 0 47 [(0, P00), (4, .p (.int .u64 u)), (9, pI m), (10, pI (i : Int))]) (aR3 L bad) r :=
 have q1 : OpE (aR3 L bad) (.indexAddr 1 (.const (pS L)) (.const (pI (i : Int)))) (.pin [.int .u8 ((List.getD (α := UInt8) L i 0).toNat : Int)] 0) := (Bi rfl rfl h2)
 have q2 : OpE (aR3 L bad) (.bin .shl (.const (.p (.int .u64 (IntKind.wrap .u64 (IntKind.wrap .u8 ↑(BitVec.ofInt (IntKind.bits .u8) ((List.getD (α := UInt8) L i 0).toNat : Int) &&& BitVec.ofInt (IntKind.bits .u8) 127).toNat))))) (.const (pI (IntKind.wrap .i64 (7 * (i : Int)))))) (.p (.int .u64 (IntKind.wrap .u64 ((IntKind.wrap .u64 (IntKind.wrap .u8 ↑(BitVec.ofInt (IntKind.bits .u8) ((List.getD (α := UInt8) L i 0).toNat : Int) &&& BitVec.ofInt (IntKind.bits .u8) 127).toNat)) * 2 ^ min (Int.toNat (IntKind.wrap .i64 (7 * (i : Int)))) (IntKind.bits .u64))))) := (Dd h6)
 lO [(1, .b true), (7, oO q1), (5, .b false), (0, .b false), (0, .b false), (5, .b true), (1, .b true), (1, .b true), (1, .b false), (6, oO q2), (4, .b false)] [_, _, _, _, _, _, _, _, _, _, _] (by kernel_rfl) ⟨cI c1, q1, cI c3, cI c3, cI c3, cI c4, cI c4, cI c4, cI c5, q2, cI c7, trivial⟩ hr
theorem Sf {L : BY} {bad : Bool} {i : Nat} {u m : Int} (c1 : (decide ((i : Int) < m)) = true) (h2 : (i : Nat) < List.length L) (c3 : ((i : Int) == 9) = false) (c4 : (decide ((i : Int) > 0)) = false) (h5 : 0 ≤ IntKind.wrap .i64 (7 * (i : Int))) (c6 : (decide (((List.getD (α := UInt8) L i 0).toNat : Int) < 128)) = true) :
  LoopN lp 1 (Ag Ec 0) (tl 0 47 [(0, P00), (4, .p (.int .u64 u)), (9, pI m), (10, pI (i : Int))]) (aR3 L bad) (.ret, (tl 0 47 [(2, .p (.int .u64 (IntKind.wrap .u64 ↑(BitVec.ofInt (IntKind.bits .u64) u ||| BitVec.ofInt (IntKind.bits .u64) (IntKind.wrap .u64 ((IntKind.wrap .u64 (IntKind.wrap .u8 ↑(BitVec.ofInt (IntKind.bits .u8) ((List.getD (α := UInt8) L i 0).toNat : Int) &&& BitVec.ofInt (IntKind.bits .u8) 127).toNat)) * 2 ^ min (Int.toNat (IntKind.wrap .i64 (7 * (i : Int)))) (IntKind.bits .u64)))).toNat))), (3, pI (IntKind.wrap .i64 ((i : Int) + 1)))]), (aR3 L bad)) :=
 have q1 : OpE (aR3 L bad) (.indexAddr 1 (.const (pS L)) (.const (pI (i : Int)))) (.pin [.int .u8 ((List.getD (α := UInt8) L i 0).toNat : Int)] 0) := (Bi rfl rfl h2)
 have q2 : OpE (aR3 L bad) (.bin .shl (.const (.p (.int .u64 (IntKind.wrap .u64 (IntKind.wrap .u8 ↑(BitVec.ofInt (IntKind.bits .u8) ((List.getD (α := UInt8) L i 0).toNat : Int) &&& BitVec.ofInt (IntKind.bits .u8) 127).toNat))))) (.const (pI (IntKind.wrap .i64 (7 * (i : Int)))))) (.p (.int .u64 (IntKind.wrap .u64 ((IntKind.wrap .u64 (IntKind.wrap .u8 ↑(BitVec.ofInt (IntKind.bits .u8) ((List.getD (α := UInt8) L i 0).toNat : Int) &&& BitVec.ofInt (IntKind.bits .u8) 127).toNat)) * 2 ^ min (Int.toNat (IntKind.wrap .i64 (7 * (i : Int)))) (IntKind.bits .u64))))) := (Dd h5)
 lX [(1, .b true), (7, oO q1), (5, .b false), (0, .b false), (0, .b false), (5, .b false), (0, .b false), (0, .b false), (8, oO q2), (4, .b true)] [_, _, _, _, _, _, _, _, _, _] (by kernel_rfl) (by kernel_rfl) ⟨cI c1, q1, cI c3, cI c3, cI c3, cI c4, cI c4, cI c4, q2, cI c6, trivial⟩
theorem Sg {L : BY} {bad : Bool} {i : Nat} {u m : Int} (c1 : (decide ((i : Int) < m)) = true) (h2 : (i : Nat) < List.length L) (c3 : ((i : Int) == 9) = false) (c4 : (decide ((i : Int) > 0)) = false) (h5 : 0 ≤ IntKind.wrap .i64 (7 * (i : Int))) (c6 : (decide (((List.getD (α := UInt8) L i 0).toNat : Int) < 128)) = false) {r : RL} (hr : LoopN lp 1 (Ag Ec 0) (tl 0 47 [(0, P00), (4, .p (.int .u64 (IntKind.wrap .u64 ↑(BitVec.ofInt (IntKind.bits .u64) u ||| BitVec.ofInt (IntKind.bits .u64) (IntKind.wrap .u64 ((IntKind.wrap .u64 (IntKind.wrap .u8 ↑(BitVec.ofInt (IntKind.bits .u8) ((List.getD (α := UInt8) L i 0).toNat : Int) &&& BitVec.ofInt (IntKind.bits .u8) 127).toNat)) * 2 ^ min (Int.toNat (IntKind.wrap .i64 (7 * (i : Int)))) (IntKind.bits .u64)))).toNat))), (9, pI m), (10, pI (IntKind.wrap .i64 ((i : Int) + 1)))]) (aR3 L bad) r) :
  LoopN lp 1 (Ag Ec 0) (tl 0 47 [(0, P00), (4, .p (.int .u64 u)), (9, pI m), (10, pI (i : Int))]) (aR3 L bad) r :=
 have q1 : OpE (aR3 L bad) (.indexAddr 1 (.const (pS L)) (.const (pI (i : Int)))) (.pin [.int .u8 ((List.getD (α := UInt8) L i 0).toNat : Int)] 0) := (Bi rfl rfl h2)
 have q2 : OpE (aR3 L bad) (.bin .shl (.const (.p (.int .u64 (IntKind.wrap .u64 (IntKind.wrap .u8 ↑(BitVec.ofInt (IntKind.bits .u8) ((List.getD (α := UInt8) L i 0).toNat : Int) &&& BitVec.ofInt (IntKind.bits .u8) 127).toNat))))) (.const (pI (IntKind.wrap .i64 (7 * (i : Int)))))) (.p (.int .u64 (IntKind.wrap .u64 ((IntKind.wrap .u64 (IntKind.wrap .u8 ↑(BitVec.ofInt (IntKind.bits .u8) ((List.getD (α := UInt8) L i 0).toNat : Int) &&& BitVec.ofInt (IntKind.bits .u8) 127).toNat)) * 2 ^ min (Int.toNat (IntKind.wrap .i64 (7 * (i : Int)))) (IntKind.bits .u64))))) := (Dd h5)
 lO [(1, .b true), (7, oO q1), (5, .b false), (0, .b false), (0, .b false), (5, .b false), (0, .b false), (0, .b false), (8, oO q2), (4, .b false)] [_, _, _, _, _, _, _, _, _, _] (by kernel_rfl) ⟨cI c1, q1, cI c3, cI c3, cI c3, cI c4, cI c4, cI c4, q2, cI c6, trivial⟩ hr
theorem Ov {L : BY} {bad : Bool} {i : Nat} {u m : Int} (c1 : (decide ((i : Int) < m)) = false) :
  LoopN lp 1 (Ag Ec 0) (tl 0 47 [(0, P00), (4, .p (.int .u64 u)), (9, pI m), (10, pI (i : Int))]) (aR3 L bad) (.exit 0, (tl 0 47 []), (aR3 L bad)) :=
 lX [(1, .b false)] [_] (by kernel_rfl) (by kernel_rfl) ⟨cI c1, trivial⟩
theorem Sh {L : BY} {bad : Bool} {i : Nat} {u : Int} (c1 : (decide ((i : Int) < 10)) = true) (c2 : (decide ((i : Int) < ((List.length (bs L) : Nat) : Int))) = true) (h3 : (i : Nat) < List.length L) (c4 : ((i : Int) == 9) = true) (c5 : (decide (((List.getD (α := UInt8) L i 0).toNat : Int) > 1)) = true) :
  LoopN lp 1 (Ag Ed 0) (tl 0 82 [(0, P00), (3, .p (.int .u64 u)), (4, pI (i : Int))]) (aR3 L bad) (.exit 0, (tl 0 82 [(0, P00)]), (aR3 L bad)) :=
 have q1 : OpE (aR3 L bad) (.indexAddr 1 (.const (pS L)) (.const (pI (i : Int)))) (.pin [.int .u8 ((List.getD (α := UInt8) L i 0).toNat : Int)] 0) := (Bi rfl rfl h3)
 have q2 : OpE (aR3 L bad) (.indexAddr 1 (.const (pS L)) (.const (pI (i : Int)))) (.pin [.int .u8 ((List.getD (α := UInt8) L i 0).toNat : Int)] 0) := (Bi rfl rfl h3)
 lX [(3, .b true), (1, .b true), (1, .b true), (1, .b true), (1, .b true), (1, .b true), (1, .b true), (1, .b true), (0, .b true), (5, oO q1), (7, .b true), (1, .b true), (1, .b true), (1, .b true), (1, .b true), (1, .b true), (0, oO q2), (0, .b true), (1, .b true), (1, .b true), (1, .b true), (0, .b true), (0, .b true), (8, .b true), (0, .b true)] [_, _, _, _, _, _, _, _, _, _, _, _, _, _, _, _, _, _, _, _, _, _, _, _, _] (by kernel_rfl) (by kernel_rfl) ⟨cI c1, cI c1, cI c1, cI c1, cI c1, cI c1, cI c1, cI c1, cI c2, q1, cI c4, cI c4, cI c4, cI c4, cI c4, cI c4, q2, cI c4, cI c4, cI c4, cI c5, cI c5, cI c5, cI c5, cI c5, trivial⟩
theorem Ow {L : BY} {bad : Bool} {i : Nat} {u : Int} (c1 : (decide ((i : Int) < 10)) = true) (c2 : (decide ((i : Int) < ((List.length (bs L) : Nat) : Int))) = true) (h3 : (i : Nat) < List.length L) (c4 : ((i : Int) == 9) = true) (c5 : (decide (((List.getD (α := UInt8) L i 0).toNat : Int) > 1)) = false) (c6 : (decide ((i : Int) > 0)) = true) (c7 : (((List.getD (α := UInt8) L i 0).toNat : Int) == 0) = true) :
  LoopN lp 1 (Ag Ed 0) (tl 0 82 [(0, P00), (3, .p (.int .u64 u)), (4, pI (i : Int))]) (aR3 L bad) (.exit 0, (tl 0 82 [(0, P00)]), (aR3 L bad)) :=
 have q1 : OpE (aR3 L bad) (.indexAddr 1 (.const (pS L)) (.const (pI (i : Int)))) (.pin [.int .u8 ((List.getD (α := UInt8) L i 0).toNat : Int)] 0) := (Bi rfl rfl h3)
 have q2 : OpE (aR3 L bad) (.indexAddr 1 (.const (pS L)) (.const (pI (i : Int)))) (.pin [.int .u8 ((List.getD (α := UInt8) L i 0).toNat : Int)] 0) := (Bi rfl rfl h3)
 have q3 : OpE (aR3 L bad) (.indexAddr 1 (.const (pS L)) (.const (pI (i : Int)))) (.pin [.int .u8 ((List.getD (α := UInt8) L i 0).toNat : Int)] 0) := (Bi rfl rfl h3)
 lX [(3, .b true), (1, .b true), (1, .b true), (1, .b true), (1, .b true), (1, .b true), (1, .b true), (1, .b true), (0, .b true), (5, oO q1), (7, .b true), (1, .b true), (1, .b true), (1, .b true), (1, .b true), (1, .b true), (0, oO q2), (0, .b true), (1, .b true), (1, .b true), (1, .b false), (1, .b false), (1, .b false), (1, .b true), (1, .b true), (1, .b true), (1, .b true), (1, .b true), (1, .b true), (0, oO q3), (0, .b true), (1, .b true), (1, .b false), (0, .b true), (0, .b false), (0, .b true)] [_, _, _, _, _, _, _, _, _, _, _, _, _, _, _, _, _, _, _, _, _, _, _, _, _, _, _, _, _, _, _, _, _, _, _, _] (by kernel_rfl) (by kernel_rfl) ⟨cI c1, cI c1, cI c1, cI c1, cI c1, cI c1, cI c1, cI c1, cI c2, q1, cI c4, cI c4, cI c4, cI c4, cI c4, cI c4, q2, cI c4, cI c4, cI c4, cI c5, cI c5, cI c5, cI c6, cI c6, cI c6, cI c6, cI c6, cI c6, q3, cI c6, cI c6, cI c5, cI c6, cI c5, cI c7, trivial⟩
theorem M6 {L : BY} {bad : Bool} {i : Nat} {u : Int} (c1 : (decide ((i : Int) < 10)) = true) (c2 : (decide ((i : Int) < ((List.length (bs L) : Nat) : Int))) = true) (h3 : (i : Nat) < List.length L) (c4 : ((i : Int) == 9) = true) (c5 : (decide (((List.getD (α := UInt8) L i 0).toNat : Int) > 1)) = false) (c6 : (decide ((i : Int) > 0)) = true) (c7 : (((List.getD (α := UInt8) L i 0).toNat : Int) == 0) = false) (h8 : 0 ≤ IntKind.wrap .i64 (7 * (i : Int))) (c9 : (decide (((List.getD (α := UInt8) L i 0).toNat : Int) < 128)) = true) (h10 : 0 ≤ IntKind.wrap .i64 ((i : Int) + 1)) (h11 : IntKind.wrap .i64 ((i : Int) + 1) ≤ (List.length L : Int)) :
  LoopN lp 1 (Ag Ed 0) (tl 0 82 [(0, P00), (3, .p (.int .u64 u)), (4, pI (i : Int))]) (aR3 L bad) (.ret, (tl 0 82 [(2, .p (.int .u64 (IntKind.wrap .u64 (u + (IntKind.wrap .u64 ((IntKind.wrap .u64 (Int.tmod ((List.getD (α := UInt8) L i 0).toNat : Int) 128)) * 2 ^ min (Int.toNat (IntKind.wrap .i64 (7 * (i : Int)))) (IntKind.bits .u64)))))))]), [.row [[pS (List.drop (Int.toNat (IntKind.wrap .i64 ((i : Int) + 1))) L), pB bad]]]) :=
 have q1 : OpE (aR3 L bad) (.indexAddr 1 (.const (pS L)) (.const (pI (i : Int)))) (.pin [.int .u8 ((List.getD (α := UInt8) L i 0).toNat : Int)] 0) := (Bi rfl rfl h3)
 have q2 : OpE (aR3 L bad) (.indexAddr 1 (.const (pS L)) (.const (pI (i : Int)))) (.pin [.int .u8 ((List.getD (α := UInt8) L i 0).toNat : Int)] 0) := (Bi rfl rfl h3)
 have q3 : OpE (aR3 L bad) (.indexAddr 1 (.const (pS L)) (.const (pI (i : Int)))) (.pin [.int .u8 ((List.getD (α := UInt8) L i 0).toNat : Int)] 0) := (Bi rfl rfl h3)
 have q4 : OpE (aR3 L bad) (.bin .shl (.const (.p (.int .u64 (IntKind.wrap .u64 (Int.tmod ((List.getD (α := UInt8) L i 0).toNat : Int) 128))))) (.const (pI (IntKind.wrap .i64 (7 * (i : Int)))))) (.p (.int .u64 (IntKind.wrap .u64 ((IntKind.wrap .u64 (Int.tmod ((List.getD (α := UInt8) L i 0).toNat : Int) 128)) * 2 ^ min (Int.toNat (IntKind.wrap .i64 (7 * (i : Int)))) (IntKind.bits .u64))))) := (Dd h8)
 have q5 : OpE (aR3 L bad) (.indexAddr 1 (.const (pS L)) (.const (pI (i : Int)))) (.pin [.int .u8 ((List.getD (α := UInt8) L i 0).toNat : Int)] 0) := (Bi rfl rfl h3)
 have q6 : OpE (aR3 L bad) (.slice 1 (.const (pS L)) (some (.const (pI (IntKind.wrap .i64 ((i : Int) + 1))))) none none) (pS (List.drop (Int.toNat (IntKind.wrap .i64 ((i : Int) + 1))) L)) := (Cm h10 h11)
 lX [(3, .b true), (1, .b true), (1, .b true), (1, .b true), (1, .b true), (1, .b true), (1, .b true), (1, .b true), (0, .b true), (5, oO q1), (7, .b true), (1, .b true), (1, .b true), (1, .b true), (1, .b true), (1, .b true), (0, oO q2), (0, .b true), (1, .b true), (1, .b true), (1, .b false), (1, .b false), (1, .b false), (1, .b true), (1, .b true), (1, .b true), (1, .b true), (1, .b true), (1, .b true), (0, oO q3), (0, .b true), (1, .b true), (1, .b false), (0, .b true), (0, .b false), (0, .b false), (4, oO q4), (7, oO q5), (2, .b true), (7, oO q6)] [_, _, _, _, _, _, _, _, _, _, _, _, _, _, _, _, _, _, _, _, _, _, _, _, _, _, _, _, _, _, _, _, _, _, _, _, _, _, _, _] (by kernel_rfl) (by kernel_rfl) ⟨cI c1, cI c1, cI c1, cI c1, cI c1, cI c1, cI c1, cI c1, cI c2, q1, cI c4, cI c4, cI c4, cI c4, cI c4, cI c4, q2, cI c4, cI c4, cI c4, cI c5, cI c5, cI c5, cI c6, cI c6, cI c6, cI c6, cI c6, cI c6, q3, cI c6, cI c6, cI c5, cI c6, cI c5, cI c7, q4, q5, cI c9, q6, trivial⟩
theorem Qr {L : BY} {bad : Bool} {i : Nat} {u : Int} (c1 : (decide ((i : Int) < 10)) = true) (c2 : (decide ((i : Int) < ((List.length (bs L) : Nat) : Int))) = true) (h3 : (i : Nat) < List.length L) (c4 : ((i : Int) == 9) = false) (c5 : (decide ((i : Int) > 0)) = true) (c6 : (((List.getD (α := UInt8) L i 0).toNat : Int) == 0) = true) :
  LoopN lp 1 (Ag Ed 0) (tl 0 82 [(0, P00), (3, .p (.int .u64 u)), (4, pI (i : Int))]) (aR3 L bad) (.exit 0, (tl 0 82 [(0, P00)]), (aR3 L bad)) :=
 have q1 : OpE (aR3 L bad) (.indexAddr 1 (.const (pS L)) (.const (pI (i : Int)))) (.pin [.int .u8 ((List.getD (α := UInt8) L i 0).toNat : Int)] 0) := (Bi rfl rfl h3)
 have q2 : OpE (aR3 L bad) (.indexAddr 1 (.const (pS L)) (.const (pI (i : Int)))) (.pin [.int .u8 ((List.getD (α := UInt8) L i 0).toNat : Int)] 0) := (Bi rfl rfl h3)
 lX [(3, .b true), (1, .b true), (1, .b true), (1, .b true), (1, .b true), (1, .b true), (1, .b true), (1, .b true), (0, .b true), (5, oO q1), (7, .b false), (0, .b false), (0, .b false), (0, .b false), (0, .b false), (0, .b false), (0, .b false), (0, .b false), (0, .b false), (7, .b true), (1, .b true), (1, .b true), (1, .b true), (1, .b true), (1, .b true), (0, oO q2), (0, .b true), (1, .b true), (2, .b true), (1, .b true)] [_, _, _, _, _, _, _, _, _, _, _, _, _, _, _, _, _, _, _, _, _, _, _, _, _, _, _, _, _, _] (by kernel_rfl) (by kernel_rfl) ⟨cI c1, cI c1, cI c1, cI c1, cI c1, cI c1, cI c1, cI c1, cI c2, q1, cI c4, cI c4, cI c4, cI c4, cI c4, cI c4, cI c4, cI c4, cI c4, cI c5, cI c5, cI c5, cI c5, cI c5, cI c5, q2, cI c5, cI c5, cI c5, cI c6, trivial⟩
theorem Ox {L : BY} {bad : Bool} {i : Nat} {u : Int} (c1 : (decide ((i : Int) < 10)) = true) (c2 : (decide ((i : Int) < ((List.length (bs L) : Nat) : Int))) = true) (h3 : (i : Nat) < List.length L) (c4 : ((i : Int) == 9) = false) (c5 : (decide ((i : Int) > 0)) = true) (c6 : (((List.getD (α := UInt8) L i 0).toNat : Int) == 0) = false) (h7 : 0 ≤ IntKind.wrap .i64 (7 * (i : Int))) (c8 : (decide (((List.getD (α := UInt8) L i 0).toNat : Int) < 128)) = true) (h9 : 0 ≤ IntKind.wrap .i64 ((i : Int) + 1)) (h10 : IntKind.wrap .i64 ((i : Int) + 1) ≤ (List.length L : Int)) :
  LoopN lp 1 (Ag Ed 0) (tl 0 82 [(0, P00), (3, .p (.int .u64 u)), (4, pI (i : Int))]) (aR3 L bad) (.ret, (tl 0 82 [(2, .p (.int .u64 (IntKind.wrap .u64 (u + (IntKind.wrap .u64 ((IntKind.wrap .u64 (Int.tmod ((List.getD (α := UInt8) L i 0).toNat : Int) 128)) * 2 ^ min (Int.toNat (IntKind.wrap .i64 (7 * (i : Int)))) (IntKind.bits .u64)))))))]), [.row [[pS (List.drop (Int.toNat (IntKind.wrap .i64 ((i : Int) + 1))) L), pB bad]]]) :=
 have q1 : OpE (aR3 L bad) (.indexAddr 1 (.const (pS L)) (.const (pI (i : Int)))) (.pin [.int .u8 ((List.getD (α := UInt8) L i 0).toNat : Int)] 0) := (Bi rfl rfl h3)
 have q2 : OpE (aR3 L bad) (.indexAddr 1 (.const (pS L)) (.const (pI (i : Int)))) (.pin [.int .u8 ((List.getD (α := UInt8) L i 0).toNat : Int)] 0) := (Bi rfl rfl h3)
 have q3 : OpE (aR3 L bad) (.bin .shl (.const (.p (.int .u64 (IntKind.wrap .u64 (Int.tmod ((List.getD (α := UInt8) L i 0).toNat : Int) 128))))) (.const (pI (IntKind.wrap .i64 (7 * (i : Int)))))) (.p (.int .u64 (IntKind.wrap .u64 ((IntKind.wrap .u64 (Int.tmod ((List.getD (α := UInt8) L i 0).toNat : Int) 128)) * 2 ^ min (Int.toNat (IntKind.wrap .i64 (7 * (i : Int)))) (IntKind.bits .u64))))) := (Dd h7)
 have q4 : OpE (aR3 L bad) (.indexAddr 1 (.const (pS L)) (.const (pI (i : Int)))) (.pin [.int .u8 ((List.getD (α := UInt8) L i 0).toNat : Int)] 0) := (Bi rfl rfl h3)
 have q5 : OpE (aR3 L bad) (.slice 1 (.const (pS L)) (some (.const (pI (IntKind.wrap .i64 ((i : Int) + 1))))) none none) (pS (List.drop (Int.toNat (IntKind.wrap .i64 ((i : Int) + 1))) L)) := (Cm h9 h10)
 lX [(3, .b true), (1, .b true), (1, .b true), (1, .b true), (1, .b true), (1, .b true), (1, .b true), (1, .b true), (0, .b true), (5, oO q1), (7, .b false), (0, .b false), (0, .b false), (0, .b false), (0, .b false), (0, .b false), (0, .b false), (0, .b false), (0, .b false), (7, .b true), (1, .b true), (1, .b true), (1, .b true), (1, .b true), (1, .b true), (0, oO q2), (0, .b true), (1, .b true), (2, .b true), (1, .b false), (4, oO q3), (7, oO q4), (2, .b true), (7, oO q5)] [_, _, _, _, _, _, _, _, _, _, _, _, _, _, _, _, _, _, _, _, _, _, _, _, _, _, _, _, _, _, _, _, _, _] (by kernel_rfl) (by kernel_rfl) ⟨cI c1, cI c1, cI c1, cI c1, cI c1, cI c1, cI c1, cI c1, cI c2, q1, cI c4, cI c4, cI c4, cI c4, cI c4, cI c4, cI c4, cI c4, cI c4, cI c5, cI c5, cI c5, cI c5, cI c5, cI c5, q2, cI c5, cI c5, cI c5, cI c6, q3, q4, cI c8, q5, trivial⟩
theorem Oy {L : BY} {bad : Bool} {i : Nat} {u : Int} (c1 : (decide ((i : Int) < 10)) = true) (c2 : (decide ((i : Int) < ((List.length (bs L) : Nat) : Int))) = true) (h3 : (i : Nat) < List.length L) (c4 : ((i : Int) == 9) = false) (c5 : (decide ((i : Int) > 0)) = true) (c6 : (((List.getD (α := UInt8) L i 0).toNat : Int) == 0) = false) (h7 : 0 ≤ IntKind.wrap .i64 (7 * (i : Int))) (c8 : (decide (((List.getD (α := UInt8) L i 0).toNat : Int) < 128)) = false) {r : RL} (hr : LoopN lp 1 (Ag Ed 0) (tl 0 82 [(0, P00), (3, .p (.int .u64 (IntKind.wrap .u64 (u + (IntKind.wrap .u64 ((IntKind.wrap .u64 (Int.tmod ((List.getD (α := UInt8) L i 0).toNat : Int) 128)) * 2 ^ min (Int.toNat (IntKind.wrap .i64 (7 * (i : Int)))) (IntKind.bits .u64))))))), (4, pI (IntKind.wrap .i64 ((i : Int) + 1)))]) (aR3 L bad) r) :
  LoopN lp 1 (Ag Ed 0) (tl 0 82 [(0, P00), (3, .p (.int .u64 u)), (4, pI (i : Int))]) (aR3 L bad) r :=
 have q1 : OpE (aR3 L bad) (.indexAddr 1 (.const (pS L)) (.const (pI (i : Int)))) (.pin [.int .u8 ((List.getD (α := UInt8) L i 0).toNat : Int)] 0) := (Bi rfl rfl h3)
 have q2 : OpE (aR3 L bad) (.indexAddr 1 (.const (pS L)) (.const (pI (i : Int)))) (.pin [.int .u8 ((List.getD (α := UInt8) L i 0).toNat : Int)] 0) := (Bi rfl rfl h3)
 have q3 : OpE (aR3 L bad) (.bin .shl (.const (.p (.int .u64 (IntKind.wrap .u64 (Int.tmod ((List.getD (α := UInt8) L i 0).toNat : Int) 128))))) (.const (pI (IntKind.wrap .i64 (7 * (i : Int)))))) (.p (.int .u64 (IntKind.wrap .u64 ((IntKind.wrap .u64 (Int.tmod ((List.getD (α := UInt8) L i 0).toNat : Int) 128)) * 2 ^ min (Int.toNat (IntKind.wrap .i64 (7 * (i : Int)))) (IntKind.bits .u64))))) := (Dd h7)
 have q4 : OpE (aR3 L bad) (.indexAddr 1 (.const (pS L)) (.const (pI (i : Int)))) (.pin [.int .u8 ((List.getD (α := UInt8) L i 0).toNat : Int)] 0) := (Bi rfl rfl h3)
 lO [(3, .b true), (1, .b true), (1, .b true), (1, .b true), (1, .b true), (1, .b true), (1, .b true), (1, .b true), (0, .b true), (5, oO q1), (7, .b false), (0, .b false), (0, .b false), (0, .b false), (0, .b false), (0, .b false), (0, .b false), (0, .b false), (0, .b false), (7, .b true), (1, .b true), (1, .b true), (1, .b true), (1, .b true), (1, .b true), (0, oO q2), (0, .b true), (1, .b true), (2, .b true), (1, .b false), (4, oO q3), (7, oO q4), (2, .b false)] [_, _, _, _, _, _, _, _, _, _, _, _, _, _, _, _, _, _, _, _, _, _, _, _, _, _, _, _, _, _, _, _, _] (by kernel_rfl) ⟨cI c1, cI c1, cI c1, cI c1, cI c1, cI c1, cI c1, cI c1, cI c2, q1, cI c4, cI c4, cI c4, cI c4, cI c4, cI c4, cI c4, cI c4, cI c4, cI c5, cI c5, cI c5, cI c5, cI c5, cI c5, q2, cI c5, cI c5, cI c5, cI c6, q3, q4, cI c8, trivial⟩ hr
theorem Qs {L : BY} {bad : Bool} {i : Nat} {u : Int} (c1 : (decide ((i : Int) < 10)) = true) (c2 : (decide ((i : Int) < ((List.length (bs L) : Nat) : Int))) = true) (h3 : (i : Nat) < List.length L) (c4 : ((i : Int) == 9) = false) (c5 : (decide ((i : Int) > 0)) = false) (h6 : 0 ≤ IntKind.wrap .i64 (7 * (i : Int))) (c7 : (decide (((List.getD (α := UInt8) L i 0).toNat : Int) < 128)) = true) (h8 : 0 ≤ IntKind.wrap .i64 ((i : Int) + 1)) (h9 : IntKind.wrap .i64 ((i : Int) + 1) ≤ (List.length L : Int)) :
  LoopN lp 1 (Ag Ed 0) (tl 0 82 [(0, P00), (3, .p (.int .u64 u)), (4, pI (i : Int))]) (aR3 L bad) (.ret, (tl 0 82 [(2, .p (.int .u64 (IntKind.wrap .u64 (u + (IntKind.wrap .u64 ((IntKind.wrap .u64 (Int.tmod ((List.getD (α := UInt8) L i 0).toNat : Int) 128)) * 2 ^ min (Int.toNat (IntKind.wrap .i64 (7 * (i : Int)))) (IntKind.bits .u64)))))))]), [.row [[pS (List.drop (Int.toNat (IntKind.wrap .i64 ((i : Int) + 1))) L), pB bad]]]) :=
 have q1 : OpE (aR3 L bad) (.indexAddr 1 (.const (pS L)) (.const (pI (i : Int)))) (.pin [.int .u8 ((List.getD (α := UInt8) L i 0).toNat : Int)] 0) := (Bi rfl rfl h3)
 have q2 : OpE (aR3 L bad) (.bin .shl (.const (.p (.int .u64 (IntKind.wrap .u64 (Int.tmod ((List.getD (α := UInt8) L i 0).toNat : Int) 128))))) (.const (pI (IntKind.wrap .i64 (7 * (i : Int)))))) (.p (.int .u64 (IntKind.wrap .u64 ((IntKind.wrap .u64 (Int.tmod ((List.getD (α := UInt8) L i 0).toNat : Int) 128)) * 2 ^ min (Int.toNat (IntKind.wrap .i64 (7 * (i : Int)))) (IntKind.bits .u64))))) := (Dd h6)
 have q3 : OpE (aR3 L bad) (.indexAddr 1 (.const (pS L)) (.const (pI (i : Int)))) (.pin [.int .u8 ((List.getD (α := UInt8) L i 0).toNat : Int)] 0) := (Bi rfl rfl h3)
 have q4 : OpE (aR3 L bad) (.slice 1 (.const (pS L)) (some (.const (pI (IntKind.wrap .i64 ((i : Int) + 1))))) none none) (pS (List.drop (Int.toNat (IntKind.wrap .i64 ((i : Int) + 1))) L)) := (Cm h8 h9)
 lX [(3, .b true), (1, .b true), (1, .b true), (1, .b true), (1, .b true), (1, .b true), (1, .b true), (1, .b true), (0, .b true), (5, oO q1), (7, .b false), (0, .b false), (0, .b false), (0, .b false), (0, .b false), (0, .b false), (0, .b false), (0, .b false), (0, .b false), (7, .b false), (0, .b false), (0, .b false), (0, .b false), (0, .b false), (0, .b false), (0, .b false), (0, .b false), (1, .b false), (6, oO q2), (7, oO q3), (2, .b true), (7, oO q4)] [_, _, _, _, _, _, _, _, _, _, _, _, _, _, _, _, _, _, _, _, _, _, _, _, _, _, _, _, _, _, _, _] (by kernel_rfl) (by kernel_rfl) ⟨cI c1, cI c1, cI c1, cI c1, cI c1, cI c1, cI c1, cI c1, cI c2, q1, cI c4, cI c4, cI c4, cI c4, cI c4, cI c4, cI c4, cI c4, cI c4, cI c5, cI c5, cI c5, cI c5, cI c5, cI c5, cI c5, cI c5, cI c5, q2, q3, cI c7, q4, trivial⟩
theorem Qt {L : BY} {bad : Bool} {i : Nat} {u : Int} (c1 : (decide ((i : Int) < 10)) = true) (c2 : (decide ((i : Int) < ((List.length (bs L) : Nat) : Int))) = true) (h3 : (i : Nat) < List.length L) (c4 : ((i : Int) == 9) = false) (c5 : (decide ((i : Int) > 0)) = false) (h6 : 0 ≤ IntKind.wrap .i64 (7 * (i : Int))) (c7 : (decide (((List.getD (α := UInt8) L i 0).toNat : Int) < 128)) = false) {r : RL} (hr : LoopN lp 1 (Ag Ed 0) (tl 0 82 [(0, P00), (3, .p (.int .u64 (IntKind.wrap .u64 (u + (IntKind.wrap .u64 ((IntKind.wrap .u64 (Int.tmod ((List.getD (α := UInt8) L i 0).toNat : Int) 128)) * 2 ^ min (Int.toNat (IntKind.wrap .i64 (7 * (i : Int)))) (IntKind.bits .u64))))))), (4, pI (IntKind.wrap .i64 ((i : Int) + 1)))]) (aR3 L bad) r) :
  LoopN lp 1 (Ag Ed 0) (tl 0 82 [(0, P00), (3, .p (.int .u64 u)), (4, pI (i : Int))]) (aR3 L bad) r :=
 have q1 : OpE (aR3 L bad) (.indexAddr 1 (.const (pS L)) (.const (pI (i : Int)))) (.pin [.int .u8 ((List.getD (α := UInt8) L i 0).toNat : Int)] 0) := (Bi rfl rfl h3)
 have q2 : OpE (aR3 L bad) (.bin .shl (.const (.p (.int .u64 (IntKind.wrap .u64 (Int.tmod ((List.getD (α := UInt8) L i 0).toNat : Int) 128))))) (.const (pI (IntKind.wrap .i64 (7 * (i : Int)))))) (.p (.int .u64 (IntKind.wrap .u64 ((IntKind.wrap .u64 (Int.tmod ((List.getD (α := UInt8) L i 0).toNat : Int) 128)) * 2 ^ min (Int.toNat (IntKind.wrap .i64 (7 * (i : Int)))) (IntKind.bits .u64))))) := (Dd h6)
 have q3 : OpE (aR3 L bad) (.indexAddr 1 (.const (pS L)) (.const (pI (i : Int)))) (.pin [.int .u8 ((List.getD (α := UInt8) L i 0).toNat : Int)] 0) := (Bi rfl rfl h3)
 lO [(3, .b true), (1, .b true), (1, .b true), (1, .b true), (1, .b true), (1, .b true), (1, .b true), (1, .b true), (0, .b true), (5, oO q1), (7, .b false), (0, .b false), (0, .b false), (0, .b false), (0, .b false), (0, .b false), (0, .b false), (0, .b false), (0, .b false), (7, .b false), (0, .b false), (0, .b false), (0, .b false), (0, .b false), (0, .b false), (0, .b false), (0, .b false), (1, .b false), (6, oO q2), (7, oO q3), (2, .b false)] [_, _, _, _, _, _, _, _, _, _, _, _, _, _, _, _, _, _, _, _, _, _, _, _, _, _, _, _, _, _, _] (by kernel_rfl) ⟨cI c1, cI c1, cI c1, cI c1, cI c1, cI c1, cI c1, cI c1, cI c2, q1, cI c4, cI c4, cI c4, cI c4, cI c4, cI c4, cI c4, cI c4, cI c4, cI c5, cI c5, cI c5, cI c5, cI c5, cI c5, cI c5, cI c5, cI c5, q2, q3, cI c7, trivial⟩ hr
theorem Xs {L : BY} {bad : Bool} {i : Nat} {u : Int} (c1 : (decide ((i : Int) < 10)) = true) (c2 : (decide ((i : Int) < ((List.length (bs L) : Nat) : Int))) = false) :
  LoopN lp 1 (Ag Ed 0) (tl 0 82 [(0, P00), (3, .p (.int .u64 u)), (4, pI (i : Int))]) (aR3 L bad) (.exit 0, (tl 0 82 [(0, P00)]), (aR3 L bad)) :=
 lX [(3, .b true), (1, .b true), (1, .b true), (1, .b true), (1, .b true), (1, .b true), (1, .b true), (1, .b true), (0, .b false)] [_, _, _, _, _, _, _, _, _] (by kernel_rfl) (by kernel_rfl) ⟨cI c1, cI c1, cI c1, cI c1, cI c1, cI c1, cI c1, cI c1, cI c2, trivial⟩
theorem Z1 {L : BY} {bad : Bool} {i : Nat} {u : Int} (c1 : (decide ((i : Int) < 10)) = false) :
  LoopN lp 1 (Ag Ed 0) (tl 0 82 [(0, P00), (3, .p (.int .u64 u)), (4, pI (i : Int))]) (aR3 L bad) (.exit 0, (tl 0 82 [(0, P00)]), (aR3 L bad)) :=
 lX [(3, .b false), (0, .b false), (0, .b false), (0, .b false), (0, .b false), (0, .b false), (0, .b false), (0, .b false)] [_, _, _, _, _, _, _, _] (by kernel_rfl) (by kernel_rfl) ⟨cI c1, cI c1, cI c1, cI c1, cI c1, cI c1, cI c1, cI c1, trivial⟩
theorem Xt {L : BY} {bad : Bool} {M : BY} {a : Int} (h1 : LoopN lp 1 (Ag Ed 0) (tl 0 82 [(0, P00), (3, .p (.int .u64 0)), (4, pI 0)]) (aR3 L bad) (.ret, (tl 0 82 [(2, .p (.int .u64 a))]), [.row [[pS M, pB bad]]])) :
  Runs lp 66 [P00] (aR3 L bad) (.p (.int .u64 a), [.row [[pS M, pB bad]]]) :=
 rO [(3, oL h1)] [_] (by kernel_rfl) ⟨h1, trivial⟩
theorem Uz {L : BY} {bad : Bool} (h1 : LoopN lp 1 (Ag Ed 0) (tl 0 82 [(0, P00), (3, .p (.int .u64 0)), (4, pI 0)]) (aR3 L bad) (.exit 0, (tl 0 82 [(0, P00)]), (aR3 L bad))) :
  Runs lp 66 [P00] (aR3 L bad) (.p (.int .u64 0), (aR5 L)) :=
 rO [(3, oL h1)] [_] (by kernel_rfl) ⟨h1, trivial⟩
end Go.Proofs.Ytmbjojnldbeicaa
