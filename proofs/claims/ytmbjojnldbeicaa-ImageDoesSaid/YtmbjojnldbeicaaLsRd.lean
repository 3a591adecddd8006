import Derived.Test.YtmbjojnldbeicaaLsAb
import Derived.Test.YtmbjojnldbeicaaLsCodes2
set_option linter.unusedVariables false
set_option maxRecDepth 100000
namespace Go.Proofs.Ytmbjojnldbeicaa
open Go Go.LS
theorem Oz {L : BY} {bad : Bool}  :
  Runs lp 23 [P00] (aR6 L bad) (pB bad, (aR6 L bad)) :=
 rO [] [] (by kernel_rfl) trivial
theorem E8 {L : BY} {bad : Bool}  :
  Runs lp 40 [P00] (aR6 L bad) (.tup [], (aR4 L)) :=
 rO [] [] (by kernel_rfl) trivial
theorem Qk {L : BY} {bad : Bool} (c1 : (bad) = true) :
  Runs lp 24 [P00] (aR6 L bad) (pI 0, (aR6 L bad)) :=
 have q1 : Runs lp 23 [P00] (aR6 L bad) (pB bad, (aR6 L bad)) := (Oz (bad := bad) )
 rO [(2, oC q1), (0, .b true)] [_, _] (by kernel_rfl) ⟨q1, cI c1, trivial⟩
theorem He {L : BY} {bad : Bool} (c1 : (bad) = false) :
  Runs lp 24 [P00] (aR6 L bad) (pI ((List.length (bs L) : Nat) : Int), (aR6 L bad)) :=
 have q1 : Runs lp 23 [P00] (aR6 L bad) (pB bad, (aR6 L bad)) := (Oz (bad := bad) )
 rO [(2, oC q1), (0, .b false)] [_, _] (by kernel_rfl) ⟨q1, cI c1, trivial⟩
theorem vdone_y {L : BY} {bad : Bool} (c1 : (bad) = true) :
  Runs lp 19 [P00] (aR6 L bad) (pI 10, (aR6 L bad)) :=
 have q1 : Runs lp 23 [P00] (aR6 L bad) (pB bad, (aR6 L bad)) := (Oz (bad := bad) )
 rO [(2, oC q1), (1, .b true), (0, .b true), (0, .b true), (0, .b true), (0, .b true), (0, .b true), (0, .b true)] [_, _, _, _, _, _, _, _] (by kernel_rfl) ⟨q1, cI c1, cI c1, cI c1, cI c1, cI c1, cI c1, cI c1, trivial⟩
theorem vdone_ny {L : BY} {bad : Bool} (c1 : (bad) = false) (c2 : (decide (((List.length (bs L) : Nat) : Int) > 0)) = true) :
  Runs lp 19 [P00] (aR6 L bad) (pI 10, (aR6 L bad)) :=
 have q1 : Runs lp 23 [P00] (aR6 L bad) (pB bad, (aR6 L bad)) := (Oz (bad := bad) )
 rO [(2, oC q1), (1, .b false), (1, .b false), (1, .b false), (1, .b false), (1, .b false), (1, .b false), (1, .b false), (0, .b true)] [_, _, _, _, _, _, _, _, _] (by kernel_rfl) ⟨q1, cI c1, cI c1, cI c1, cI c1, cI c1, cI c1, cI c1, cI c2, trivial⟩
theorem vdone_nn {L : BY} {bad : Bool} (c1 : (bad) = false) (c2 : (decide (((List.length (bs L) : Nat) : Int) > 0)) = false) :
  Runs lp 19 [P00] (aR6 L bad) (pI 0, (aR6 L bad)) :=
 have q1 : Runs lp 23 [P00] (aR6 L bad) (pB bad, (aR6 L bad)) := (Oz (bad := bad) )
 rO [(2, oC q1), (1, .b false), (1, .b false), (1, .b false), (1, .b false), (1, .b false), (1, .b false), (1, .b false), (0, .b false)] [_, _, _, _, _, _, _, _, _] (by kernel_rfl) ⟨q1, cI c1, cI c1, cI c1, cI c1, cI c1, cI c1, cI c1, cI c2, trivial⟩
theorem vdone {L : BY} {bad : Bool}  :
  Runs lp 19 [P00] (aR6 L bad) (if (bad) = true then ((pI 10, (aR6 L bad))) else (if (decide (((List.length (bs L) : Nat) : Int) > 0)) = true then ((pI 10, (aR6 L bad))) else ((pI 0, (aR6 L bad))))) := by
 by_cases k1 : (bad) = true
 ·refine Aw k1 ?_
  exact vdone_y (L := L) (bad := bad) k1
 ·refine Ax k1 ?_
  replace k1 := Bool.eq_false_iff.2 k1
  by_cases k2 : (decide (((List.length (bs L) : Nat) : Int) > 0)) = true
  ·refine Aw k2 ?_
   exact vdone_ny (L := L) (bad := bad) k1 k2
  ·refine Ax k2 ?_
   replace k2 := Bool.eq_false_iff.2 k2
   exact vdone_nn (L := L) (bad := bad) k1 k2
theorem vbyte_y {L : BY} {bad : Bool} (c1 : (bad) = true) :
  Runs lp 61 [P00] (aR6 L bad) (pI 0, (aR4 L)) :=
 have q1 : Runs lp 24 [P00] (aR6 L bad) (pI 0, (aR6 L bad)) := (Qk (bad := bad) c1)
 have q2 : Runs lp 40 [P00] (aR6 L bad) (.tup [], (aR4 L)) := (E8 (bad := bad) )
 rO [(2, oC q1), (3, oC q2)] [_, _] (by kernel_rfl) ⟨q1, q2, trivial⟩
theorem vbyte_ny {L : BY} {bad : Bool} (c1 : (bad) = false) (c2 : (((List.length (bs L) : Nat) : Int) == 0) = true) :
  Runs lp 61 [P00] (aR6 L bad) (pI 0, (aR4 L)) :=
 have q1 : Runs lp 24 [P00] (aR6 L bad) (pI ((List.length (bs L) : Nat) : Int), (aR6 L bad)) := (He (bad := bad) c1)
 have q2 : Runs lp 40 [P00] (aR6 L bad) (.tup [], (aR4 L)) := (E8 (bad := bad) )
 rO [(2, oC q1), (1, .b true), (1, oC q2)] [_, _, _] (by kernel_rfl) ⟨q1, cI c2, q2, trivial⟩
theorem vbyte_nn {L : BY} {bad : Bool} (c1 : (bad) = false) (c2 : (((List.length (bs L) : Nat) : Int) == 0) = false) (h3 : (0 : Nat) < List.length L) (h4 : 0 ≤ (1 : Int)) (h5 : (1 : Int) ≤ (List.length L : Int)) :
  Runs lp 61 [P00] (aR6 L bad) (pI (IntKind.wrap .i64 ((List.getD (α := UInt8) L 0 0).toNat : Int)), [.row [[pS (List.drop (Int.toNat (1 : Int)) L), pB bad]]]) :=
 have q1 : Runs lp 24 [P00] (aR6 L bad) (pI ((List.length (bs L) : Nat) : Int), (aR6 L bad)) := (He (bad := bad) c1)
 have q2 : OpE (aR6 L bad) (.indexAddr 1 (.const (pS L)) (.const (pI 0))) (.pin [.int .u8 ((List.getD (α := UInt8) L 0 0).toNat : Int)] 0) := (D1 rfl rfl h3)
 have q3 : OpE (aR6 L bad) (.slice 1 (.const (pS L)) (some (.const (pI 1))) none none) (pS (List.drop (Int.toNat (1 : Int)) L)) := (Hc h4 h5)
 rO [(2, oC q1), (1, .b false), (4, oO q2), (7, oO q3)] [_, _, _, _] (by kernel_rfl) ⟨q1, cI c2, q2, q3, trivial⟩
theorem vbyte {L : BY} {bad : Bool} (w1 : (bad) = false → (((List.length (bs L) : Nat) : Int) == 0) = false → (0 : Nat) < List.length L) (w2 : (bad) = false → (((List.length (bs L) : Nat) : Int) == 0) = false → 0 ≤ (1 : Int)) (w3 : (bad) = false → (((List.length (bs L) : Nat) : Int) == 0) = false → (1 : Int) ≤ (List.length L : Int)) :
  Runs lp 61 [P00] (aR6 L bad) (if (bad) = true then ((pI 0, (aR4 L))) else (if (((List.length (bs L) : Nat) : Int) == 0) = true then ((pI 0, (aR4 L))) else ((pI (IntKind.wrap .i64 ((List.getD (α := UInt8) L 0 0).toNat : Int)), [.row [[pS (List.drop (Int.toNat (1 : Int)) L), pB bad]]])))) := by
 by_cases k1 : (bad) = true
 ·refine Aw k1 ?_
  exact vbyte_y (L := L) (bad := bad) k1
 ·refine Ax k1 ?_
  replace k1 := Bool.eq_false_iff.2 k1
  by_cases k2 : (((List.length (bs L) : Nat) : Int) == 0) = true
  ·refine Aw k2 ?_
   exact vbyte_ny (L := L) (bad := bad) k1 k2
  ·refine Ax k2 ?_
   replace k2 := Bool.eq_false_iff.2 k2
   exact vbyte_nn (L := L) (bad := bad) k1 k2 (w1 k1 k2) (w2 k1 k2) (w3 k1 k2)
theorem vfrom_p {L : BY}  :
  Runs lp 16 [pS L] [] (P00, (aR2 L)) :=
 rO [] [] (by kernel_rfl) trivial
theorem Uy {L : BY} {bad : Bool} {a b : Int} (c1 : (bad) = false) (h2 : LoopN lp 1 (Ae E7 0) (tl 0 47 [(0, P00), (4, .p (.int .u64 0)), (9, pI (if 10 < ((List.length (bs L) : Nat) : Int) then 10 else ((List.length (bs L) : Nat) : Int))), (10, pI 0)]) (aR6 L bad) (.ret, (tl 0 47 [(2, .p (.int .u64 a)), (3, pI b)]), (aR6 L bad))) :
  Runs lp 59 [P00] (aR6 L bad) (.tup [.p (.int .u64 a), pI b], (aR6 L bad)) :=
 have q1 : Runs lp 24 [P00] (aR6 L bad) (pI ((List.length (bs L) : Nat) : Int), (aR6 L bad)) := (He (bad := bad) c1)
 rO [(4, oC q1), (2, oL h2)] [_, _] (by kernel_rfl) ⟨q1, h2, trivial⟩
theorem Sl {L : BY} {bad : Bool} (c1 : (bad) = true) (h2 : LoopN lp 1 (Ae E7 0) (tl 0 47 [(0, P00), (4, .p (.int .u64 0)), (9, pI 0), (10, pI 0)]) (aR6 L bad) (.exit 0, (tl 0 47 []), (aR6 L bad))) :
  Runs lp 59 [P00] (aR6 L bad) (.tup [.p (.int .u64 0), pI 0], (aR6 L bad)) :=
 have q1 : Runs lp 24 [P00] (aR6 L bad) (pI 0, (aR6 L bad)) := (Qk (bad := bad) c1)
 rO [(4, oC q1), (2, oL h2)] [_, _] (by kernel_rfl) ⟨q1, h2, trivial⟩
theorem Sm {L : BY} {bad : Bool} (c1 : (bad) = false) (h2 : LoopN lp 1 (Ae E7 0) (tl 0 47 [(0, P00), (4, .p (.int .u64 0)), (9, pI (if 10 < ((List.length (bs L) : Nat) : Int) then 10 else ((List.length (bs L) : Nat) : Int))), (10, pI 0)]) (aR6 L bad) (.exit 0, (tl 0 47 []), (aR6 L bad))) :
  Runs lp 59 [P00] (aR6 L bad) (.tup [.p (.int .u64 0), pI 0], (aR6 L bad)) :=
 have q1 : Runs lp 24 [P00] (aR6 L bad) (pI ((List.length (bs L) : Nat) : Int), (aR6 L bad)) := (He (bad := bad) c1)
 rO [(4, oC q1), (2, oL h2)] [_, _] (by kernel_rfl) ⟨q1, h2, trivial⟩
theorem Yg {L : BY} {bad : Bool} {i : Nat} {u m : Int} (c1 : (decide ((i : Int) < m)) = true) (h2 : (i : Nat) < List.length L) (c3 : ((i : Int) == 9) = true) (c4 : (decide (((List.getD (α := UInt8) L i 0).toNat : Int) > 1)) = true) :
  LoopN lp 1 (Ae E7 0) (tl 0 47 [(0, P00), (4, .p (.int .u64 u)), (9, pI m), (10, pI (i : Int))]) (aR6 L bad) (.ret, (tl 0 47 [(2, .p (.int .u64 0)), (3, pI 0)]), (aR6 L bad)) :=
 have q1 : OpE (aR6 L bad) (.indexAddr 1 (.const (pS L)) (.const (pI (i : Int)))) (.pin [.int .u8 ((List.getD (α := UInt8) L i 0).toNat : Int)] 0) := (D1 rfl rfl h2)
 lX [(1, .b true), (7, oO q1), (5, .b true), (1, .b true), (1, .b true), (1, .b true), (0, .b true)] [_, _, _, _, _, _, _] (by kernel_rfl) (by kernel_rfl) ⟨cI c1, q1, cI c3, cI c3, cI c3, cI c4, cI c4, trivial⟩
theorem Sn {L : BY} {bad : Bool} {i : Nat} {u m : Int} (c1 : (decide ((i : Int) < m)) = true) (h2 : (i : Nat) < List.length L) (c3 : ((i : Int) == 9) = true) (c4 : (decide (((List.getD (α := UInt8) L i 0).toNat : Int) > 1)) = false) (c5 : (decide ((i : Int) > 0)) = true) (c6 : (((List.getD (α := UInt8) L i 0).toNat : Int) == 0) = true) :
  LoopN lp 1 (Ae E7 0) (tl 0 47 [(0, P00), (4, .p (.int .u64 u)), (9, pI m), (10, pI (i : Int))]) (aR6 L bad) (.ret, (tl 0 47 [(2, .p (.int .u64 0)), (3, pI 0)]), (aR6 L bad)) :=
 have q1 : OpE (aR6 L bad) (.indexAddr 1 (.const (pS L)) (.const (pI (i : Int)))) (.pin [.int .u8 ((List.getD (α := UInt8) L i 0).toNat : Int)] 0) := (D1 rfl rfl h2)
 lX [(1, .b true), (7, oO q1), (5, .b true), (1, .b true), (1, .b true), (1, .b false), (3, .b true), (1, .b true), (1, .b true), (1, .b true)] [_, _, _, _, _, _, _, _, _, _] (by kernel_rfl) (by kernel_rfl) ⟨cI c1, q1, cI c3, cI c3, cI c3, cI c4, cI c5, cI c5, cI c5, cI c6, trivial⟩
theorem Ql {L : BY} {bad : Bool} {i : Nat} {u m : Int} (c1 : (decide ((i : Int) < m)) = true) (h2 : (i : Nat) < List.length L) (c3 : ((i : Int) == 9) = true) (c4 : (decide (((List.getD (α := UInt8) L i 0).toNat : Int) > 1)) = false) (c5 : (decide ((i : Int) > 0)) = true) (c6 : (((List.getD (α := UInt8) L i 0).toNat : Int) == 0) = false) (h7 : 0 ≤ IntKind.wrap .i64 (7 * (i : Int))) (c8 : (decide (((List.getD (α := UInt8) L i 0).toNat : Int) < 128)) = true) :
  LoopN lp 1 (Ae E7 0) (tl 0 47 [(0, P00), (4, .p (.int .u64 u)), (9, pI m), (10, pI (i : Int))]) (aR6 L bad) (.ret, (tl 0 47 [(2, .p (.int .u64 (IntKind.wrap .u64 ↑(BitVec.ofInt (IntKind.bits .u64) u ||| BitVec.ofInt (IntKind.bits .u64) (IntKind.wrap .u64 ((IntKind.wrap .u64 (IntKind.wrap .u8 ↑(BitVec.ofInt (IntKind.bits .u8) ((List.getD (α := UInt8) L i 0).toNat : Int) &&& BitVec.ofInt (IntKind.bits .u8) 127).toNat)) * 2 ^ min (Int.toNat (IntKind.wrap .i64 (7 * (i : Int)))) (IntKind.bits .u64)))).toNat))), (3, pI (IntKind.wrap .i64 ((i : Int) + 1)))]), (aR6 L bad)) :=
 have q1 : OpE (aR6 L bad) (.indexAddr 1 (.const (pS L)) (.const (pI (i : Int)))) (.pin [.int .u8 ((List.getD (α := UInt8) L i 0).toNat : Int)] 0) := (D1 rfl rfl h2)
 have q2 : OpE (aR6 L bad) (.bin .shl (.const (.p (.int .u64 (IntKind.wrap .u64 (IntKind.wrap .u8 ↑(BitVec.ofInt (IntKind.bits .u8) ((List.getD (α := UInt8) L i 0).toNat : Int) &&& BitVec.ofInt (IntKind.bits .u8) 127).toNat))))) (.const (pI (IntKind.wrap .i64 (7 * (i : Int)))))) (.p (.int .u64 (IntKind.wrap .u64 ((IntKind.wrap .u64 (IntKind.wrap .u8 ↑(BitVec.ofInt (IntKind.bits .u8) ((List.getD (α := UInt8) L i 0).toNat : Int) &&& BitVec.ofInt (IntKind.bits .u8) 127).toNat)) * 2 ^ min (Int.toNat (IntKind.wrap .i64 (7 * (i : Int)))) (IntKind.bits .u64))))) := (H6 h7)
 lX [(1, .b true), (7, oO q1), (5, .b true), (1, .b true), (1, .b true), (1, .b false), (3, .b true), (1, .b true), (1, .b true), (1, .b false), (6, oO q2), (4, .b true)] [_, _, _, _, _, _, _, _, _, _, _, _] (by kernel_rfl) (by kernel_rfl) ⟨cI c1, q1, cI c3, cI c3, cI c3, cI c4, cI c5, cI c5, cI c5, cI c6, q2, cI c8, trivial⟩
theorem Uz {L : BY} {bad : Bool} {i : Nat} {u m : Int} (c1 : (decide ((i : Int) < m)) = true) (h2 : (i : Nat) < List.length L) (c3 : ((i : Int) == 9) = false) (c4 : (decide ((i : Int) > 0)) = true) (c5 : (((List.getD (α := UInt8) L i 0).toNat : Int) == 0) = true) :
  LoopN lp 1 (Ae E7 0) (tl 0 47 [(0, P00), (4, .p (.int .u64 u)), (9, pI m), (10, pI (i : Int))]) (aR6 L bad) (.ret, (tl 0 47 [(2, .p (.int .u64 0)), (3, pI 0)]), (aR6 L bad)) :=
 have q1 : OpE (aR6 L bad) (.indexAddr 1 (.const (pS L)) (.const (pI (i : Int)))) (.pin [.int .u8 ((List.getD (α := UInt8) L i 0).toNat : Int)] 0) := (D1 rfl rfl h2)
 lX [(1, .b true), (7, oO q1), (5, .b false), (0, .b false), (0, .b false), (5, .b true), (1, .b true), (1, .b true), (1, .b true)] [_, _, _, _, _, _, _, _, _] (by kernel_rfl) (by kernel_rfl) ⟨cI c1, q1, cI c3, cI c3, cI c3, cI c4, cI c4, cI c4, cI c5, trivial⟩
theorem So {L : BY} {bad : Bool} {i : Nat} {u m : Int} (c1 : (decide ((i : Int) < m)) = true) (h2 : (i : Nat) < List.length L) (c3 : ((i : Int) == 9) = false) (c4 : (decide ((i : Int) > 0)) = true) (c5 : (((List.getD (α := UInt8) L i 0).toNat : Int) == 0) = false) (h6 : 0 ≤ IntKind.wrap .i64 (7 * (i : Int))) (c7 : (decide (((List.getD (α := UInt8) L i 0).toNat : Int) < 128)) = true) :
  LoopN lp 1 (Ae E7 0) (tl 0 47 [(0, P00), (4, .p (.int .u64 u)), (9, pI m), (10, pI (i : Int))]) (aR6 L bad) (.ret, (tl 0 47 [(2, .p (.int .u64 (IntKind.wrap .u64 ↑(BitVec.ofInt (IntKind.bits .u64) u ||| BitVec.ofInt (IntKind.bits .u64) (IntKind.wrap .u64 ((IntKind.wrap .u64 (IntKind.wrap .u8 ↑(BitVec.ofInt (IntKind.bits .u8) ((List.getD (α := UInt8) L i 0).toNat : Int) &&& BitVec.ofInt (IntKind.bits .u8) 127).toNat)) * 2 ^ min (Int.toNat (IntKind.wrap .i64 (7 * (i : Int)))) (IntKind.bits .u64)))).toNat))), (3, pI (IntKind.wrap .i64 ((i : Int) + 1)))]), (aR6 L bad)) :=
 have q1 : OpE (aR6 L bad) (.indexAddr 1 (.const (pS L)) (.const (pI (i : Int)))) (.pin [.int .u8 ((List.getD (α := UInt8) L i 0).toNat : Int)] 0) := (D1 rfl rfl h2)
 have q2 : OpE (aR6 L bad) (.bin .shl (.const (.p (.int .u64 (IntKind.wrap .u64 (IntKind.wrap .u8 ↑(BitVec.ofInt (IntKind.bits .u8) ((List.getD (α := UInt8) L i 0).toNat : Int) &&& BitVec.ofInt (IntKind.bits .u8) 127).toNat))))) (.const (pI (IntKind.wrap .i64 (7 * (i : Int)))))) (.p (.int .u64 (IntKind.wrap .u64 ((IntKind.wrap .u64 (IntKind.wrap .u8 ↑(BitVec.ofInt (IntKind.bits .u8) ((List.getD (α := UInt8) L i 0).toNat : Int) &&& BitVec.ofInt (IntKind.bits .u8) 127).toNat)) * 2 ^ min (Int.toNat (IntKind.wrap .i64 (7 * (i : Int)))) (IntKind.bits .u64))))) := (H6 h6)
 lX [(1, .b true), (7, oO q1), (5, .b false), (0, .b false), (0, .b false), (5, .b true), (1, .b true), (1, .b true), (1, .b false), (6, oO q2), (4, .b true)] [_, _, _, _, _, _, _, _, _, _, _] (by kernel_rfl) (by kernel_rfl) ⟨cI c1, q1, cI c3, cI c3, cI c3, cI c4, cI c4, cI c4, cI c5, q2, cI c7, trivial⟩
theorem Sq {L : BY} {bad : Bool} {i : Nat} {u m : Int} (c1 : (decide ((i : Int) < m)) = true) (h2 : (i : Nat) < List.length L) (c3 : ((i : Int) == 9) = false) (c4 : (decide ((i : Int) > 0)) = true) (c5 : (((List.getD (α := UInt8) L i 0).toNat : Int) == 0) = false) (h6 : 0 ≤ IntKind.wrap .i64 (7 * (i : Int))) (c7 : (decide (((List.getD (α := UInt8) L i 0).toNat : Int) < 128)) = false) {r : RL} (hr : LoopN lp 1 (Ae E7 0) (tl 0 47 [(0, P00), (4, .p (.int .u64 (IntKind.wrap .u64 ↑(BitVec.ofInt (IntKind.bits .u64) u ||| BitVec.ofInt (IntKind.bits .u64) (IntKind.wrap .u64 ((IntKind.wrap .u64 (IntKind.wrap .u8 ↑(BitVec.ofInt (IntKind.bits .u8) ((List.getD (α := UInt8) L i 0).toNat : Int) &&& BitVec.ofInt (IntKind.bits .u8) 127).toNat)) * 2 ^ min (Int.toNat (IntKind.wrap .i64 (7 * (i : Int)))) (IntKind.bits .u64)))).toNat))), (9, pI m), (10, pI (IntKind.wrap .i64 ((i : Int) + 1)))]) (aR6 L bad) r) :
  LoopN lp 1 (Ae E7 0) (tl 0 47 [(0, P00), (4, .p (.int .u64 u)), (9, pI m), (10, pI (i : Int))]) (aR6 L bad) r :=
 have q1 : OpE (aR6 L bad) (.indexAddr 1 (.const (pS L)) (.const (pI (i : Int)))) (.pin [.int .u8 ((List.getD (α := UInt8) L i 0).toNat : Int)] 0) := (D1 rfl rfl h2)
 have q2 : OpE (aR6 L bad) (.bin .shl (.const (.p (.int .u64 (IntKind.wrap .u64 (IntKind.wrap .u8 ↑(BitVec.ofInt (IntKind.bits .u8) ((List.getD (α := UInt8) L i 0).toNat : Int) &&& BitVec.ofInt (IntKind.bits .u8) 127).toNat))))) (.const (pI (IntKind.wrap .i64 (7 * (i : Int)))))) (.p (.int .u64 (IntKind.wrap .u64 ((IntKind.wrap .u64 (IntKind.wrap .u8 ↑(BitVec.ofInt (IntKind.bits .u8) ((List.getD (α := UInt8) L i 0).toNat : Int) &&& BitVec.ofInt (IntKind.bits .u8) 127).toNat)) * 2 ^ min (Int.toNat (IntKind.wrap .i64 (7 * (i : Int)))) (IntKind.bits .u64))))) := (H6 h6)
 lO [(1, .b true), (7, oO q1), (5, .b false), (0, .b false), (0, .b false), (5, .b true), (1, .b true), (1, .b true), (1, .b false), (6, oO q2), (4, .b false)] [_, _, _, _, _, _, _, _, _, _, _] (by kernel_rfl) ⟨cI c1, q1, cI c3, cI c3, cI c3, cI c4, cI c4, cI c4, cI c5, q2, cI c7, trivial⟩ hr
theorem U0 {L : BY} {bad : Bool} {i : Nat} {u m : Int} (c1 : (decide ((i : Int) < m)) = true) (h2 : (i : Nat) < List.length L) (c3 : ((i : Int) == 9) = false) (c4 : (decide ((i : Int) > 0)) = false) (h5 : 0 ≤ IntKind.wrap .i64 (7 * (i : Int))) (c6 : (decide (((List.getD (α := UInt8) L i 0).toNat : Int) < 128)) = true) :
  LoopN lp 1 (Ae E7 0) (tl 0 47 [(0, P00), (4, .p (.int .u64 u)), (9, pI m), (10, pI (i : Int))]) (aR6 L bad) (.ret, (tl 0 47 [(2, .p (.int .u64 (IntKind.wrap .u64 ↑(BitVec.ofInt (IntKind.bits .u64) u ||| BitVec.ofInt (IntKind.bits .u64) (IntKind.wrap .u64 ((IntKind.wrap .u64 (IntKind.wrap .u8 ↑(BitVec.ofInt (IntKind.bits .u8) ((List.getD (α := UInt8) L i 0).toNat : Int) &&& BitVec.ofInt (IntKind.bits .u8) 127).toNat)) * 2 ^ min (Int.toNat (IntKind.wrap .i64 (7 * (i : Int)))) (IntKind.bits .u64)))).toNat))), (3, pI (IntKind.wrap .i64 ((i : Int) + 1)))]), (aR6 L bad)) :=
 have q1 : OpE (aR6 L bad) (.indexAddr 1 (.const (pS L)) (.const (pI (i : Int)))) (.pin [.int .u8 ((List.getD (α := UInt8) L i 0).toNat : Int)] 0) := (D1 rfl rfl h2)
 have q2 : OpE (aR6 L bad) (.bin .shl (.const (.p (.int .u64 (IntKind.wrap .u64 (IntKind.wrap .u8 ↑(BitVec.ofInt (IntKind.bits .u8) ((List.getD (α := UInt8) L i 0).toNat : Int) &&& BitVec.ofInt (IntKind.bits .u8) 127).toNat))))) (.const (pI (IntKind.wrap .i64 (7 * (i : Int)))))) (.p (.int .u64 (IntKind.wrap .u64 ((IntKind.wrap .u64 (IntKind.wrap .u8 ↑(BitVec.ofInt (IntKind.bits .u8) ((List.getD (α := UInt8) L i 0).toNat : Int) &&& BitVec.ofInt (IntKind.bits .u8) 127).toNat)) * 2 ^ min (Int.toNat (IntKind.wrap .i64 (7 * (i : Int)))) (IntKind.bits .u64))))) := (H6 h5)
 lX [(1, .b true), (7, oO q1), (5, .b false), (0, .b false), (0, .b false), (5, .b false), (0, .b false), (0, .b false), (8, oO q2), (4, .b true)] [_, _, _, _, _, _, _, _, _, _] (by kernel_rfl) (by kernel_rfl) ⟨cI c1, q1, cI c3, cI c3, cI c3, cI c4, cI c4, cI c4, q2, cI c6, trivial⟩
theorem U1 {L : BY} {bad : Bool} {i : Nat} {u m : Int} (c1 : (decide ((i : Int) < m)) = true) (h2 : (i : Nat) < List.length L) (c3 : ((i : Int) == 9) = false) (c4 : (decide ((i : Int) > 0)) = false) (h5 : 0 ≤ IntKind.wrap .i64 (7 * (i : Int))) (c6 : (decide (((List.getD (α := UInt8) L i 0).toNat : Int) < 128)) = false) {r : RL} (hr : LoopN lp 1 (Ae E7 0) (tl 0 47 [(0, P00), (4, .p (.int .u64 (IntKind.wrap .u64 ↑(BitVec.ofInt (IntKind.bits .u64) u ||| BitVec.ofInt (IntKind.bits .u64) (IntKind.wrap .u64 ((IntKind.wrap .u64 (IntKind.wrap .u8 ↑(BitVec.ofInt (IntKind.bits .u8) ((List.getD (α := UInt8) L i 0).toNat : Int) &&& BitVec.ofInt (IntKind.bits .u8) 127).toNat)) * 2 ^ min (Int.toNat (IntKind.wrap .i64 (7 * (i : Int)))) (IntKind.bits .u64)))).toNat))), (9, pI m), (10, pI (IntKind.wrap .i64 ((i : Int) + 1)))]) (aR6 L bad) r) :
  LoopN lp 1 (Ae E7 0) (tl 0 47 [(0, P00), (4, .p (.int .u64 u)), (9, pI m), (10, pI (i : Int))]) (aR6 L bad) r :=
 have q1 : OpE (aR6 L bad) (.indexAddr 1 (.const (pS L)) (.const (pI (i : Int)))) (.pin [.int .u8 ((List.getD (α := UInt8) L i 0).toNat : Int)] 0) := (D1 rfl rfl h2)
 have q2 : OpE (aR6 L bad) (.bin .shl (.const (.p (.int .u64 (IntKind.wrap .u64 (IntKind.wrap .u8 ↑(BitVec.ofInt (IntKind.bits .u8) ((List.getD (α := UInt8) L i 0).toNat : Int) &&& BitVec.ofInt (IntKind.bits .u8) 127).toNat))))) (.const (pI (IntKind.wrap .i64 (7 * (i : Int)))))) (.p (.int .u64 (IntKind.wrap .u64 ((IntKind.wrap .u64 (IntKind.wrap .u8 ↑(BitVec.ofInt (IntKind.bits .u8) ((List.getD (α := UInt8) L i 0).toNat : Int) &&& BitVec.ofInt (IntKind.bits .u8) 127).toNat)) * 2 ^ min (Int.toNat (IntKind.wrap .i64 (7 * (i : Int)))) (IntKind.bits .u64))))) := (H6 h5)
 lO [(1, .b true), (7, oO q1), (5, .b false), (0, .b false), (0, .b false), (5, .b false), (0, .b false), (0, .b false), (8, oO q2), (4, .b false)] [_, _, _, _, _, _, _, _, _, _] (by kernel_rfl) ⟨cI c1, q1, cI c3, cI c3, cI c3, cI c4, cI c4, cI c4, q2, cI c6, trivial⟩ hr
theorem Qm {L : BY} {bad : Bool} {i : Nat} {u m : Int} (c1 : (decide ((i : Int) < m)) = false) :
  LoopN lp 1 (Ae E7 0) (tl 0 47 [(0, P00), (4, .p (.int .u64 u)), (9, pI m), (10, pI (i : Int))]) (aR6 L bad) (.exit 0, (tl 0 47 []), (aR6 L bad)) :=
 lX [(1, .b false)] [_] (by kernel_rfl) (by kernel_rfl) ⟨cI c1, trivial⟩
end Go.Proofs.Ytmbjojnldbeicaa
