import Derived.Test.YthmjaeflpgcmdaaLsAb
import Derived.Test.YthmjaeflpgcmdaaLsRd2
set_option linter.unusedVariables false
set_option maxRecDepth 100000
namespace Go.Proofs.Ythmjaeflpgcmdaa
open Go Go.LS
theorem take_b {L : BY} {n : Nat} {r : Bool}  :
  Runs lp 77 [P00, pI (n : Int), pB r] [.row [[pS L, pB true]]] (pB false, [.row [[pS L, pB true]]]) :=
 have q1 : Runs lp 59 [P00] [.row [[pS L, pB true]]] (pB true, [.row [[pS L, pB true]]]) := (Oe (L := L) (bad := true))
 have q2 : Runs lp 82 [P00] [.row [[pS L, pB true]]] (.tup [], [.row [[pS L, pB true]]]) := (T2 (L := L) (bad := true))
 rO [(2, oC q1), (10, oC q2)] [_, _] (by kernel_rfl) ⟨q1, q2, trivial⟩
theorem Sg {L : BY} {n : Nat} {r : Bool} (c1 : ((n : Int) == 0) = true) :
  Runs lp 77 [P00, pI (n : Int), pB r] [.row [[pS L, pB false]]] (pB false, [.row [[pS L, pB true]]]) :=
 have q1 : Runs lp 59 [P00] [.row [[pS L, pB false]]] (pB false, [.row [[pS L, pB false]]]) := (Oe (L := L) (bad := false))
 have q2 : Runs lp 82 [P00] [.row [[pS L, pB false]]] (.tup [], [.row [[pS L, pB true]]]) := (T2 (L := L) (bad := false))
 rO [(2, oC q1), (7, .b true), (0, .b true), (0, .b true), (2, oC q2)] [_, _, _, _, _] (by kernel_rfl) ⟨q1, cI c1, cI c1, cI c1, q2, trivial⟩
theorem V4 {L : BY} {n : Nat} {r : Bool} (c1 : ((n : Int) == 0) = false) (c2 : (r) = true) (h3 : 0 ≤ (n : Int)) (h4 : (n : Int) ≤ (List.length L : Int)) :
  Runs lp 77 [P00, pI (n : Int), pB r] [.row [[pS L, pB false]]] (pB true, [.row [[pS (List.drop (Int.toNat (n : Int)) L), pB false]]]) :=
 have q1 : Runs lp 59 [P00] [.row [[pS L, pB false]]] (pB false, [.row [[pS L, pB false]]]) := (Oe (L := L) (bad := false))
 have q2 : OpE [.row [[pS L, pB false]]] (.slice 1 (.const (pS L)) (some (.const (pI (n : Int)))) none none) (pS (List.drop (Int.toNat (n : Int)) L)) := (Dm h3 h4)
 rO [(2, oC q1), (7, .b false), (1, .b false), (1, .b false), (0, .b false), (6, oO q2)] [_, _, _, _, _, _] (by kernel_rfl) ⟨q1, cI c1, cI c1, cI c1, (cI (Ay c2)), q2, trivial⟩
theorem V5 {L : BY} {n : Nat} {r : Bool} (c1 : ((n : Int) == 0) = false) (c2 : (r) = false) :
  Runs lp 77 [P00, pI (n : Int), pB r] [.row [[pS L, pB false]]] (pB false, [.row [[pS L, pB true]]]) :=
 have q1 : Runs lp 59 [P00] [.row [[pS L, pB false]]] (pB false, [.row [[pS L, pB false]]]) := (Oe (L := L) (bad := false))
 have q2 : Runs lp 82 [P00] [.row [[pS L, pB false]]] (.tup [], [.row [[pS L, pB true]]]) := (T2 (L := L) (bad := false))
 rO [(2, oC q1), (7, .b false), (1, .b false), (1, .b false), (0, .b true), (1, oC q2)] [_, _, _, _, _, _] (by kernel_rfl) ⟨q1, cI c1, cI c1, cI c1, (cI (Ay c2)), q2, trivial⟩
theorem U7 {L : BY} (n : Nat) (r : Bool) : Runs lp 77 [P00, pI n, pB r] (stL L true) (pB false, stL L true) := take_b
theorem Qj {L : BY} (r : Bool) {n : Nat} (h : (decide (n = 0)) = true) : Runs lp 77 [P00, pI n, pB r] (stL L false) (pB false, stL L true) := Sg (by simpa using h)
theorem U8 {L : BY} {r : Bool} (n : Nat) (h : r = false) : Runs lp 77 [P00, pI n, pB r] (stL L false) (pB false, stL L true) := by
 subst h
 by_cases h : n = 0
 ·exact Sg (by simp [h])
 ·exact V5 (by simp [h]) rfl
theorem U9 {L : BY} {r : Bool} {n : Nat} (h : (decide (n = 0)) = false) (hr : r = true) (hn : n ≤ L.length) : Runs lp 77 [P00, pI n, pB r] (stL L false) (pB true, stL (L.drop n) false) := by
 subst hr
 have := V4 (L := L) (n := n) (r := true) (by simpa using h) rfl (by omega) (by omega)
 simpa using this
theorem vint_b {L : BY}  :
  Runs lp 73 [P00] [.row [[pS L, pB true]]] (pI 0, [.row [[pS L, pB true]]]) :=
 have q1 : Runs lp 76 [P00] [.row [[pS L, pB true]]] (.tup [.p (.int .u64 0), pI 0], [.row [[pS L, pB true]]]) := (Pb L)
 have q2 : Runs lp 77 [P00, pI 0, pB true] [.row [[pS L, pB true]]] (pB false, [.row [[pS L, pB true]]]) := (U7 (L := L) 0 true)
 rO [(2, oC q1), (7, oC q2)] [_, _] (by kernel_rfl) ⟨q1, q2, trivial⟩
theorem Yr {L : BY} {most : Int}  :
  Runs lp 57 [P00, pI most] [.row [[pS L, pB true]]] (pI 0, [.row [[pS L, pB true]]]) :=
 have q1 : Runs lp 76 [P00] [.row [[pS L, pB true]]] (.tup [.p (.int .u64 0), pI 0], [.row [[pS L, pB true]]]) := (Pb L)
 have q2 : Runs lp 77 [P00, pI 0, pB (decide ((0 : Int) ≤ most))] [.row [[pS L, pB true]]] (pB false, [.row [[pS L, pB true]]]) := (U7 (L := L) 0 (decide ((0 : Int) ≤ most)))
 rO [(2, oC q1), (19, oC q2)] [_, _] (by kernel_rfl) ⟨q1, q2, trivial⟩
theorem Ys {L : BY} (c1 : (decide (By L = 0)) = true) :
  Runs lp 73 [P00] [.row [[pS L, pB false]]] (pI 0, [.row [[pS L, pB true]]]) :=
 have q1 : Runs lp 76 [P00] [.row [[pS L, pB false]]] (.tup [.p (.int .u64 (B6 L : Int)), pI (By L : Int)], [.row [[pS L, pB false]]]) := (Dt L)
 have q2 : Runs lp 77 [P00, pI (By L : Int), pB true] [.row [[pS L, pB false]]] (pB false, [.row [[pS L, pB true]]]) := (Qj (L := L) true c1)
 rO [(2, oC q1), (7, oC q2)] [_, _] (by kernel_rfl) ⟨q1, q2, trivial⟩
theorem Yt {L : BY} (c1 : (decide (By L = 0)) = false) (h2 : By L ≤ List.length L) :
  Runs lp 73 [P00] [.row [[pS L, pB false]]] (pI (IntKind.wrap .i64 ↑(BitVec.ofInt (IntKind.bits .i64) (IntKind.wrap .i64 (Int.fdiv (B6 L : Int) (2 ^ 1))) ^^^ BitVec.ofInt (IntKind.bits .i64) (IntKind.wrap .i64 (0 - (IntKind.wrap .i64 (IntKind.wrap .u64 ↑(BitVec.ofInt (IntKind.bits .u64) (B6 L : Int) &&& BitVec.ofInt (IntKind.bits .u64) 1).toNat))))).toNat), [.row [[pS (List.drop (By L) L), pB false]]]) :=
 have q1 : Runs lp 76 [P00] [.row [[pS L, pB false]]] (.tup [.p (.int .u64 (B6 L : Int)), pI (By L : Int)], [.row [[pS L, pB false]]]) := (Dt L)
 have q2 : Runs lp 77 [P00, pI (By L : Int), pB true] [.row [[pS L, pB false]]] (pB true, [.row [[pS (List.drop (By L) L), pB false]]]) := (U9 (L := L) c1 rfl h2)
 rO [(2, oC q1), (7, oC q2)] [_, _] (by kernel_rfl) ⟨q1, q2, trivial⟩
theorem Sh {L : BY} {most : Int} (c1 : (decide ((B6 L : Int) ≤ 4611686018427387904)) = true) (c2 : (decide (By L = 0)) = true) :
  Runs lp 57 [P00, pI most] [.row [[pS L, pB false]]] (pI 0, [.row [[pS L, pB true]]]) :=
 have q1 : Runs lp 76 [P00] [.row [[pS L, pB false]]] (.tup [.p (.int .u64 (B6 L : Int)), pI (By L : Int)], [.row [[pS L, pB false]]]) := (Dt L)
 have q2 : Runs lp 77 [P00, pI (By L : Int), pB (decide ((IntKind.wrap .i64 (B6 L : Int)) ≤ most))] [.row [[pS L, pB false]]] (pB false, [.row [[pS L, pB true]]]) := (Qj (L := L) (decide ((IntKind.wrap .i64 (B6 L : Int)) ≤ most)) c2)
 rO [(2, oC q1), (10, .b true), (1, .b true), (1, .b true), (1, .b true), (1, .b true), (0, oC q2)] [_, _, _, _, _, _, _] (by kernel_rfl) ⟨q1, cI c1, cI c1, cI c1, cI c1, cI c1, q2, trivial⟩
theorem Qk {L : BY} {most : Int} (c1 : (decide ((B6 L : Int) ≤ 4611686018427387904)) = true) (c2 : (decide (By L = 0)) = false) (c3 : (decide ((IntKind.wrap .i64 (B6 L : Int)) ≤ most)) = true) (h4 : By L ≤ List.length L) :
  Runs lp 57 [P00, pI most] [.row [[pS L, pB false]]] (pI (IntKind.wrap .i64 (B6 L : Int)), [.row [[pS (List.drop (By L) L), pB false]]]) :=
 have q1 : Runs lp 76 [P00] [.row [[pS L, pB false]]] (.tup [.p (.int .u64 (B6 L : Int)), pI (By L : Int)], [.row [[pS L, pB false]]]) := (Dt L)
 have q2 : Runs lp 77 [P00, pI (By L : Int), pB (decide ((IntKind.wrap .i64 (B6 L : Int)) ≤ most))] [.row [[pS L, pB false]]] (pB true, [.row [[pS (List.drop (By L) L), pB false]]]) := (U9 (L := L) c2 c3 h4)
 rO [(2, oC q1), (10, .b true), (1, .b true), (1, .b true), (1, .b true), (1, .b true), (0, oC q2)] [_, _, _, _, _, _, _] (by kernel_rfl) ⟨q1, cI c1, cI c1, cI c1, cI c1, cI c1, q2, trivial⟩
theorem Ql {L : BY} {most : Int} (c1 : (decide ((B6 L : Int) ≤ 4611686018427387904)) = true) (c2 : (decide (By L = 0)) = false) (c3 : (decide ((IntKind.wrap .i64 (B6 L : Int)) ≤ most)) = false) :
  Runs lp 57 [P00, pI most] [.row [[pS L, pB false]]] (pI 0, [.row [[pS L, pB true]]]) :=
 have q1 : Runs lp 76 [P00] [.row [[pS L, pB false]]] (.tup [.p (.int .u64 (B6 L : Int)), pI (By L : Int)], [.row [[pS L, pB false]]]) := (Dt L)
 have q2 : Runs lp 77 [P00, pI (By L : Int), pB (decide ((IntKind.wrap .i64 (B6 L : Int)) ≤ most))] [.row [[pS L, pB false]]] (pB false, [.row [[pS L, pB true]]]) := (U8 (L := L) (By L) c3)
 rO [(2, oC q1), (10, .b true), (1, .b true), (1, .b true), (1, .b true), (1, .b true), (0, oC q2)] [_, _, _, _, _, _, _] (by kernel_rfl) ⟨q1, cI c1, cI c1, cI c1, cI c1, cI c1, q2, trivial⟩
theorem Si {L : BY} {most : Int} (c1 : (decide ((B6 L : Int) ≤ 4611686018427387904)) = false) (c2 : (decide (By L = 0)) = true) :
  Runs lp 57 [P00, pI most] [.row [[pS L, pB false]]] (pI 0, [.row [[pS L, pB true]]]) :=
 have q1 : Runs lp 76 [P00] [.row [[pS L, pB false]]] (.tup [.p (.int .u64 (B6 L : Int)), pI (By L : Int)], [.row [[pS L, pB false]]]) := (Dt L)
 have q2 : Runs lp 77 [P00, pI (By L : Int), pB false] [.row [[pS L, pB false]]] (pB false, [.row [[pS L, pB true]]]) := (Qj (L := L) false c2)
 rO [(2, oC q1), (10, .b false), (0, .b false), (0, .b false), (0, .b false), (0, .b false), (0, oC q2)] [_, _, _, _, _, _, _] (by kernel_rfl) ⟨q1, cI c1, cI c1, cI c1, cI c1, cI c1, q2, trivial⟩
theorem Sj {L : BY} {most : Int} (c1 : (decide ((B6 L : Int) ≤ 4611686018427387904)) = false) (c2 : (decide (By L = 0)) = false) :
  Runs lp 57 [P00, pI most] [.row [[pS L, pB false]]] (pI 0, [.row [[pS L, pB true]]]) :=
 have q1 : Runs lp 76 [P00] [.row [[pS L, pB false]]] (.tup [.p (.int .u64 (B6 L : Int)), pI (By L : Int)], [.row [[pS L, pB false]]]) := (Dt L)
 have q2 : Runs lp 77 [P00, pI (By L : Int), pB false] [.row [[pS L, pB false]]] (pB false, [.row [[pS L, pB true]]]) := (U8 (L := L) (By L) rfl)
 rO [(2, oC q1), (10, .b false), (0, .b false), (0, .b false), (0, .b false), (0, .b false), (0, oC q2)] [_, _, _, _, _, _, _] (by kernel_rfl) ⟨q1, cI c1, cI c1, cI c1, cI c1, cI c1, q2, trivial⟩
end Go.Proofs.Ythmjaeflpgcmdaa
