import Derived.Test.YtegboccilfofmaaGreatLsAb
import Derived.Test.YtegboccilfofmaaGreatLsRd2
set_option linter.unusedVariables false
set_option maxRecDepth 100000
namespace Go.Proofs.YtegboccilfofmaaGreat
open Go Go.LS
theorem take_b {L : BY} {n : Nat} {r : Bool}  :
  Runs lp 68 [P00, pI (n : Int), pB r] (B1 L) (pB false, (B1 L)) :=
 have q1 : Runs lp 15 [P00] (B1 L) (pB true, (B1 L)) := (N4 (L := L) (bad := true))
 have q2 : Runs lp 40 [P00] (B1 L) (.tup [], (B1 L)) := (Eh (L := L) (bad := true))
 rO [(2, oC q1), (10, oC q2)] [_, _] (by kernel_rfl) ⟨q1, q2, trivial⟩
theorem Rq {L : BY} {n : Nat} {r : Bool} (c1 : ((n : Int) == 0) = true) :
  Runs lp 68 [P00, pI (n : Int), pB r] (aR7 L) (pB false, (B1 L)) :=
 have q1 : Runs lp 15 [P00] (aR7 L) (pB false, (aR7 L)) := (N4 (L := L) (bad := false))
 have q2 : Runs lp 40 [P00] (aR7 L) (.tup [], (B1 L)) := (Eh (L := L) (bad := false))
 rO [(2, oC q1), (7, .b true), (0, .b true), (0, .b true), (2, oC q2)] [_, _, _, _, _] (by kernel_rfl) ⟨q1, cI c1, cI c1, cI c1, q2, trivial⟩
theorem Vi {L : BY} {n : Nat} {r : Bool} (c1 : ((n : Int) == 0) = false) (c2 : (r) = true) (h3 : 0 ≤ (n : Int)) (h4 : (n : Int) ≤ (List.length L : Int)) :
  Runs lp 68 [P00, pI (n : Int), pB r] (aR7 L) (pB true, [.row [[pS (List.drop (Int.toNat (n : Int)) L), pB false]]]) :=
 have q1 : Runs lp 15 [P00] (aR7 L) (pB false, (aR7 L)) := (N4 (L := L) (bad := false))
 have q2 : OpE (aR7 L) (.slice 1 (.const (pS L)) (some (.const (pI (n : Int)))) none none) (pS (List.drop (Int.toNat (n : Int)) L)) := (En h3 h4)
 rO [(2, oC q1), (7, .b false), (1, .b false), (1, .b false), (0, .b false), (6, oO q2)] [_, _, _, _, _, _] (by kernel_rfl) ⟨q1, cI c1, cI c1, cI c1, (cI (Ad c2)), q2, trivial⟩
theorem Vj {L : BY} {n : Nat} {r : Bool} (c1 : ((n : Int) == 0) = false) (c2 : (r) = false) :
  Runs lp 68 [P00, pI (n : Int), pB r] (aR7 L) (pB false, (B1 L)) :=
 have q1 : Runs lp 15 [P00] (aR7 L) (pB false, (aR7 L)) := (N4 (L := L) (bad := false))
 have q2 : Runs lp 40 [P00] (aR7 L) (.tup [], (B1 L)) := (Eh (L := L) (bad := false))
 rO [(2, oC q1), (7, .b false), (1, .b false), (1, .b false), (0, .b true), (1, oC q2)] [_, _, _, _, _, _] (by kernel_rfl) ⟨q1, cI c1, cI c1, cI c1, (cI (Ad c2)), q2, trivial⟩
theorem Ud {L : BY} (n : Nat) (r : Bool) : Runs lp 68 [P00, pI n, pB r] (stL L true) (pB false, stL L true) := take_b
theorem P4 {L : BY} (r : Bool) {n : Nat} (h : (decide (n = 0)) = true) : Runs lp 68 [P00, pI n, pB r] (stL L false) (pB false, stL L true) := Rq (by simpa using h)
theorem Ue {L : BY} {r : Bool} (n : Nat) (h : r = false) : Runs lp 68 [P00, pI n, pB r] (stL L false) (pB false, stL L true) := by
 subst h
 by_cases h : n = 0
 ·exact Rq (by simp [h])
 ·exact Vj (by simp [h]) rfl
theorem Uf {L : BY} {r : Bool} {n : Nat} (h : (decide (n = 0)) = false) (hr : r = true) (hn : n ≤ L.length) : Runs lp 68 [P00, pI n, pB r] (stL L false) (pB true, stL (L.drop n) false) := by
 subst hr
 have := Vi (L := L) (n := n) (r := true) (by simpa using h) rfl (by omega) (by omega)
 simpa using this
theorem vint_b {L : BY}  :
  Runs lp 92 [P00] (B1 L) (pI 0, (B1 L)) :=
 have q1 : Runs lp 67 [P00] (B1 L) (.tup [.p (.int .u64 0), pI 0], (B1 L)) := (H9 L)
 have q2 : Runs lp 68 [P00, pI 0, pB true] (B1 L) (pB false, (B1 L)) := (Ud (L := L) 0 true)
 rO [(2, oC q1), (7, oC q2)] [_, _] (by kernel_rfl) ⟨q1, q2, trivial⟩
theorem Y8 {L : BY} {most : Int}  :
  Runs lp 37 [P00, pI most] (B1 L) (pI 0, (B1 L)) :=
 have q1 : Runs lp 67 [P00] (B1 L) (.tup [.p (.int .u64 0), pI 0], (B1 L)) := (H9 L)
 have q2 : Runs lp 68 [P00, pI 0, pB (decide ((0 : Int) ≤ most))] (B1 L) (pB false, (B1 L)) := (Ud (L := L) 0 (decide ((0 : Int) ≤ most)))
 rO [(2, oC q1), (19, oC q2)] [_, _] (by kernel_rfl) ⟨q1, q2, trivial⟩
theorem Vk {L : BY} {most : Int} (c1 : (decide ((0 : Int) > most)) = true) :
  Runs lp 91 [P00, pI most] (B1 L) (pT [], (B1 L)) :=
 have q1 : Runs lp 67 [P00] (B1 L) (.tup [.p (.int .u64 0), pI 0], (B1 L)) := (H9 L)
 have q2 : Runs lp 40 [P00] (B1 L) (.tup [], (B1 L)) := (Eh (L := L) (bad := true))
 rO [(2, oC q1), (18, .b true), (0, .b true), (0, .b true), (0, .b true), (0, .b true), (0, .b true), (0, .b true), (0, .b true), (6, oC q2)] [_, _, _, _, _, _, _, _, _, _] (by kernel_rfl) ⟨q1, cI c1, cI c1, cI c1, cI c1, cI c1, cI c1, cI c1, cI c1, q2, trivial⟩
theorem Vl {L : BY} {most : Int} (c1 : (decide ((0 : Int) > most)) = false) :
  Runs lp 91 [P00, pI most] (B1 L) (pT [], (B1 L)) :=
 have q1 : Runs lp 67 [P00] (B1 L) (.tup [.p (.int .u64 0), pI 0], (B1 L)) := (H9 L)
 have q2 : Runs lp 16 [P00] (B1 L) (pI 0, (B1 L)) := (P0 (L := L) rfl)
 have q3 : Runs lp 40 [P00] (B1 L) (.tup [], (B1 L)) := (Eh (L := L) (bad := true))
 rO [(2, oC q1), (18, .b false), (1, .b false), (1, .b false), (1, .b false), (0, oC q2), (0, .b false), (1, .b false), (1, .b false), (1, .b false), (8, oC q3)] [_, _, _, _, _, _, _, _, _, _, _] (by kernel_rfl) ⟨q1, cI c1, cI c1, cI c1, cI c1, q2, cI c1, cI c1, cI c1, cI c1, q3, trivial⟩
theorem vtext_b {L : BY} {most : Int}  :
  Runs lp 91 [P00, pI most] (B1 L) (if (decide ((0 : Int) > most)) = true then ((pT [], (B1 L))) else ((pT [], (B1 L)))) := by
 by_cases k1 : (decide ((0 : Int) > most)) = true
 ·refine Ak k1 ?_
  exact Vk (L := L) (most := most) k1
 ·refine Al k1 ?_
  replace k1 := Bool.eq_false_iff.2 k1
  exact Vl (L := L) (most := most) k1
theorem Y9 {L : BY} (c1 : (decide (Bj L = 0)) = true) :
  Runs lp 92 [P00] (aR7 L) (pI 0, (B1 L)) :=
 have q1 : Runs lp 67 [P00] (aR7 L) (.tup [.p (.int .u64 (Bl L : Int)), pI (Bj L : Int)], (aR7 L)) := (Co L)
 have q2 : Runs lp 68 [P00, pI (Bj L : Int), pB true] (aR7 L) (pB false, (B1 L)) := (P4 (L := L) true c1)
 rO [(2, oC q1), (7, oC q2)] [_, _] (by kernel_rfl) ⟨q1, q2, trivial⟩
theorem Za {L : BY} (c1 : (decide (Bj L = 0)) = false) (h2 : Bj L ≤ List.length L) :
  Runs lp 92 [P00] (aR7 L) (pI (IntKind.wrap .i64 ↑(BitVec.ofInt (IntKind.bits .i64) (IntKind.wrap .i64 (Int.fdiv (Bl L : Int) (2 ^ 1))) ^^^ BitVec.ofInt (IntKind.bits .i64) (IntKind.wrap .i64 (0 - (IntKind.wrap .i64 (IntKind.wrap .u64 ↑(BitVec.ofInt (IntKind.bits .u64) (Bl L : Int) &&& BitVec.ofInt (IntKind.bits .u64) 1).toNat))))).toNat), [.row [[pS (List.drop (Bj L) L), pB false]]]) :=
 have q1 : Runs lp 67 [P00] (aR7 L) (.tup [.p (.int .u64 (Bl L : Int)), pI (Bj L : Int)], (aR7 L)) := (Co L)
 have q2 : Runs lp 68 [P00, pI (Bj L : Int), pB true] (aR7 L) (pB true, [.row [[pS (List.drop (Bj L) L), pB false]]]) := (Uf (L := L) c1 rfl h2)
 rO [(2, oC q1), (7, oC q2)] [_, _] (by kernel_rfl) ⟨q1, q2, trivial⟩
theorem Rr {L : BY} {most : Int} (c1 : (decide ((Bl L : Int) ≤ 4611686018427387904)) = true) (c2 : (decide (Bj L = 0)) = true) :
  Runs lp 37 [P00, pI most] (aR7 L) (pI 0, (B1 L)) :=
 have q1 : Runs lp 67 [P00] (aR7 L) (.tup [.p (.int .u64 (Bl L : Int)), pI (Bj L : Int)], (aR7 L)) := (Co L)
 have q2 : Runs lp 68 [P00, pI (Bj L : Int), pB (decide ((IntKind.wrap .i64 (Bl L : Int)) ≤ most))] (aR7 L) (pB false, (B1 L)) := (P4 (L := L) (decide ((IntKind.wrap .i64 (Bl L : Int)) ≤ most)) c2)
 rO [(2, oC q1), (10, .b true), (1, .b true), (1, .b true), (1, .b true), (1, .b true), (0, oC q2)] [_, _, _, _, _, _, _] (by kernel_rfl) ⟨q1, cI c1, cI c1, cI c1, cI c1, cI c1, q2, trivial⟩
theorem P5 {L : BY} {most : Int} (c1 : (decide ((Bl L : Int) ≤ 4611686018427387904)) = true) (c2 : (decide (Bj L = 0)) = false) (c3 : (decide ((IntKind.wrap .i64 (Bl L : Int)) ≤ most)) = true) (h4 : Bj L ≤ List.length L) :
  Runs lp 37 [P00, pI most] (aR7 L) (pI (IntKind.wrap .i64 (Bl L : Int)), [.row [[pS (List.drop (Bj L) L), pB false]]]) :=
 have q1 : Runs lp 67 [P00] (aR7 L) (.tup [.p (.int .u64 (Bl L : Int)), pI (Bj L : Int)], (aR7 L)) := (Co L)
 have q2 : Runs lp 68 [P00, pI (Bj L : Int), pB (decide ((IntKind.wrap .i64 (Bl L : Int)) ≤ most))] (aR7 L) (pB true, [.row [[pS (List.drop (Bj L) L), pB false]]]) := (Uf (L := L) c2 c3 h4)
 rO [(2, oC q1), (10, .b true), (1, .b true), (1, .b true), (1, .b true), (1, .b true), (0, oC q2)] [_, _, _, _, _, _, _] (by kernel_rfl) ⟨q1, cI c1, cI c1, cI c1, cI c1, cI c1, q2, trivial⟩
theorem P6 {L : BY} {most : Int} (c1 : (decide ((Bl L : Int) ≤ 4611686018427387904)) = true) (c2 : (decide (Bj L = 0)) = false) (c3 : (decide ((IntKind.wrap .i64 (Bl L : Int)) ≤ most)) = false) :
  Runs lp 37 [P00, pI most] (aR7 L) (pI 0, (B1 L)) :=
 have q1 : Runs lp 67 [P00] (aR7 L) (.tup [.p (.int .u64 (Bl L : Int)), pI (Bj L : Int)], (aR7 L)) := (Co L)
 have q2 : Runs lp 68 [P00, pI (Bj L : Int), pB (decide ((IntKind.wrap .i64 (Bl L : Int)) ≤ most))] (aR7 L) (pB false, (B1 L)) := (Ue (L := L) (Bj L) c3)
 rO [(2, oC q1), (10, .b true), (1, .b true), (1, .b true), (1, .b true), (1, .b true), (0, oC q2)] [_, _, _, _, _, _, _] (by kernel_rfl) ⟨q1, cI c1, cI c1, cI c1, cI c1, cI c1, q2, trivial⟩
theorem Rs {L : BY} {most : Int} (c1 : (decide ((Bl L : Int) ≤ 4611686018427387904)) = false) (c2 : (decide (Bj L = 0)) = true) :
  Runs lp 37 [P00, pI most] (aR7 L) (pI 0, (B1 L)) :=
 have q1 : Runs lp 67 [P00] (aR7 L) (.tup [.p (.int .u64 (Bl L : Int)), pI (Bj L : Int)], (aR7 L)) := (Co L)
 have q2 : Runs lp 68 [P00, pI (Bj L : Int), pB false] (aR7 L) (pB false, (B1 L)) := (P4 (L := L) false c2)
 rO [(2, oC q1), (10, .b false), (0, .b false), (0, .b false), (0, .b false), (0, .b false), (0, oC q2)] [_, _, _, _, _, _, _] (by kernel_rfl) ⟨q1, cI c1, cI c1, cI c1, cI c1, cI c1, q2, trivial⟩
theorem Rt {L : BY} {most : Int} (c1 : (decide ((Bl L : Int) ≤ 4611686018427387904)) = false) (c2 : (decide (Bj L = 0)) = false) :
  Runs lp 37 [P00, pI most] (aR7 L) (pI 0, (B1 L)) :=
 have q1 : Runs lp 67 [P00] (aR7 L) (.tup [.p (.int .u64 (Bl L : Int)), pI (Bj L : Int)], (aR7 L)) := (Co L)
 have q2 : Runs lp 68 [P00, pI (Bj L : Int), pB false] (aR7 L) (pB false, (B1 L)) := (Ue (L := L) (Bj L) rfl)
 rO [(2, oC q1), (10, .b false), (0, .b false), (0, .b false), (0, .b false), (0, .b false), (0, oC q2)] [_, _, _, _, _, _, _] (by kernel_rfl) ⟨q1, cI c1, cI c1, cI c1, cI c1, cI c1, q2, trivial⟩
theorem O0 {L : BY} {most : Int} (c1 : (decide ((Bl L : Int) > 4611686018427387904)) = true) :
  Runs lp 91 [P00, pI most] (aR7 L) (pT [], (B1 L)) :=
 have q1 : Runs lp 67 [P00] (aR7 L) (.tup [.p (.int .u64 (Bl L : Int)), pI (Bj L : Int)], (aR7 L)) := (Co L)
 have q2 : Runs lp 40 [P00] (aR7 L) (.tup [], (B1 L)) := (Eh (L := L) (bad := false))
 rO [(2, oC q1), (8, .b true), (0, .b true), (0, .b true), (0, .b true), (0, .b true), (15, oC q2)] [_, _, _, _, _, _, _] (by kernel_rfl) ⟨q1, cI c1, cI c1, cI c1, cI c1, cI c1, q2, trivial⟩
theorem S7 {L : BY} {most : Int} (c1 : (decide ((Bl L : Int) > 4611686018427387904)) = false) (c2 : (decide ((IntKind.wrap .i64 (Bl L : Int)) > most)) = true) :
  Runs lp 91 [P00, pI most] (aR7 L) (pT [], (B1 L)) :=
 have q1 : Runs lp 67 [P00] (aR7 L) (.tup [.p (.int .u64 (Bl L : Int)), pI (Bj L : Int)], (aR7 L)) := (Co L)
 have q2 : Runs lp 40 [P00] (aR7 L) (.tup [], (B1 L)) := (Eh (L := L) (bad := false))
 rO [(2, oC q1), (8, .b false), (1, .b false), (1, .b false), (1, .b false), (1, .b false), (1, .b true), (0, .b true), (0, .b true), (0, .b true), (0, .b true), (0, .b true), (0, .b true), (0, .b true), (6, oC q2)] [_, _, _, _, _, _, _, _, _, _, _, _, _, _, _] (by kernel_rfl) ⟨q1, cI c1, cI c1, cI c1, cI c1, cI c1, cI c2, cI c2, cI c2, cI c2, cI c2, cI c2, cI c2, cI c2, q2, trivial⟩
theorem Ru {L : BY} {most : Int} (c1 : (decide ((Bl L : Int) > 4611686018427387904)) = false) (c2 : (decide ((IntKind.wrap .i64 (Bl L : Int)) > most)) = false) (c3 : (decide ((IntKind.wrap .i64 (Bl L : Int)) > (IntKind.wrap .i64 (((List.length (bs L) : Nat) : Int) - (Bj L : Int))))) = true) :
  Runs lp 91 [P00, pI most] (aR7 L) (pT [], (B1 L)) :=
 have q1 : Runs lp 67 [P00] (aR7 L) (.tup [.p (.int .u64 (Bl L : Int)), pI (Bj L : Int)], (aR7 L)) := (Co L)
 have q2 : Runs lp 16 [P00] (aR7 L) (pI ((List.length (bs L) : Nat) : Int), (aR7 L)) := (Gp (L := L) rfl)
 have q3 : Runs lp 40 [P00] (aR7 L) (.tup [], (B1 L)) := (Eh (L := L) (bad := false))
 rO [(2, oC q1), (8, .b false), (1, .b false), (1, .b false), (1, .b false), (1, .b false), (1, .b false), (1, .b false), (1, .b false), (1, .b false), (0, oC q2), (0, .b false), (1, .b false), (1, .b false), (1, .b false), (1, .b true), (0, .b true), (0, .b true), (2, oC q3)] [_, _, _, _, _, _, _, _, _, _, _, _, _, _, _, _, _, _, _] (by kernel_rfl) ⟨q1, cI c1, cI c1, cI c1, cI c1, cI c1, cI c2, cI c2, cI c2, cI c2, q2, cI c2, cI c2, cI c2, cI c2, cI c3, cI c3, cI c3, q3, trivial⟩
theorem P7 {L : BY} {most : Int} (c1 : (decide ((Bl L : Int) > 4611686018427387904)) = false) (c2 : (decide ((IntKind.wrap .i64 (Bl L : Int)) > most)) = false) (c3 : (decide ((IntKind.wrap .i64 (Bl L : Int)) > (IntKind.wrap .i64 (((List.length (bs L) : Nat) : Int) - (Bj L : Int))))) = false) (c4 : ((Bj L : Int) == 0) = true) :
  Runs lp 91 [P00, pI most] (aR7 L) (pT [], (B1 L)) :=
 have q1 : Runs lp 67 [P00] (aR7 L) (.tup [.p (.int .u64 (Bl L : Int)), pI (Bj L : Int)], (aR7 L)) := (Co L)
 have q2 : Runs lp 16 [P00] (aR7 L) (pI ((List.length (bs L) : Nat) : Int), (aR7 L)) := (Gp (L := L) rfl)
 have q3 : Runs lp 40 [P00] (aR7 L) (.tup [], (B1 L)) := (Eh (L := L) (bad := false))
 rO [(2, oC q1), (8, .b false), (1, .b false), (1, .b false), (1, .b false), (1, .b false), (1, .b false), (1, .b false), (1, .b false), (1, .b false), (0, oC q2), (0, .b false), (1, .b false), (1, .b false), (1, .b false), (1, .b false), (1, .b false), (1, .b false), (0, .b true), (1, oC q3)] [_, _, _, _, _, _, _, _, _, _, _, _, _, _, _, _, _, _, _, _] (by kernel_rfl) ⟨q1, cI c1, cI c1, cI c1, cI c1, cI c1, cI c2, cI c2, cI c2, cI c2, q2, cI c2, cI c2, cI c2, cI c2, cI c3, cI c3, cI c3, cI c4, q3, trivial⟩
theorem P8 {L : BY} {most : Int} (c1 : (decide ((Bl L : Int) > 4611686018427387904)) = false) (c2 : (decide ((IntKind.wrap .i64 (Bl L : Int)) > most)) = false) (c3 : (decide ((IntKind.wrap .i64 (Bl L : Int)) > (IntKind.wrap .i64 (((List.length (bs L) : Nat) : Int) - (Bj L : Int))))) = false) (c4 : ((Bj L : Int) == 0) = false) (h5 : 0 ≤ (Bj L : Int)) (h6 : (Bj L : Int) ≤ IntKind.wrap .i64 ((Bj L : Int) + (IntKind.wrap .i64 (Bl L : Int)))) (h7 : IntKind.wrap .i64 ((Bj L : Int) + (IntKind.wrap .i64 (Bl L : Int))) ≤ (List.length L : Int)) (h8 : 0 ≤ IntKind.wrap .i64 ((Bj L : Int) + (IntKind.wrap .i64 (Bl L : Int)))) :
  Runs lp 91 [P00, pI most] (aR7 L) (pT (List.drop (Int.toNat (Bj L : Int)) (List.take (Int.toNat (IntKind.wrap .i64 ((Bj L : Int) + (IntKind.wrap .i64 (Bl L : Int))))) L)), [.row [[pS (List.drop (Int.toNat (IntKind.wrap .i64 ((Bj L : Int) + (IntKind.wrap .i64 (Bl L : Int))))) L), pB false]]]) :=
 have q1 : Runs lp 67 [P00] (aR7 L) (.tup [.p (.int .u64 (Bl L : Int)), pI (Bj L : Int)], (aR7 L)) := (Co L)
 have q2 : Runs lp 16 [P00] (aR7 L) (pI ((List.length (bs L) : Nat) : Int), (aR7 L)) := (Gp (L := L) rfl)
 have q3 : OpE (aR7 L) (.slice 1 (.const (pS L)) (some (.const (pI (Bj L : Int)))) (some (.const (pI (IntKind.wrap .i64 ((Bj L : Int) + (IntKind.wrap .i64 (Bl L : Int))))))) none) (pS (List.drop (Int.toNat (Bj L : Int)) (List.take (Int.toNat (IntKind.wrap .i64 ((Bj L : Int) + (IntKind.wrap .i64 (Bl L : Int))))) L))) := (Pq h5 h6 h7)
 have q4 : OpE (aR7 L) (.cv .b2s (.const (pS (List.drop (Int.toNat (Bj L : Int)) (List.take (Int.toNat (IntKind.wrap .i64 ((Bj L : Int) + (IntKind.wrap .i64 (Bl L : Int))))) L))))) (pT (List.drop (Int.toNat (Bj L : Int)) (List.take (Int.toNat (IntKind.wrap .i64 ((Bj L : Int) + (IntKind.wrap .i64 (Bl L : Int))))) L))) := (Dw rfl)
 have q5 : OpE (aR7 L) (.slice 1 (.const (pS L)) (some (.const (pI (IntKind.wrap .i64 ((Bj L : Int) + (IntKind.wrap .i64 (Bl L : Int))))))) none none) (pS (List.drop (Int.toNat (IntKind.wrap .i64 ((Bj L : Int) + (IntKind.wrap .i64 (Bl L : Int))))) L)) := (En h8 h7)
 rO [(2, oC q1), (8, .b false), (1, .b false), (1, .b false), (1, .b false), (1, .b false), (1, .b false), (1, .b false), (1, .b false), (1, .b false), (0, oC q2), (0, .b false), (1, .b false), (1, .b false), (1, .b false), (1, .b false), (1, .b false), (1, .b false), (0, .b false), (11, oO q3), (0, oO q4), (7, oO q5)] [_, _, _, _, _, _, _, _, _, _, _, _, _, _, _, _, _, _, _, _, _, _] (by kernel_rfl) ⟨q1, cI c1, cI c1, cI c1, cI c1, cI c1, cI c2, cI c2, cI c2, cI c2, q2, cI c2, cI c2, cI c2, cI c2, cI c3, cI c3, cI c3, cI c4, q3, q4, q5, trivial⟩
end Go.Proofs.YtegboccilfofmaaGreat
