import Derived.Test.YtegboccilfofmaaGreatLsAb
import Derived.Test.YtegboccilfofmaaGreatLsRd2
set_option linter.unusedVariables false
set_option maxRecDepth 100000
namespace Go.Proofs.YtegboccilfofmaaGreat
open Go Go.LS
theorem take_b {L : BY} {n : Nat} {r : Bool}  :
  Runs lp 68 [P00, pI (n : Int), pB r] (Be L) (pB false, (Be L)) :=
 have q1 : Runs lp 15 [P00] (Be L) (pB true, (Be L)) := (Sv (L := L) (bad := true))
 have q2 : Runs lp 40 [P00] (Be L) (.tup [], (Be L)) := (Eg (L := L) (bad := true))
 rO [(2, oC q1), (10, oC q2)] [_, _] (by kernel_rfl) ⟨q1, q2, trivial⟩
theorem Re {L : BY} {n : Nat} {r : Bool} (c1 : ((n : Int) == 0) = true) :
  Runs lp 68 [P00, pI (n : Int), pB r] (aR8 L) (pB false, (Be L)) :=
 have q1 : Runs lp 15 [P00] (aR8 L) (pB false, (aR8 L)) := (Sv (L := L) (bad := false))
 have q2 : Runs lp 40 [P00] (aR8 L) (.tup [], (Be L)) := (Eg (L := L) (bad := false))
 rO [(2, oC q1), (7, .b true), (0, .b true), (0, .b true), (2, oC q2)] [_, _, _, _, _] (by kernel_rfl) ⟨q1, cI c1, cI c1, cI c1, q2, trivial⟩
theorem Vh {L : BY} {n : Nat} {r : Bool} (c1 : ((n : Int) == 0) = false) (c2 : (r) = true) (h3 : 0 ≤ (n : Int)) (h4 : (n : Int) ≤ (List.length L : Int)) :
  Runs lp 68 [P00, pI (n : Int), pB r] (aR8 L) (pB true, [.row [[pS (List.drop (Int.toNat (n : Int)) L), pB false]]]) :=
 have q1 : Runs lp 15 [P00] (aR8 L) (pB false, (aR8 L)) := (Sv (L := L) (bad := false))
 have q2 : OpE (aR8 L) (.slice 1 (.const (pS L)) (some (.const (pI (n : Int)))) none none) (pS (List.drop (Int.toNat (n : Int)) L)) := (Cd h3 h4)
 rO [(2, oC q1), (7, .b false), (1, .b false), (1, .b false), (0, .b false), (6, oO q2)] [_, _, _, _, _, _] (by kernel_rfl) ⟨q1, cI c1, cI c1, cI c1, (cI (Ae c2)), q2, trivial⟩
theorem Vi {L : BY} {n : Nat} {r : Bool} (c1 : ((n : Int) == 0) = false) (c2 : (r) = false) :
  Runs lp 68 [P00, pI (n : Int), pB r] (aR8 L) (pB false, (Be L)) :=
 have q1 : Runs lp 15 [P00] (aR8 L) (pB false, (aR8 L)) := (Sv (L := L) (bad := false))
 have q2 : Runs lp 40 [P00] (aR8 L) (.tup [], (Be L)) := (Eg (L := L) (bad := false))
 rO [(2, oC q1), (7, .b false), (1, .b false), (1, .b false), (0, .b true), (1, oC q2)] [_, _, _, _, _, _] (by kernel_rfl) ⟨q1, cI c1, cI c1, cI c1, (cI (Ae c2)), q2, trivial⟩
theorem Ud {L : BY} (n : Nat) (r : Bool) : Runs lp 68 [P00, pI n, pB r] (stL L true) (pB false, stL L true) := take_b
theorem Pi {L : BY} (r : Bool) {n : Nat} (h : (decide (n = 0)) = true) : Runs lp 68 [P00, pI n, pB r] (stL L false) (pB false, stL L true) := Re (by simpa using h)
theorem Ue {L : BY} {r : Bool} (n : Nat) (h : r = false) : Runs lp 68 [P00, pI n, pB r] (stL L false) (pB false, stL L true) := by
 subst h
 by_cases h : n = 0
 ·exact Re (by simp [h])
 ·exact Vi (by simp [h]) rfl
theorem Uf {L : BY} {r : Bool} {n : Nat} (h : (decide (n = 0)) = false) (hr : r = true) (hn : n ≤ L.length) : Runs lp 68 [P00, pI n, pB r] (stL L false) (pB true, stL (L.drop n) false) := by
 subst hr
 have := Vh (L := L) (n := n) (r := true) (by simpa using h) rfl (by omega) (by omega)
 simpa using this
theorem vint_b {L : BY}  :
  Runs lp 92 [P00] (Be L) (pI 0, (Be L)) :=
 have q1 : Runs lp 67 [P00] (Be L) (.tup [.p (.int .u64 0), pI 0], (Be L)) := (Hx L)
 have q2 : Runs lp 68 [P00, pI 0, pB true] (Be L) (pB false, (Be L)) := (Ud (L := L) 0 true)
 rO [(2, oC q1), (7, oC q2)] [_, _] (by kernel_rfl) ⟨q1, q2, trivial⟩
theorem Zb {L : BY} {most : Int}  :
  Runs lp 37 [P00, pI most] (Be L) (pI 0, (Be L)) :=
 have q1 : Runs lp 67 [P00] (Be L) (.tup [.p (.int .u64 0), pI 0], (Be L)) := (Hx L)
 have q2 : Runs lp 68 [P00, pI 0, pB (decide ((0 : Int) ≤ most))] (Be L) (pB false, (Be L)) := (Ud (L := L) 0 (decide ((0 : Int) ≤ most)))
 rO [(2, oC q1), (19, oC q2)] [_, _] (by kernel_rfl) ⟨q1, q2, trivial⟩
theorem Vj {L : BY} {most : Int} (c1 : (decide ((0 : Int) > most)) = true) :
  Runs lp 91 [P00, pI most] (Be L) (pT [], (Be L)) :=
 have q1 : Runs lp 67 [P00] (Be L) (.tup [.p (.int .u64 0), pI 0], (Be L)) := (Hx L)
 have q2 : Runs lp 40 [P00] (Be L) (.tup [], (Be L)) := (Eg (L := L) (bad := true))
 rO [(2, oC q1), (18, .b true), (0, .b true), (0, .b true), (0, .b true), (0, .b true), (0, .b true), (0, .b true), (0, .b true), (6, oC q2)] [_, _, _, _, _, _, _, _, _, _] (by kernel_rfl) ⟨q1, cI c1, cI c1, cI c1, cI c1, cI c1, cI c1, cI c1, cI c1, q2, trivial⟩
theorem Vk {L : BY} {most : Int} (c1 : (decide ((0 : Int) > most)) = false) :
  Runs lp 91 [P00, pI most] (Be L) (pT [], (Be L)) :=
 have q1 : Runs lp 67 [P00] (Be L) (.tup [.p (.int .u64 0), pI 0], (Be L)) := (Hx L)
 have q2 : Runs lp 16 [P00] (Be L) (pI 0, (Be L)) := (Lt (L := L) rfl)
 have q3 : Runs lp 40 [P00] (Be L) (.tup [], (Be L)) := (Eg (L := L) (bad := true))
 rO [(2, oC q1), (18, .b false), (1, .b false), (1, .b false), (1, .b false), (0, oC q2), (0, .b false), (1, .b false), (1, .b false), (1, .b false), (8, oC q3)] [_, _, _, _, _, _, _, _, _, _, _] (by kernel_rfl) ⟨q1, cI c1, cI c1, cI c1, cI c1, q2, cI c1, cI c1, cI c1, cI c1, q3, trivial⟩
theorem vtext_b {L : BY} {most : Int}  :
  Runs lp 91 [P00, pI most] (Be L) (if (decide ((0 : Int) > most)) = true then ((pT [], (Be L))) else ((pT [], (Be L)))) := by
 by_cases k1 : (decide ((0 : Int) > most)) = true
 ·refine Ak k1 ?_
  exact Vj (L := L) (most := most) k1
 ·refine Al k1 ?_
  replace k1 := Bool.eq_false_iff.2 k1
  exact Vk (L := L) (most := most) k1
theorem rint_b {L : BY}  :
  Runs lp 94 [P00] (Be L) (pI 0, (Be L)) :=
 rO [] [] (by kernel_rfl) trivial
theorem Rf {L : BY} {most : Int}  :
  Runs lp 43 [P00, pI most] (Be L) (pI 0, (Be L)) :=
 rO [] [] (by kernel_rfl) trivial
theorem rtext_b {L : BY} {most : Int}  :
  Runs lp 73 [P00, pI most] (Be L) (pT [], (Be L)) :=
 have q1 : Runs lp 43 [P00, pI most] (Be L) (pI 0, (Be L)) := (Rf (most := most) )
 rO [(8, oC q1)] [_] (by kernel_rfl) ⟨q1, trivial⟩
theorem Zc {L : BY} (c1 : (decide (Az L = 0)) = true) :
  Runs lp 92 [P00] (aR8 L) (pI 0, (Be L)) :=
 have q1 : Runs lp 67 [P00] (aR8 L) (.tup [.p (.int .u64 (Ay L : Int)), pI (Az L : Int)], (aR8 L)) := (Cb L)
 have q2 : Runs lp 68 [P00, pI (Az L : Int), pB true] (aR8 L) (pB false, (Be L)) := (Pi (L := L) true c1)
 rO [(2, oC q1), (7, oC q2)] [_, _] (by kernel_rfl) ⟨q1, q2, trivial⟩
theorem Zd {L : BY} (c1 : (decide (Az L = 0)) = false) (h2 : Az L ≤ List.length L) :
  Runs lp 92 [P00] (aR8 L) (pI (IntKind.wrap .i64 ↑(BitVec.ofInt (IntKind.bits .i64) (IntKind.wrap .i64 (Int.fdiv (Ay L : Int) (2 ^ 1))) ^^^ BitVec.ofInt (IntKind.bits .i64) (IntKind.wrap .i64 (0 - (IntKind.wrap .i64 (IntKind.wrap .u64 ↑(BitVec.ofInt (IntKind.bits .u64) (Ay L : Int) &&& BitVec.ofInt (IntKind.bits .u64) 1).toNat))))).toNat), [.row [[pS (List.drop (Az L) L), pB false]]]) :=
 have q1 : Runs lp 67 [P00] (aR8 L) (.tup [.p (.int .u64 (Ay L : Int)), pI (Az L : Int)], (aR8 L)) := (Cb L)
 have q2 : Runs lp 68 [P00, pI (Az L : Int), pB true] (aR8 L) (pB true, [.row [[pS (List.drop (Az L) L), pB false]]]) := (Uf (L := L) c1 rfl h2)
 rO [(2, oC q1), (7, oC q2)] [_, _] (by kernel_rfl) ⟨q1, q2, trivial⟩
theorem Rg {L : BY} {most : Int} (c1 : (decide ((Ay L : Int) ≤ 4611686018427387904)) = true) (c2 : (decide (Az L = 0)) = true) :
  Runs lp 37 [P00, pI most] (aR8 L) (pI 0, (Be L)) :=
 have q1 : Runs lp 67 [P00] (aR8 L) (.tup [.p (.int .u64 (Ay L : Int)), pI (Az L : Int)], (aR8 L)) := (Cb L)
 have q2 : Runs lp 68 [P00, pI (Az L : Int), pB (decide ((IntKind.wrap .i64 (Ay L : Int)) ≤ most))] (aR8 L) (pB false, (Be L)) := (Pi (L := L) (decide ((IntKind.wrap .i64 (Ay L : Int)) ≤ most)) c2)
 rO [(2, oC q1), (10, .b true), (1, .b true), (1, .b true), (1, .b true), (1, .b true), (0, oC q2)] [_, _, _, _, _, _, _] (by kernel_rfl) ⟨q1, cI c1, cI c1, cI c1, cI c1, cI c1, q2, trivial⟩
theorem Pj {L : BY} {most : Int} (c1 : (decide ((Ay L : Int) ≤ 4611686018427387904)) = true) (c2 : (decide (Az L = 0)) = false) (c3 : (decide ((IntKind.wrap .i64 (Ay L : Int)) ≤ most)) = true) (h4 : Az L ≤ List.length L) :
  Runs lp 37 [P00, pI most] (aR8 L) (pI (IntKind.wrap .i64 (Ay L : Int)), [.row [[pS (List.drop (Az L) L), pB false]]]) :=
 have q1 : Runs lp 67 [P00] (aR8 L) (.tup [.p (.int .u64 (Ay L : Int)), pI (Az L : Int)], (aR8 L)) := (Cb L)
 have q2 : Runs lp 68 [P00, pI (Az L : Int), pB (decide ((IntKind.wrap .i64 (Ay L : Int)) ≤ most))] (aR8 L) (pB true, [.row [[pS (List.drop (Az L) L), pB false]]]) := (Uf (L := L) c2 c3 h4)
 rO [(2, oC q1), (10, .b true), (1, .b true), (1, .b true), (1, .b true), (1, .b true), (0, oC q2)] [_, _, _, _, _, _, _] (by kernel_rfl) ⟨q1, cI c1, cI c1, cI c1, cI c1, cI c1, q2, trivial⟩
theorem Pk {L : BY} {most : Int} (c1 : (decide ((Ay L : Int) ≤ 4611686018427387904)) = true) (c2 : (decide (Az L = 0)) = false) (c3 : (decide ((IntKind.wrap .i64 (Ay L : Int)) ≤ most)) = false) :
  Runs lp 37 [P00, pI most] (aR8 L) (pI 0, (Be L)) :=
 have q1 : Runs lp 67 [P00] (aR8 L) (.tup [.p (.int .u64 (Ay L : Int)), pI (Az L : Int)], (aR8 L)) := (Cb L)
 have q2 : Runs lp 68 [P00, pI (Az L : Int), pB (decide ((IntKind.wrap .i64 (Ay L : Int)) ≤ most))] (aR8 L) (pB false, (Be L)) := (Ue (L := L) (Az L) c3)
 rO [(2, oC q1), (10, .b true), (1, .b true), (1, .b true), (1, .b true), (1, .b true), (0, oC q2)] [_, _, _, _, _, _, _] (by kernel_rfl) ⟨q1, cI c1, cI c1, cI c1, cI c1, cI c1, q2, trivial⟩
theorem Rh {L : BY} {most : Int} (c1 : (decide ((Ay L : Int) ≤ 4611686018427387904)) = false) (c2 : (decide (Az L = 0)) = true) :
  Runs lp 37 [P00, pI most] (aR8 L) (pI 0, (Be L)) :=
 have q1 : Runs lp 67 [P00] (aR8 L) (.tup [.p (.int .u64 (Ay L : Int)), pI (Az L : Int)], (aR8 L)) := (Cb L)
 have q2 : Runs lp 68 [P00, pI (Az L : Int), pB false] (aR8 L) (pB false, (Be L)) := (Pi (L := L) false c2)
 rO [(2, oC q1), (10, .b false), (0, .b false), (0, .b false), (0, .b false), (0, .b false), (0, oC q2)] [_, _, _, _, _, _, _] (by kernel_rfl) ⟨q1, cI c1, cI c1, cI c1, cI c1, cI c1, q2, trivial⟩
theorem Ri {L : BY} {most : Int} (c1 : (decide ((Ay L : Int) ≤ 4611686018427387904)) = false) (c2 : (decide (Az L = 0)) = false) :
  Runs lp 37 [P00, pI most] (aR8 L) (pI 0, (Be L)) :=
 have q1 : Runs lp 67 [P00] (aR8 L) (.tup [.p (.int .u64 (Ay L : Int)), pI (Az L : Int)], (aR8 L)) := (Cb L)
 have q2 : Runs lp 68 [P00, pI (Az L : Int), pB false] (aR8 L) (pB false, (Be L)) := (Ue (L := L) (Az L) rfl)
 rO [(2, oC q1), (10, .b false), (0, .b false), (0, .b false), (0, .b false), (0, .b false), (0, oC q2)] [_, _, _, _, _, _, _] (by kernel_rfl) ⟨q1, cI c1, cI c1, cI c1, cI c1, cI c1, q2, trivial⟩
theorem Of {L : BY} {most : Int} (c1 : (decide ((Ay L : Int) > 4611686018427387904)) = true) :
  Runs lp 91 [P00, pI most] (aR8 L) (pT [], (Be L)) :=
 have q1 : Runs lp 67 [P00] (aR8 L) (.tup [.p (.int .u64 (Ay L : Int)), pI (Az L : Int)], (aR8 L)) := (Cb L)
 have q2 : Runs lp 40 [P00] (aR8 L) (.tup [], (Be L)) := (Eg (L := L) (bad := false))
 rO [(2, oC q1), (8, .b true), (0, .b true), (0, .b true), (0, .b true), (0, .b true), (15, oC q2)] [_, _, _, _, _, _, _] (by kernel_rfl) ⟨q1, cI c1, cI c1, cI c1, cI c1, cI c1, q2, trivial⟩
theorem S1 {L : BY} {most : Int} (c1 : (decide ((Ay L : Int) > 4611686018427387904)) = false) (c2 : (decide ((IntKind.wrap .i64 (Ay L : Int)) > most)) = true) :
  Runs lp 91 [P00, pI most] (aR8 L) (pT [], (Be L)) :=
 have q1 : Runs lp 67 [P00] (aR8 L) (.tup [.p (.int .u64 (Ay L : Int)), pI (Az L : Int)], (aR8 L)) := (Cb L)
 have q2 : Runs lp 40 [P00] (aR8 L) (.tup [], (Be L)) := (Eg (L := L) (bad := false))
 rO [(2, oC q1), (8, .b false), (1, .b false), (1, .b false), (1, .b false), (1, .b false), (1, .b true), (0, .b true), (0, .b true), (0, .b true), (0, .b true), (0, .b true), (0, .b true), (0, .b true), (6, oC q2)] [_, _, _, _, _, _, _, _, _, _, _, _, _, _, _] (by kernel_rfl) ⟨q1, cI c1, cI c1, cI c1, cI c1, cI c1, cI c2, cI c2, cI c2, cI c2, cI c2, cI c2, cI c2, cI c2, q2, trivial⟩
theorem Rj {L : BY} {most : Int} (c1 : (decide ((Ay L : Int) > 4611686018427387904)) = false) (c2 : (decide ((IntKind.wrap .i64 (Ay L : Int)) > most)) = false) (c3 : (decide ((IntKind.wrap .i64 (Ay L : Int)) > (IntKind.wrap .i64 (((List.length (bs L) : Nat) : Int) - (Az L : Int))))) = true) :
  Runs lp 91 [P00, pI most] (aR8 L) (pT [], (Be L)) :=
 have q1 : Runs lp 67 [P00] (aR8 L) (.tup [.p (.int .u64 (Ay L : Int)), pI (Az L : Int)], (aR8 L)) := (Cb L)
 have q2 : Runs lp 16 [P00] (aR8 L) (pI ((List.length (bs L) : Nat) : Int), (aR8 L)) := (Fe (L := L) rfl)
 have q3 : Runs lp 40 [P00] (aR8 L) (.tup [], (Be L)) := (Eg (L := L) (bad := false))
 rO [(2, oC q1), (8, .b false), (1, .b false), (1, .b false), (1, .b false), (1, .b false), (1, .b false), (1, .b false), (1, .b false), (1, .b false), (0, oC q2), (0, .b false), (1, .b false), (1, .b false), (1, .b false), (1, .b true), (0, .b true), (0, .b true), (2, oC q3)] [_, _, _, _, _, _, _, _, _, _, _, _, _, _, _, _, _, _, _] (by kernel_rfl) ⟨q1, cI c1, cI c1, cI c1, cI c1, cI c1, cI c2, cI c2, cI c2, cI c2, q2, cI c2, cI c2, cI c2, cI c2, cI c3, cI c3, cI c3, q3, trivial⟩
theorem Pl {L : BY} {most : Int} (c1 : (decide ((Ay L : Int) > 4611686018427387904)) = false) (c2 : (decide ((IntKind.wrap .i64 (Ay L : Int)) > most)) = false) (c3 : (decide ((IntKind.wrap .i64 (Ay L : Int)) > (IntKind.wrap .i64 (((List.length (bs L) : Nat) : Int) - (Az L : Int))))) = false) (c4 : ((Az L : Int) == 0) = true) :
  Runs lp 91 [P00, pI most] (aR8 L) (pT [], (Be L)) :=
 have q1 : Runs lp 67 [P00] (aR8 L) (.tup [.p (.int .u64 (Ay L : Int)), pI (Az L : Int)], (aR8 L)) := (Cb L)
 have q2 : Runs lp 16 [P00] (aR8 L) (pI ((List.length (bs L) : Nat) : Int), (aR8 L)) := (Fe (L := L) rfl)
 have q3 : Runs lp 40 [P00] (aR8 L) (.tup [], (Be L)) := (Eg (L := L) (bad := false))
 rO [(2, oC q1), (8, .b false), (1, .b false), (1, .b false), (1, .b false), (1, .b false), (1, .b false), (1, .b false), (1, .b false), (1, .b false), (0, oC q2), (0, .b false), (1, .b false), (1, .b false), (1, .b false), (1, .b false), (1, .b false), (1, .b false), (0, .b true), (1, oC q3)] [_, _, _, _, _, _, _, _, _, _, _, _, _, _, _, _, _, _, _, _] (by kernel_rfl) ⟨q1, cI c1, cI c1, cI c1, cI c1, cI c1, cI c2, cI c2, cI c2, cI c2, q2, cI c2, cI c2, cI c2, cI c2, cI c3, cI c3, cI c3, cI c4, q3, trivial⟩
theorem Pm {L : BY} {most : Int} (c1 : (decide ((Ay L : Int) > 4611686018427387904)) = false) (c2 : (decide ((IntKind.wrap .i64 (Ay L : Int)) > most)) = false) (c3 : (decide ((IntKind.wrap .i64 (Ay L : Int)) > (IntKind.wrap .i64 (((List.length (bs L) : Nat) : Int) - (Az L : Int))))) = false) (c4 : ((Az L : Int) == 0) = false) (h5 : 0 ≤ (Az L : Int)) (h6 : (Az L : Int) ≤ IntKind.wrap .i64 ((Az L : Int) + (IntKind.wrap .i64 (Ay L : Int)))) (h7 : IntKind.wrap .i64 ((Az L : Int) + (IntKind.wrap .i64 (Ay L : Int))) ≤ (List.length L : Int)) (h8 : 0 ≤ IntKind.wrap .i64 ((Az L : Int) + (IntKind.wrap .i64 (Ay L : Int)))) :
  Runs lp 91 [P00, pI most] (aR8 L) (pT (List.drop (Int.toNat (Az L : Int)) (List.take (Int.toNat (IntKind.wrap .i64 ((Az L : Int) + (IntKind.wrap .i64 (Ay L : Int))))) L)), [.row [[pS (List.drop (Int.toNat (IntKind.wrap .i64 ((Az L : Int) + (IntKind.wrap .i64 (Ay L : Int))))) L), pB false]]]) :=
 have q1 : Runs lp 67 [P00] (aR8 L) (.tup [.p (.int .u64 (Ay L : Int)), pI (Az L : Int)], (aR8 L)) := (Cb L)
 have q2 : Runs lp 16 [P00] (aR8 L) (pI ((List.length (bs L) : Nat) : Int), (aR8 L)) := (Fe (L := L) rfl)
 have q3 : OpE (aR8 L) (.slice 1 (.const (pS L)) (some (.const (pI (Az L : Int)))) (some (.const (pI (IntKind.wrap .i64 ((Az L : Int) + (IntKind.wrap .i64 (Ay L : Int))))))) none) (pS (List.drop (Int.toNat (Az L : Int)) (List.take (Int.toNat (IntKind.wrap .i64 ((Az L : Int) + (IntKind.wrap .i64 (Ay L : Int))))) L))) := (O3 h5 h6 h7)
 have q4 : OpE (aR8 L) (.cv .b2s (.const (pS (List.drop (Int.toNat (Az L : Int)) (List.take (Int.toNat (IntKind.wrap .i64 ((Az L : Int) + (IntKind.wrap .i64 (Ay L : Int))))) L))))) (pT (List.drop (Int.toNat (Az L : Int)) (List.take (Int.toNat (IntKind.wrap .i64 ((Az L : Int) + (IntKind.wrap .i64 (Ay L : Int))))) L))) := (Qs rfl)
 have q5 : OpE (aR8 L) (.slice 1 (.const (pS L)) (some (.const (pI (IntKind.wrap .i64 ((Az L : Int) + (IntKind.wrap .i64 (Ay L : Int))))))) none none) (pS (List.drop (Int.toNat (IntKind.wrap .i64 ((Az L : Int) + (IntKind.wrap .i64 (Ay L : Int))))) L)) := (Cd h8 h7)
 rO [(2, oC q1), (8, .b false), (1, .b false), (1, .b false), (1, .b false), (1, .b false), (1, .b false), (1, .b false), (1, .b false), (1, .b false), (0, oC q2), (0, .b false), (1, .b false), (1, .b false), (1, .b false), (1, .b false), (1, .b false), (1, .b false), (0, .b false), (11, oO q3), (0, oO q4), (7, oO q5)] [_, _, _, _, _, _, _, _, _, _, _, _, _, _, _, _, _, _, _, _, _, _] (by kernel_rfl) ⟨q1, cI c1, cI c1, cI c1, cI c1, cI c1, cI c2, cI c2, cI c2, cI c2, q2, cI c2, cI c2, cI c2, cI c2, cI c3, cI c3, cI c3, cI c4, q3, q4, q5, trivial⟩
theorem Ze {L : BY} (c1 : (decide (Az L = 0)) = true) :
  Runs lp 94 [P00] (aR8 L) (pI 0, (Be L)) :=
 have q1 : Runs lp 72 [P00] (aR8 L) (.p (.int .u64 0), (Be L)) := (Oe L false c1)
 rO [(7, oC q1)] [_] (by kernel_rfl) ⟨q1, trivial⟩
theorem Vl {L : BY} (c1 : (decide (Az L = 0)) = false) (c2 : ((Int.tmod (Ay L : Int) 2) == 0) = true) :
  Runs lp 94 [P00] (aR8 L) (pI (IntKind.wrap .i64 (IntKind.wrap .u64 (Int.tdiv (Ay L : Int) 2))), [.row [[pS (List.drop (Az L) L), pB false]]]) :=
 have q1 : Runs lp 72 [P00] (aR8 L) (.p (.int .u64 (Ay L : Int)), [.row [[pS (List.drop (Az L) L), pB false]]]) := (Fv L false c1)
 rO [(7, oC q1), (4, .b true)] [_, _] (by kernel_rfl) ⟨q1, cI c2, trivial⟩
theorem Vm {L : BY} (c1 : (decide (Az L = 0)) = false) (c2 : ((Int.tmod (Ay L : Int) 2) == 0) = false) :
  Runs lp 94 [P00] (aR8 L) (pI (IntKind.wrap .i64 ((IntKind.wrap .i64 (0 - (IntKind.wrap .i64 (IntKind.wrap .u64 (Int.tdiv (Ay L : Int) 2))))) - 1)), [.row [[pS (List.drop (Az L) L), pB false]]]) :=
 have q1 : Runs lp 72 [P00] (aR8 L) (.p (.int .u64 (Ay L : Int)), [.row [[pS (List.drop (Az L) L), pB false]]]) := (Fv L false c1)
 rO [(7, oC q1), (4, .b false)] [_, _] (by kernel_rfl) ⟨q1, cI c2, trivial⟩
theorem M1 {L : BY} {most : Int} (c1 : (decide (Az L = 0)) = true) :
  Runs lp 43 [P00, pI most] (aR8 L) (pI 0, (Be L)) :=
 have q1 : Runs lp 72 [P00] (aR8 L) (.p (.int .u64 0), (Be L)) := (Oe L false c1)
 rO [(12, oC q1)] [_] (by kernel_rfl) ⟨q1, trivial⟩
theorem La {L : BY} {most : Int} (c1 : (decide (Az L = 0)) = false) (c2 : (decide ((Ay L : Int) > 4611686018427387904)) = true) :
  Runs lp 43 [P00, pI most] (aR8 L) (pI 0, (Be L)) :=
 have q1 : Runs lp 72 [P00] (aR8 L) (.p (.int .u64 (Ay L : Int)), [.row [[pS (List.drop (Az L) L), pB false]]]) := (Fv L false c1)
 rO [(12, oC q1), (12, .b true), (0, .b true), (0, .b true), (0, .b true), (0, .b true)] [_, _, _, _, _, _] (by kernel_rfl) ⟨q1, cI c2, cI c2, cI c2, cI c2, cI c2, trivial⟩
theorem Jn {L : BY} {most : Int} (c1 : (decide (Az L = 0)) = false) (c2 : (decide ((Ay L : Int) > 4611686018427387904)) = false) (c3 : (decide ((IntKind.wrap .i64 (Ay L : Int)) > most)) = true) :
  Runs lp 43 [P00, pI most] (aR8 L) (pI 0, (Be L)) :=
 have q1 : Runs lp 72 [P00] (aR8 L) (.p (.int .u64 (Ay L : Int)), [.row [[pS (List.drop (Az L) L), pB false]]]) := (Fv L false c1)
 rO [(12, oC q1), (12, .b false), (1, .b false), (1, .b false), (1, .b false), (1, .b false), (0, .b true)] [_, _, _, _, _, _, _] (by kernel_rfl) ⟨q1, cI c2, cI c2, cI c2, cI c2, cI c2, cI c3, trivial⟩
theorem Gf {L : BY} {most : Int} (c1 : (decide (Az L = 0)) = false) (c2 : (decide ((Ay L : Int) > 4611686018427387904)) = false) (c3 : (decide ((IntKind.wrap .i64 (Ay L : Int)) > most)) = false) :
  Runs lp 43 [P00, pI most] (aR8 L) (pI (IntKind.wrap .i64 (Ay L : Int)), [.row [[pS (List.drop (Az L) L), pB false]]]) :=
 have q1 : Runs lp 72 [P00] (aR8 L) (.p (.int .u64 (Ay L : Int)), [.row [[pS (List.drop (Az L) L), pB false]]]) := (Fv L false c1)
 rO [(12, oC q1), (12, .b false), (1, .b false), (1, .b false), (1, .b false), (1, .b false), (0, .b false)] [_, _, _, _, _, _, _] (by kernel_rfl) ⟨q1, cI c2, cI c2, cI c2, cI c2, cI c2, cI c3, trivial⟩
theorem Vn {L : BY} {most : Int} (c1 : (decide (Az L = 0)) = true) :
  Runs lp 73 [P00, pI most] (aR8 L) (pT [], (Be L)) :=
 have q1 : Runs lp 43 [P00, pI most] (aR8 L) (pI 0, (Be L)) := (M1 (most := most) c1)
 rO [(8, oC q1)] [_] (by kernel_rfl) ⟨q1, trivial⟩
theorem S2 {L : BY} {most : Int} (c1 : (decide (Az L = 0)) = false) (c2 : (decide ((Ay L : Int) > 4611686018427387904)) = true) :
  Runs lp 73 [P00, pI most] (aR8 L) (pT [], (Be L)) :=
 have q1 : Runs lp 43 [P00, pI most] (aR8 L) (pI 0, (Be L)) := (La (most := most) c1 c2)
 rO [(8, oC q1)] [_] (by kernel_rfl) ⟨q1, trivial⟩
theorem Rk {L : BY} {most : Int} (c1 : (decide (Az L = 0)) = false) (c2 : (decide ((Ay L : Int) > 4611686018427387904)) = false) (c3 : (decide ((IntKind.wrap .i64 (Ay L : Int)) > most)) = true) :
  Runs lp 73 [P00, pI most] (aR8 L) (pT [], (Be L)) :=
 have q1 : Runs lp 43 [P00, pI most] (aR8 L) (pI 0, (Be L)) := (Jn (most := most) c1 c2 c3)
 rO [(8, oC q1)] [_] (by kernel_rfl) ⟨q1, trivial⟩
theorem Pn {L : BY} {most : Int} (c1 : (decide (Az L = 0)) = false) (c2 : (decide ((Ay L : Int) > 4611686018427387904)) = false) (c3 : (decide ((IntKind.wrap .i64 (Ay L : Int)) > most)) = false) (c4 : (decide ((IntKind.wrap .i64 (Ay L : Int)) > ((List.length (bs (List.drop (Az L) L)) : Nat) : Int))) = true) :
  Runs lp 73 [P00, pI most] (aR8 L) (pT [], (Be L)) :=
 have q1 : Runs lp 43 [P00, pI most] (aR8 L) (pI (IntKind.wrap .i64 (Ay L : Int)), [.row [[pS (List.drop (Az L) L), pB false]]]) := (Gf (most := most) c1 c2 c3)
 rO [(8, oC q1), (21, .b true)] [_, _] (by kernel_rfl) ⟨q1, cI c4, trivial⟩
theorem Po {L : BY} {most : Int} (c1 : (decide (Az L = 0)) = false) (c2 : (decide ((Ay L : Int) > 4611686018427387904)) = false) (c3 : (decide ((IntKind.wrap .i64 (Ay L : Int)) > most)) = false) (c4 : (decide ((IntKind.wrap .i64 (Ay L : Int)) > ((List.length (bs (List.drop (Az L) L)) : Nat) : Int))) = false) (h5 : 0 ≤ IntKind.wrap .i64 (Ay L : Int)) (h6 : IntKind.wrap .i64 (Ay L : Int) ≤ (List.length (α := UInt8) (List.drop (Az L) L) : Int)) :
  Runs lp 73 [P00, pI most] (aR8 L) (pT (List.take (Int.toNat (IntKind.wrap .i64 (Ay L : Int))) (List.drop (Az L) L)), [.row [[pS (List.drop (Int.toNat (IntKind.wrap .i64 (Ay L : Int))) (List.drop (Az L) L)), pB false]]]) :=
 have q1 : Runs lp 43 [P00, pI most] (aR8 L) (pI (IntKind.wrap .i64 (Ay L : Int)), [.row [[pS (List.drop (Az L) L), pB false]]]) := (Gf (most := most) c1 c2 c3)
 have q2 : OpE [.row [[pS (List.drop (Az L) L), pB false]]] (.slice 1 (.const (pS (List.drop (Az L) L))) none (some (.const (pI (IntKind.wrap .i64 (Ay L : Int))))) none) (pS (List.take (Int.toNat (IntKind.wrap .i64 (Ay L : Int))) (List.drop (Az L) L))) := (O2 h5 h6)
 have q3 : OpE [.row [[pS (List.drop (Az L) L), pB false]]] (.cv .b2s (.const (pS (List.take (Int.toNat (IntKind.wrap .i64 (Ay L : Int))) (List.drop (Az L) L))))) (pT (List.take (Int.toNat (IntKind.wrap .i64 (Ay L : Int))) (List.drop (Az L) L))) := (Qs rfl)
 have q4 : OpE [.row [[pS (List.drop (Az L) L), pB false]]] (.slice 1 (.const (pS (List.drop (Az L) L))) (some (.const (pI (IntKind.wrap .i64 (Ay L : Int))))) none none) (pS (List.drop (Int.toNat (IntKind.wrap .i64 (Ay L : Int))) (List.drop (Az L) L))) := (Cd h5 h6)
 rO [(8, oC q1), (21, .b false), (5, oO q2), (0, oO q3), (7, oO q4)] [_, _, _, _, _] (by kernel_rfl) ⟨q1, cI c4, q2, q3, q4, trivial⟩
end Go.Proofs.YtegboccilfofmaaGreat
