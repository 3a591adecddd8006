import Derived.Test.YtmbjojnldbeicaaLsAb
import Derived.Test.YtmbjojnldbeicaaLsRd2
set_option linter.unusedVariables false
set_option maxRecDepth 100000
namespace Go.Proofs.Ytmbjojnldbeicaa
open Go Go.LS
theorem take_b {L : BY} {n : Nat} {r : Bool}  :
  Runs lp 60 [P00, pI (n : Int), pB r] (aR5 L) (pB false, (aR5 L)) :=
 have q1 : Runs lp 23 [P00] (aR5 L) (pB true, (aR5 L)) := (Sc (L := L) (bad := true))
 have q2 : Runs lp 40 [P00] (aR5 L) (.tup [], (aR5 L)) := (Ee (L := L) (bad := true))
 rO [(2, oC q1), (10, oC q2)] [_, _] (by kernel_rfl) ⟨q1, q2, trivial⟩
theorem Qv {L : BY} {n : Nat} {r : Bool} (c1 : ((n : Int) == 0) = true) :
  Runs lp 60 [P00, pI (n : Int), pB r] (aR2 L) (pB false, (aR5 L)) :=
 have q1 : Runs lp 23 [P00] (aR2 L) (pB false, (aR2 L)) := (Sc (L := L) (bad := false))
 have q2 : Runs lp 40 [P00] (aR2 L) (.tup [], (aR5 L)) := (Ee (L := L) (bad := false))
 rO [(2, oC q1), (7, .b true), (0, .b true), (0, .b true), (2, oC q2)] [_, _, _, _, _] (by kernel_rfl) ⟨q1, cI c1, cI c1, cI c1, q2, trivial⟩
theorem U2 {L : BY} {n : Nat} {r : Bool} (c1 : ((n : Int) == 0) = false) (c2 : (r) = true) (h3 : 0 ≤ (n : Int)) (h4 : (n : Int) ≤ (List.length L : Int)) :
  Runs lp 60 [P00, pI (n : Int), pB r] (aR2 L) (pB true, [.row [[pS (List.drop (Int.toNat (n : Int)) L), pB false]]]) :=
 have q1 : Runs lp 23 [P00] (aR2 L) (pB false, (aR2 L)) := (Sc (L := L) (bad := false))
 have q2 : OpE (aR2 L) (.slice 1 (.const (pS L)) (some (.const (pI (n : Int)))) none none) (pS (List.drop (Int.toNat (n : Int)) L)) := (Cm h3 h4)
 rO [(2, oC q1), (7, .b false), (1, .b false), (1, .b false), (0, .b false), (6, oO q2)] [_, _, _, _, _, _] (by kernel_rfl) ⟨q1, cI c1, cI c1, cI c1, (cI (Ae c2)), q2, trivial⟩
theorem U3 {L : BY} {n : Nat} {r : Bool} (c1 : ((n : Int) == 0) = false) (c2 : (r) = false) :
  Runs lp 60 [P00, pI (n : Int), pB r] (aR2 L) (pB false, (aR5 L)) :=
 have q1 : Runs lp 23 [P00] (aR2 L) (pB false, (aR2 L)) := (Sc (L := L) (bad := false))
 have q2 : Runs lp 40 [P00] (aR2 L) (.tup [], (aR5 L)) := (Ee (L := L) (bad := false))
 rO [(2, oC q1), (7, .b false), (1, .b false), (1, .b false), (0, .b true), (1, oC q2)] [_, _, _, _, _, _] (by kernel_rfl) ⟨q1, cI c1, cI c1, cI c1, (cI (Ae c2)), q2, trivial⟩
theorem Tw {L : BY} (n : Nat) (r : Bool) : Runs lp 60 [P00, pI n, pB r] (stL L true) (pB false, stL L true) := take_b
theorem O0 {L : BY} (r : Bool) {n : Nat} (h : (decide (n = 0)) = true) : Runs lp 60 [P00, pI n, pB r] (stL L false) (pB false, stL L true) := Qv (by simpa using h)
theorem Tx {L : BY} {r : Bool} (n : Nat) (h : r = false) : Runs lp 60 [P00, pI n, pB r] (stL L false) (pB false, stL L true) := by
 subst h
 by_cases h : n = 0
 ·exact Qv (by simp [h])
 ·exact U3 (by simp [h]) rfl
theorem Ty {L : BY} {r : Bool} {n : Nat} (h : (decide (n = 0)) = false) (hr : r = true) (hn : n ≤ L.length) : Runs lp 60 [P00, pI n, pB r] (stL L false) (pB true, stL (L.drop n) false) := by
 subst hr
 have := U2 (L := L) (n := n) (r := true) (by simpa using h) rfl (by omega) (by omega)
 simpa using this
theorem vint_b {L : BY}  :
  Runs lp 83 [P00] (aR5 L) (pI 0, (aR5 L)) :=
 have q1 : Runs lp 59 [P00] (aR5 L) (.tup [.p (.int .u64 0), pI 0], (aR5 L)) := (Hl L)
 have q2 : Runs lp 60 [P00, pI 0, pB true] (aR5 L) (pB false, (aR5 L)) := (Tw (L := L) 0 true)
 rO [(2, oC q1), (7, oC q2)] [_, _] (by kernel_rfl) ⟨q1, q2, trivial⟩
theorem Xw {L : BY} {most : Int}  :
  Runs lp 39 [P00, pI most] (aR5 L) (pI 0, (aR5 L)) :=
 have q1 : Runs lp 59 [P00] (aR5 L) (.tup [.p (.int .u64 0), pI 0], (aR5 L)) := (Hl L)
 have q2 : Runs lp 60 [P00, pI 0, pB (decide ((0 : Int) ≤ most))] (aR5 L) (pB false, (aR5 L)) := (Tw (L := L) 0 (decide ((0 : Int) ≤ most)))
 rO [(2, oC q1), (19, oC q2)] [_, _] (by kernel_rfl) ⟨q1, q2, trivial⟩
theorem U4 {L : BY} {most : Int} (c1 : (decide ((0 : Int) > most)) = true) :
  Runs lp 84 [P00, pI most] (aR5 L) (pT [], (aR5 L)) :=
 have q1 : Runs lp 59 [P00] (aR5 L) (.tup [.p (.int .u64 0), pI 0], (aR5 L)) := (Hl L)
 have q2 : Runs lp 40 [P00] (aR5 L) (.tup [], (aR5 L)) := (Ee (L := L) (bad := true))
 rO [(2, oC q1), (18, .b true), (0, .b true), (0, .b true), (0, .b true), (0, .b true), (0, .b true), (0, .b true), (0, .b true), (6, oC q2)] [_, _, _, _, _, _, _, _, _, _] (by kernel_rfl) ⟨q1, cI c1, cI c1, cI c1, cI c1, cI c1, cI c1, cI c1, cI c1, q2, trivial⟩
theorem U5 {L : BY} {most : Int} (c1 : (decide ((0 : Int) > most)) = false) :
  Runs lp 84 [P00, pI most] (aR5 L) (pT [], (aR5 L)) :=
 have q1 : Runs lp 59 [P00] (aR5 L) (.tup [.p (.int .u64 0), pI 0], (aR5 L)) := (Hl L)
 have q2 : Runs lp 24 [P00] (aR5 L) (pI 0, (aR5 L)) := (Ll (L := L) rfl)
 have q3 : Runs lp 40 [P00] (aR5 L) (.tup [], (aR5 L)) := (Ee (L := L) (bad := true))
 rO [(2, oC q1), (18, .b false), (1, .b false), (1, .b false), (1, .b false), (0, oC q2), (0, .b false), (1, .b false), (1, .b false), (1, .b false), (8, oC q3)] [_, _, _, _, _, _, _, _, _, _, _] (by kernel_rfl) ⟨q1, cI c1, cI c1, cI c1, cI c1, q2, cI c1, cI c1, cI c1, cI c1, q3, trivial⟩
theorem Z3 {L : BY} {most : Int}  :
  Runs lp 84 [P00, pI most] (aR5 L) (if (decide ((0 : Int) > most)) = true then ((pT [], (aR5 L))) else ((pT [], (aR5 L)))) := by
 by_cases k1 : (decide ((0 : Int) > most)) = true
 ·refine Am k1 ?_
  exact U4 (L := L) (most := most) k1
 ·refine An k1 ?_
  replace k1 := Bool.eq_false_iff.2 k1
  exact U5 (L := L) (most := most) k1
theorem rint_b {L : BY}  :
  Runs lp 79 [P00] (aR5 L) (pI 0, (aR5 L)) :=
 rO [] [] (by kernel_rfl) trivial
theorem Qw {L : BY} {most : Int}  :
  Runs lp 46 [P00, pI most] (aR5 L) (pI 0, (aR5 L)) :=
 rO [] [] (by kernel_rfl) trivial
theorem Z4 {L : BY} {most : Int}  :
  Runs lp 80 [P00, pI most] (aR5 L) (pT [], (aR5 L)) :=
 have q1 : Runs lp 46 [P00, pI most] (aR5 L) (pI 0, (aR5 L)) := (Qw (most := most) )
 rO [(8, oC q1)] [_] (by kernel_rfl) ⟨q1, trivial⟩
theorem Xx {L : BY} (c1 : (decide (Bc L = 0)) = true) :
  Runs lp 83 [P00] (aR2 L) (pI 0, (aR5 L)) :=
 have q1 : Runs lp 59 [P00] (aR2 L) (.tup [.p (.int .u64 (Ba L : Int)), pI (Bc L : Int)], (aR2 L)) := (Ck L)
 have q2 : Runs lp 60 [P00, pI (Bc L : Int), pB true] (aR2 L) (pB false, (aR5 L)) := (O0 (L := L) true c1)
 rO [(2, oC q1), (7, oC q2)] [_, _] (by kernel_rfl) ⟨q1, q2, trivial⟩
theorem Xy {L : BY} (c1 : (decide (Bc L = 0)) = false) (h2 : Bc L ≤ List.length L) :
  Runs lp 83 [P00] (aR2 L) (pI (IntKind.wrap .i64 ↑(BitVec.ofInt (IntKind.bits .i64) (IntKind.wrap .i64 (Int.fdiv (Ba L : Int) (2 ^ 1))) ^^^ BitVec.ofInt (IntKind.bits .i64) (IntKind.wrap .i64 (0 - (IntKind.wrap .i64 (IntKind.wrap .u64 ↑(BitVec.ofInt (IntKind.bits .u64) (Ba L : Int) &&& BitVec.ofInt (IntKind.bits .u64) 1).toNat))))).toNat), [.row [[pS (List.drop (Bc L) L), pB false]]]) :=
 have q1 : Runs lp 59 [P00] (aR2 L) (.tup [.p (.int .u64 (Ba L : Int)), pI (Bc L : Int)], (aR2 L)) := (Ck L)
 have q2 : Runs lp 60 [P00, pI (Bc L : Int), pB true] (aR2 L) (pB true, [.row [[pS (List.drop (Bc L) L), pB false]]]) := (Ty (L := L) c1 rfl h2)
 rO [(2, oC q1), (7, oC q2)] [_, _] (by kernel_rfl) ⟨q1, q2, trivial⟩
theorem Qx {L : BY} {most : Int} (c1 : (decide ((Ba L : Int) ≤ 4611686018427387904)) = true) (c2 : (decide (Bc L = 0)) = true) :
  Runs lp 39 [P00, pI most] (aR2 L) (pI 0, (aR5 L)) :=
 have q1 : Runs lp 59 [P00] (aR2 L) (.tup [.p (.int .u64 (Ba L : Int)), pI (Bc L : Int)], (aR2 L)) := (Ck L)
 have q2 : Runs lp 60 [P00, pI (Bc L : Int), pB (decide ((IntKind.wrap .i64 (Ba L : Int)) ≤ most))] (aR2 L) (pB false, (aR5 L)) := (O0 (L := L) (decide ((IntKind.wrap .i64 (Ba L : Int)) ≤ most)) c2)
 rO [(2, oC q1), (10, .b true), (1, .b true), (1, .b true), (1, .b true), (1, .b true), (0, oC q2)] [_, _, _, _, _, _, _] (by kernel_rfl) ⟨q1, cI c1, cI c1, cI c1, cI c1, cI c1, q2, trivial⟩
theorem O1 {L : BY} {most : Int} (c1 : (decide ((Ba L : Int) ≤ 4611686018427387904)) = true) (c2 : (decide (Bc L = 0)) = false) (c3 : (decide ((IntKind.wrap .i64 (Ba L : Int)) ≤ most)) = true) (h4 : Bc L ≤ List.length L) :
  Runs lp 39 [P00, pI most] (aR2 L) (pI (IntKind.wrap .i64 (Ba L : Int)), [.row [[pS (List.drop (Bc L) L), pB false]]]) :=
 have q1 : Runs lp 59 [P00] (aR2 L) (.tup [.p (.int .u64 (Ba L : Int)), pI (Bc L : Int)], (aR2 L)) := (Ck L)
 have q2 : Runs lp 60 [P00, pI (Bc L : Int), pB (decide ((IntKind.wrap .i64 (Ba L : Int)) ≤ most))] (aR2 L) (pB true, [.row [[pS (List.drop (Bc L) L), pB false]]]) := (Ty (L := L) c2 c3 h4)
 rO [(2, oC q1), (10, .b true), (1, .b true), (1, .b true), (1, .b true), (1, .b true), (0, oC q2)] [_, _, _, _, _, _, _] (by kernel_rfl) ⟨q1, cI c1, cI c1, cI c1, cI c1, cI c1, q2, trivial⟩
theorem O2 {L : BY} {most : Int} (c1 : (decide ((Ba L : Int) ≤ 4611686018427387904)) = true) (c2 : (decide (Bc L = 0)) = false) (c3 : (decide ((IntKind.wrap .i64 (Ba L : Int)) ≤ most)) = false) :
  Runs lp 39 [P00, pI most] (aR2 L) (pI 0, (aR5 L)) :=
 have q1 : Runs lp 59 [P00] (aR2 L) (.tup [.p (.int .u64 (Ba L : Int)), pI (Bc L : Int)], (aR2 L)) := (Ck L)
 have q2 : Runs lp 60 [P00, pI (Bc L : Int), pB (decide ((IntKind.wrap .i64 (Ba L : Int)) ≤ most))] (aR2 L) (pB false, (aR5 L)) := (Tx (L := L) (Bc L) c3)
 rO [(2, oC q1), (10, .b true), (1, .b true), (1, .b true), (1, .b true), (1, .b true), (0, oC q2)] [_, _, _, _, _, _, _] (by kernel_rfl) ⟨q1, cI c1, cI c1, cI c1, cI c1, cI c1, q2, trivial⟩
theorem Qy {L : BY} {most : Int} (c1 : (decide ((Ba L : Int) ≤ 4611686018427387904)) = false) (c2 : (decide (Bc L = 0)) = true) :
  Runs lp 39 [P00, pI most] (aR2 L) (pI 0, (aR5 L)) :=
 have q1 : Runs lp 59 [P00] (aR2 L) (.tup [.p (.int .u64 (Ba L : Int)), pI (Bc L : Int)], (aR2 L)) := (Ck L)
 have q2 : Runs lp 60 [P00, pI (Bc L : Int), pB false] (aR2 L) (pB false, (aR5 L)) := (O0 (L := L) false c2)
 rO [(2, oC q1), (10, .b false), (0, .b false), (0, .b false), (0, .b false), (0, .b false), (0, oC q2)] [_, _, _, _, _, _, _] (by kernel_rfl) ⟨q1, cI c1, cI c1, cI c1, cI c1, cI c1, q2, trivial⟩
theorem Qz {L : BY} {most : Int} (c1 : (decide ((Ba L : Int) ≤ 4611686018427387904)) = false) (c2 : (decide (Bc L = 0)) = false) :
  Runs lp 39 [P00, pI most] (aR2 L) (pI 0, (aR5 L)) :=
 have q1 : Runs lp 59 [P00] (aR2 L) (.tup [.p (.int .u64 (Ba L : Int)), pI (Bc L : Int)], (aR2 L)) := (Ck L)
 have q2 : Runs lp 60 [P00, pI (Bc L : Int), pB false] (aR2 L) (pB false, (aR5 L)) := (Tx (L := L) (Bc L) rfl)
 rO [(2, oC q1), (10, .b false), (0, .b false), (0, .b false), (0, .b false), (0, .b false), (0, oC q2)] [_, _, _, _, _, _, _] (by kernel_rfl) ⟨q1, cI c1, cI c1, cI c1, cI c1, cI c1, q2, trivial⟩
theorem Nz {L : BY} {most : Int} (c1 : (decide ((Ba L : Int) > 4611686018427387904)) = true) :
  Runs lp 84 [P00, pI most] (aR2 L) (pT [], (aR5 L)) :=
 have q1 : Runs lp 59 [P00] (aR2 L) (.tup [.p (.int .u64 (Ba L : Int)), pI (Bc L : Int)], (aR2 L)) := (Ck L)
 have q2 : Runs lp 40 [P00] (aR2 L) (.tup [], (aR5 L)) := (Ee (L := L) (bad := false))
 rO [(2, oC q1), (8, .b true), (0, .b true), (0, .b true), (0, .b true), (0, .b true), (15, oC q2)] [_, _, _, _, _, _, _] (by kernel_rfl) ⟨q1, cI c1, cI c1, cI c1, cI c1, cI c1, q2, trivial⟩
theorem Si {L : BY} {most : Int} (c1 : (decide ((Ba L : Int) > 4611686018427387904)) = false) (c2 : (decide ((IntKind.wrap .i64 (Ba L : Int)) > most)) = true) :
  Runs lp 84 [P00, pI most] (aR2 L) (pT [], (aR5 L)) :=
 have q1 : Runs lp 59 [P00] (aR2 L) (.tup [.p (.int .u64 (Ba L : Int)), pI (Bc L : Int)], (aR2 L)) := (Ck L)
 have q2 : Runs lp 40 [P00] (aR2 L) (.tup [], (aR5 L)) := (Ee (L := L) (bad := false))
 rO [(2, oC q1), (8, .b false), (1, .b false), (1, .b false), (1, .b false), (1, .b false), (1, .b true), (0, .b true), (0, .b true), (0, .b true), (0, .b true), (0, .b true), (0, .b true), (0, .b true), (6, oC q2)] [_, _, _, _, _, _, _, _, _, _, _, _, _, _, _] (by kernel_rfl) ⟨q1, cI c1, cI c1, cI c1, cI c1, cI c1, cI c2, cI c2, cI c2, cI c2, cI c2, cI c2, cI c2, cI c2, q2, trivial⟩
theorem Q0 {L : BY} {most : Int} (c1 : (decide ((Ba L : Int) > 4611686018427387904)) = false) (c2 : (decide ((IntKind.wrap .i64 (Ba L : Int)) > most)) = false) (c3 : (decide ((IntKind.wrap .i64 (Ba L : Int)) > (IntKind.wrap .i64 (((List.length (bs L) : Nat) : Int) - (Bc L : Int))))) = true) :
  Runs lp 84 [P00, pI most] (aR2 L) (pT [], (aR5 L)) :=
 have q1 : Runs lp 59 [P00] (aR2 L) (.tup [.p (.int .u64 (Ba L : Int)), pI (Bc L : Int)], (aR2 L)) := (Ck L)
 have q2 : Runs lp 24 [P00] (aR2 L) (pI ((List.length (bs L) : Nat) : Int), (aR2 L)) := (Fc (L := L) rfl)
 have q3 : Runs lp 40 [P00] (aR2 L) (.tup [], (aR5 L)) := (Ee (L := L) (bad := false))
 rO [(2, oC q1), (8, .b false), (1, .b false), (1, .b false), (1, .b false), (1, .b false), (1, .b false), (1, .b false), (1, .b false), (1, .b false), (0, oC q2), (0, .b false), (1, .b false), (1, .b false), (1, .b false), (1, .b true), (0, .b true), (0, .b true), (2, oC q3)] [_, _, _, _, _, _, _, _, _, _, _, _, _, _, _, _, _, _, _] (by kernel_rfl) ⟨q1, cI c1, cI c1, cI c1, cI c1, cI c1, cI c2, cI c2, cI c2, cI c2, q2, cI c2, cI c2, cI c2, cI c2, cI c3, cI c3, cI c3, q3, trivial⟩
theorem O3 {L : BY} {most : Int} (c1 : (decide ((Ba L : Int) > 4611686018427387904)) = false) (c2 : (decide ((IntKind.wrap .i64 (Ba L : Int)) > most)) = false) (c3 : (decide ((IntKind.wrap .i64 (Ba L : Int)) > (IntKind.wrap .i64 (((List.length (bs L) : Nat) : Int) - (Bc L : Int))))) = false) (c4 : ((Bc L : Int) == 0) = true) :
  Runs lp 84 [P00, pI most] (aR2 L) (pT [], (aR5 L)) :=
 have q1 : Runs lp 59 [P00] (aR2 L) (.tup [.p (.int .u64 (Ba L : Int)), pI (Bc L : Int)], (aR2 L)) := (Ck L)
 have q2 : Runs lp 24 [P00] (aR2 L) (pI ((List.length (bs L) : Nat) : Int), (aR2 L)) := (Fc (L := L) rfl)
 have q3 : Runs lp 40 [P00] (aR2 L) (.tup [], (aR5 L)) := (Ee (L := L) (bad := false))
 rO [(2, oC q1), (8, .b false), (1, .b false), (1, .b false), (1, .b false), (1, .b false), (1, .b false), (1, .b false), (1, .b false), (1, .b false), (0, oC q2), (0, .b false), (1, .b false), (1, .b false), (1, .b false), (1, .b false), (1, .b false), (1, .b false), (0, .b true), (1, oC q3)] [_, _, _, _, _, _, _, _, _, _, _, _, _, _, _, _, _, _, _, _] (by kernel_rfl) ⟨q1, cI c1, cI c1, cI c1, cI c1, cI c1, cI c2, cI c2, cI c2, cI c2, q2, cI c2, cI c2, cI c2, cI c2, cI c3, cI c3, cI c3, cI c4, q3, trivial⟩
theorem O4 {L : BY} {most : Int} (c1 : (decide ((Ba L : Int) > 4611686018427387904)) = false) (c2 : (decide ((IntKind.wrap .i64 (Ba L : Int)) > most)) = false) (c3 : (decide ((IntKind.wrap .i64 (Ba L : Int)) > (IntKind.wrap .i64 (((List.length (bs L) : Nat) : Int) - (Bc L : Int))))) = false) (c4 : ((Bc L : Int) == 0) = false) (h5 : 0 ≤ (Bc L : Int)) (h6 : (Bc L : Int) ≤ IntKind.wrap .i64 ((Bc L : Int) + (IntKind.wrap .i64 (Ba L : Int)))) (h7 : IntKind.wrap .i64 ((Bc L : Int) + (IntKind.wrap .i64 (Ba L : Int))) ≤ (List.length L : Int)) (h8 : 0 ≤ IntKind.wrap .i64 ((Bc L : Int) + (IntKind.wrap .i64 (Ba L : Int)))) :
  Runs lp 84 [P00, pI most] (aR2 L) (pT (List.drop (Int.toNat (Bc L : Int)) (List.take (Int.toNat (IntKind.wrap .i64 ((Bc L : Int) + (IntKind.wrap .i64 (Ba L : Int))))) L)), [.row [[pS (List.drop (Int.toNat (IntKind.wrap .i64 ((Bc L : Int) + (IntKind.wrap .i64 (Ba L : Int))))) L), pB false]]]) :=
 have q1 : Runs lp 59 [P00] (aR2 L) (.tup [.p (.int .u64 (Ba L : Int)), pI (Bc L : Int)], (aR2 L)) := (Ck L)
 have q2 : Runs lp 24 [P00] (aR2 L) (pI ((List.length (bs L) : Nat) : Int), (aR2 L)) := (Fc (L := L) rfl)
 have q3 : OpE (aR2 L) (.slice 1 (.const (pS L)) (some (.const (pI (Bc L : Int)))) (some (.const (pI (IntKind.wrap .i64 ((Bc L : Int) + (IntKind.wrap .i64 (Ba L : Int))))))) none) (pS (List.drop (Int.toNat (Bc L : Int)) (List.take (Int.toNat (IntKind.wrap .i64 ((Bc L : Int) + (IntKind.wrap .i64 (Ba L : Int))))) L))) := (Oq h5 h6 h7)
 have q4 : OpE (aR2 L) (.cv .b2s (.const (pS (List.drop (Int.toNat (Bc L : Int)) (List.take (Int.toNat (IntKind.wrap .i64 ((Bc L : Int) + (IntKind.wrap .i64 (Ba L : Int))))) L))))) (pT (List.drop (Int.toNat (Bc L : Int)) (List.take (Int.toNat (IntKind.wrap .i64 ((Bc L : Int) + (IntKind.wrap .i64 (Ba L : Int))))) L))) := (P8 rfl)
 have q5 : OpE (aR2 L) (.slice 1 (.const (pS L)) (some (.const (pI (IntKind.wrap .i64 ((Bc L : Int) + (IntKind.wrap .i64 (Ba L : Int))))))) none none) (pS (List.drop (Int.toNat (IntKind.wrap .i64 ((Bc L : Int) + (IntKind.wrap .i64 (Ba L : Int))))) L)) := (Cm h8 h7)
 rO [(2, oC q1), (8, .b false), (1, .b false), (1, .b false), (1, .b false), (1, .b false), (1, .b false), (1, .b false), (1, .b false), (1, .b false), (0, oC q2), (0, .b false), (1, .b false), (1, .b false), (1, .b false), (1, .b false), (1, .b false), (1, .b false), (0, .b false), (11, oO q3), (0, oO q4), (7, oO q5)] [_, _, _, _, _, _, _, _, _, _, _, _, _, _, _, _, _, _, _, _, _, _] (by kernel_rfl) ⟨q1, cI c1, cI c1, cI c1, cI c1, cI c1, cI c2, cI c2, cI c2, cI c2, q2, cI c2, cI c2, cI c2, cI c2, cI c3, cI c3, cI c3, cI c4, q3, q4, q5, trivial⟩
theorem Xz {L : BY} (c1 : (decide (Bc L = 0)) = true) :
  Runs lp 79 [P00] (aR2 L) (pI 0, (aR5 L)) :=
 have q1 : Runs lp 66 [P00] (aR2 L) (.p (.int .u64 0), (aR5 L)) := (Ny L false c1)
 rO [(7, oC q1)] [_] (by kernel_rfl) ⟨q1, trivial⟩
theorem U6 {L : BY} (c1 : (decide (Bc L = 0)) = false) (c2 : ((Int.tmod (Ba L : Int) 2) == 0) = true) :
  Runs lp 79 [P00] (aR2 L) (pI (IntKind.wrap .i64 (IntKind.wrap .u64 (Int.tdiv (Ba L : Int) 2))), [.row [[pS (List.drop (Bc L) L), pB false]]]) :=
 have q1 : Runs lp 66 [P00] (aR2 L) (.p (.int .u64 (Ba L : Int)), [.row [[pS (List.drop (Bc L) L), pB false]]]) := (Ft L false c1)
 rO [(7, oC q1), (4, .b true)] [_, _] (by kernel_rfl) ⟨q1, cI c2, trivial⟩
theorem U7 {L : BY} (c1 : (decide (Bc L = 0)) = false) (c2 : ((Int.tmod (Ba L : Int) 2) == 0) = false) :
  Runs lp 79 [P00] (aR2 L) (pI (IntKind.wrap .i64 ((IntKind.wrap .i64 (0 - (IntKind.wrap .i64 (IntKind.wrap .u64 (Int.tdiv (Ba L : Int) 2))))) - 1)), [.row [[pS (List.drop (Bc L) L), pB false]]]) :=
 have q1 : Runs lp 66 [P00] (aR2 L) (.p (.int .u64 (Ba L : Int)), [.row [[pS (List.drop (Bc L) L), pB false]]]) := (Ft L false c1)
 rO [(7, oC q1), (4, .b false)] [_, _] (by kernel_rfl) ⟨q1, cI c2, trivial⟩
theorem Mr {L : BY} {most : Int} (c1 : (decide (Bc L = 0)) = true) :
  Runs lp 46 [P00, pI most] (aR2 L) (pI 0, (aR5 L)) :=
 have q1 : Runs lp 66 [P00] (aR2 L) (.p (.int .u64 0), (aR5 L)) := (Ny L false c1)
 rO [(12, oC q1)] [_] (by kernel_rfl) ⟨q1, trivial⟩
theorem K0 {L : BY} {most : Int} (c1 : (decide (Bc L = 0)) = false) (c2 : (decide ((Ba L : Int) > 4611686018427387904)) = true) :
  Runs lp 46 [P00, pI most] (aR2 L) (pI 0, (aR5 L)) :=
 have q1 : Runs lp 66 [P00] (aR2 L) (.p (.int .u64 (Ba L : Int)), [.row [[pS (List.drop (Bc L) L), pB false]]]) := (Ft L false c1)
 rO [(12, oC q1), (12, .b true), (0, .b true), (0, .b true), (0, .b true), (0, .b true)] [_, _, _, _, _, _] (by kernel_rfl) ⟨q1, cI c2, cI c2, cI c2, cI c2, cI c2, trivial⟩
theorem Jd {L : BY} {most : Int} (c1 : (decide (Bc L = 0)) = false) (c2 : (decide ((Ba L : Int) > 4611686018427387904)) = false) (c3 : (decide ((IntKind.wrap .i64 (Ba L : Int)) > most)) = true) :
  Runs lp 46 [P00, pI most] (aR2 L) (pI 0, (aR5 L)) :=
 have q1 : Runs lp 66 [P00] (aR2 L) (.p (.int .u64 (Ba L : Int)), [.row [[pS (List.drop (Bc L) L), pB false]]]) := (Ft L false c1)
 rO [(12, oC q1), (12, .b false), (1, .b false), (1, .b false), (1, .b false), (1, .b false), (0, .b true)] [_, _, _, _, _, _, _] (by kernel_rfl) ⟨q1, cI c2, cI c2, cI c2, cI c2, cI c2, cI c3, trivial⟩
theorem F5 {L : BY} {most : Int} (c1 : (decide (Bc L = 0)) = false) (c2 : (decide ((Ba L : Int) > 4611686018427387904)) = false) (c3 : (decide ((IntKind.wrap .i64 (Ba L : Int)) > most)) = false) :
  Runs lp 46 [P00, pI most] (aR2 L) (pI (IntKind.wrap .i64 (Ba L : Int)), [.row [[pS (List.drop (Bc L) L), pB false]]]) :=
 have q1 : Runs lp 66 [P00] (aR2 L) (.p (.int .u64 (Ba L : Int)), [.row [[pS (List.drop (Bc L) L), pB false]]]) := (Ft L false c1)
 rO [(12, oC q1), (12, .b false), (1, .b false), (1, .b false), (1, .b false), (1, .b false), (0, .b false)] [_, _, _, _, _, _, _] (by kernel_rfl) ⟨q1, cI c2, cI c2, cI c2, cI c2, cI c2, cI c3, trivial⟩
theorem U8 {L : BY} {most : Int} (c1 : (decide (Bc L = 0)) = true) :
  Runs lp 80 [P00, pI most] (aR2 L) (pT [], (aR5 L)) :=
 have q1 : Runs lp 46 [P00, pI most] (aR2 L) (pI 0, (aR5 L)) := (Mr (most := most) c1)
 rO [(8, oC q1)] [_] (by kernel_rfl) ⟨q1, trivial⟩
theorem Sj {L : BY} {most : Int} (c1 : (decide (Bc L = 0)) = false) (c2 : (decide ((Ba L : Int) > 4611686018427387904)) = true) :
  Runs lp 80 [P00, pI most] (aR2 L) (pT [], (aR5 L)) :=
 have q1 : Runs lp 46 [P00, pI most] (aR2 L) (pI 0, (aR5 L)) := (K0 (most := most) c1 c2)
 rO [(8, oC q1)] [_] (by kernel_rfl) ⟨q1, trivial⟩
theorem Q2 {L : BY} {most : Int} (c1 : (decide (Bc L = 0)) = false) (c2 : (decide ((Ba L : Int) > 4611686018427387904)) = false) (c3 : (decide ((IntKind.wrap .i64 (Ba L : Int)) > most)) = true) :
  Runs lp 80 [P00, pI most] (aR2 L) (pT [], (aR5 L)) :=
 have q1 : Runs lp 46 [P00, pI most] (aR2 L) (pI 0, (aR5 L)) := (Jd (most := most) c1 c2 c3)
 rO [(8, oC q1)] [_] (by kernel_rfl) ⟨q1, trivial⟩
theorem O5 {L : BY} {most : Int} (c1 : (decide (Bc L = 0)) = false) (c2 : (decide ((Ba L : Int) > 4611686018427387904)) = false) (c3 : (decide ((IntKind.wrap .i64 (Ba L : Int)) > most)) = false) (c4 : (decide ((IntKind.wrap .i64 (Ba L : Int)) > ((List.length (bs (List.drop (Bc L) L)) : Nat) : Int))) = true) :
  Runs lp 80 [P00, pI most] (aR2 L) (pT [], (aR5 L)) :=
 have q1 : Runs lp 46 [P00, pI most] (aR2 L) (pI (IntKind.wrap .i64 (Ba L : Int)), [.row [[pS (List.drop (Bc L) L), pB false]]]) := (F5 (most := most) c1 c2 c3)
 rO [(8, oC q1), (21, .b true)] [_, _] (by kernel_rfl) ⟨q1, cI c4, trivial⟩
theorem O6 {L : BY} {most : Int} (c1 : (decide (Bc L = 0)) = false) (c2 : (decide ((Ba L : Int) > 4611686018427387904)) = false) (c3 : (decide ((IntKind.wrap .i64 (Ba L : Int)) > most)) = false) (c4 : (decide ((IntKind.wrap .i64 (Ba L : Int)) > ((List.length (bs (List.drop (Bc L) L)) : Nat) : Int))) = false) (h5 : 0 ≤ IntKind.wrap .i64 (Ba L : Int)) (h6 : IntKind.wrap .i64 (Ba L : Int) ≤ (List.length (α := UInt8) (List.drop (Bc L) L) : Int)) :
  Runs lp 80 [P00, pI most] (aR2 L) (pT (List.take (Int.toNat (IntKind.wrap .i64 (Ba L : Int))) (List.drop (Bc L) L)), [.row [[pS (List.drop (Int.toNat (IntKind.wrap .i64 (Ba L : Int))) (List.drop (Bc L) L)), pB false]]]) :=
 have q1 : Runs lp 46 [P00, pI most] (aR2 L) (pI (IntKind.wrap .i64 (Ba L : Int)), [.row [[pS (List.drop (Bc L) L), pB false]]]) := (F5 (most := most) c1 c2 c3)
 have q2 : OpE [.row [[pS (List.drop (Bc L) L), pB false]]] (.slice 1 (.const (pS (List.drop (Bc L) L))) none (some (.const (pI (IntKind.wrap .i64 (Ba L : Int))))) none) (pS (List.take (Int.toNat (IntKind.wrap .i64 (Ba L : Int))) (List.drop (Bc L) L))) := (Oo h5 h6)
 have q3 : OpE [.row [[pS (List.drop (Bc L) L), pB false]]] (.cv .b2s (.const (pS (List.take (Int.toNat (IntKind.wrap .i64 (Ba L : Int))) (List.drop (Bc L) L))))) (pT (List.take (Int.toNat (IntKind.wrap .i64 (Ba L : Int))) (List.drop (Bc L) L))) := (P8 rfl)
 have q4 : OpE [.row [[pS (List.drop (Bc L) L), pB false]]] (.slice 1 (.const (pS (List.drop (Bc L) L))) (some (.const (pI (IntKind.wrap .i64 (Ba L : Int))))) none none) (pS (List.drop (Int.toNat (IntKind.wrap .i64 (Ba L : Int))) (List.drop (Bc L) L))) := (Cm h5 h6)
 rO [(8, oC q1), (21, .b false), (5, oO q2), (0, oO q3), (7, oO q4)] [_, _, _, _, _] (by kernel_rfl) ⟨q1, cI c4, q2, q3, q4, trivial⟩
end Go.Proofs.Ytmbjojnldbeicaa
