import Derived.Test.YtmbjojnldbeicaaLsAb
import Derived.Test.YtmbjojnldbeicaaLsRd2
set_option linter.unusedVariables false
set_option maxRecDepth 100000
namespace Go.Proofs.Ytmbjojnldbeicaa
open Go Go.LS
theorem take_b {L : BY} {n : Nat} {r : Bool}  :
  Runs lp 60 [P00, pI (n : Int), pB r] (aR4 L) (pB false, (aR4 L)) :=
 have q1 : Runs lp 23 [P00] (aR4 L) (pB true, (aR4 L)) := (Oz (L := L) (bad := true))
 have q2 : Runs lp 40 [P00] (aR4 L) (.tup [], (aR4 L)) := (E8 (L := L) (bad := true))
 rO [(2, oC q1), (10, oC q2)] [_, _] (by kernel_rfl) ⟨q1, q2, trivial⟩
theorem Sr {L : BY} {n : Nat} {r : Bool} (c1 : ((n : Int) == 0) = true) :
  Runs lp 60 [P00, pI (n : Int), pB r] (aR2 L) (pB false, (aR4 L)) :=
 have q1 : Runs lp 23 [P00] (aR2 L) (pB false, (aR2 L)) := (Oz (L := L) (bad := false))
 have q2 : Runs lp 40 [P00] (aR2 L) (.tup [], (aR4 L)) := (E8 (L := L) (bad := false))
 rO [(2, oC q1), (7, .b true), (0, .b true), (0, .b true), (2, oC q2)] [_, _, _, _, _] (by kernel_rfl) ⟨q1, cI c1, cI c1, cI c1, q2, trivial⟩
theorem Yi {L : BY} {n : Nat} {r : Bool} (c1 : ((n : Int) == 0) = false) (c2 : (r) = true) (h3 : 0 ≤ (n : Int)) (h4 : (n : Int) ≤ (List.length L : Int)) :
  Runs lp 60 [P00, pI (n : Int), pB r] (aR2 L) (pB true, [.row [[pS (List.drop (Int.toNat (n : Int)) L), pB false]]]) :=
 have q1 : Runs lp 23 [P00] (aR2 L) (pB false, (aR2 L)) := (Oz (L := L) (bad := false))
 have q2 : OpE (aR2 L) (.slice 1 (.const (pS L)) (some (.const (pI (n : Int)))) none none) (pS (List.drop (Int.toNat (n : Int)) L)) := (Hc h3 h4)
 rO [(2, oC q1), (7, .b false), (1, .b false), (1, .b false), (0, .b false), (6, oO q2)] [_, _, _, _, _, _] (by kernel_rfl) ⟨q1, cI c1, cI c1, cI c1, (cI (Ah c2)), q2, trivial⟩
theorem Yj {L : BY} {n : Nat} {r : Bool} (c1 : ((n : Int) == 0) = false) (c2 : (r) = false) :
  Runs lp 60 [P00, pI (n : Int), pB r] (aR2 L) (pB false, (aR4 L)) :=
 have q1 : Runs lp 23 [P00] (aR2 L) (pB false, (aR2 L)) := (Oz (L := L) (bad := false))
 have q2 : Runs lp 40 [P00] (aR2 L) (.tup [], (aR4 L)) := (E8 (L := L) (bad := false))
 rO [(2, oC q1), (7, .b false), (1, .b false), (1, .b false), (0, .b true), (1, oC q2)] [_, _, _, _, _, _] (by kernel_rfl) ⟨q1, cI c1, cI c1, cI c1, (cI (Ah c2)), q2, trivial⟩
theorem W5 {L : BY} (n : Nat) (r : Bool) : Runs lp 60 [P00, pI n, pB r] (stL L true) (pB false, stL L true) := take_b
theorem Qo {L : BY} (r : Bool) {n : Nat} (h : (decide (n = 0)) = true) : Runs lp 60 [P00, pI n, pB r] (stL L false) (pB false, stL L true) := Sr (by simpa using h)
theorem W6 {L : BY} {r : Bool} (n : Nat) (h : r = false) : Runs lp 60 [P00, pI n, pB r] (stL L false) (pB false, stL L true) := by
 subst h
 by_cases h : n = 0
 ·exact Sr (by simp [h])
 ·exact Yj (by simp [h]) rfl
theorem W7 {L : BY} {r : Bool} {n : Nat} (h : (decide (n = 0)) = false) (hr : r = true) (hn : n ≤ L.length) : Runs lp 60 [P00, pI n, pB r] (stL L false) (pB true, stL (L.drop n) false) := by
 subst hr
 have := Yi (L := L) (n := n) (r := true) (by simpa using h) rfl (by omega) (by omega)
 simpa using this
theorem vint_b {L : BY}  :
  Runs lp 83 [P00] (aR4 L) (pI 0, (aR4 L)) :=
 have q1 : Runs lp 59 [P00] (aR4 L) (.tup [.p (.int .u64 0), pI 0], (aR4 L)) := (Is L)
 have q2 : Runs lp 60 [P00, pI 0, pB true] (aR4 L) (pB false, (aR4 L)) := (W5 (L := L) 0 true)
 rO [(2, oC q1), (7, oC q2)] [_, _] (by kernel_rfl) ⟨q1, q2, trivial⟩
theorem vcount_b {L : BY} {most : Int}  :
  Runs lp 39 [P00, pI most] (aR4 L) (pI 0, (aR4 L)) :=
 have q1 : Runs lp 59 [P00] (aR4 L) (.tup [.p (.int .u64 0), pI 0], (aR4 L)) := (Is L)
 have q2 : Runs lp 60 [P00, pI 0, pB (decide ((0 : Int) ≤ most))] (aR4 L) (pB false, (aR4 L)) := (W5 (L := L) 0 (decide ((0 : Int) ≤ most)))
 rO [(2, oC q1), (19, oC q2)] [_, _] (by kernel_rfl) ⟨q1, q2, trivial⟩
theorem Yk {L : BY} {most : Int} (c1 : (decide ((0 : Int) > most)) = true) :
  Runs lp 84 [P00, pI most] (aR4 L) (pT [], (aR4 L)) :=
 have q1 : Runs lp 59 [P00] (aR4 L) (.tup [.p (.int .u64 0), pI 0], (aR4 L)) := (Is L)
 have q2 : Runs lp 40 [P00] (aR4 L) (.tup [], (aR4 L)) := (E8 (L := L) (bad := true))
 rO [(2, oC q1), (18, .b true), (0, .b true), (0, .b true), (0, .b true), (0, .b true), (0, .b true), (0, .b true), (0, .b true), (6, oC q2)] [_, _, _, _, _, _, _, _, _, _] (by kernel_rfl) ⟨q1, cI c1, cI c1, cI c1, cI c1, cI c1, cI c1, cI c1, cI c1, q2, trivial⟩
theorem Yl {L : BY} {most : Int} (c1 : (decide ((0 : Int) > most)) = false) :
  Runs lp 84 [P00, pI most] (aR4 L) (pT [], (aR4 L)) :=
 have q1 : Runs lp 59 [P00] (aR4 L) (.tup [.p (.int .u64 0), pI 0], (aR4 L)) := (Is L)
 have q2 : Runs lp 24 [P00] (aR4 L) (pI 0, (aR4 L)) := (Qk (L := L) rfl)
 have q3 : Runs lp 40 [P00] (aR4 L) (.tup [], (aR4 L)) := (E8 (L := L) (bad := true))
 rO [(2, oC q1), (18, .b false), (1, .b false), (1, .b false), (1, .b false), (0, oC q2), (0, .b false), (1, .b false), (1, .b false), (1, .b false), (8, oC q3)] [_, _, _, _, _, _, _, _, _, _, _] (by kernel_rfl) ⟨q1, cI c1, cI c1, cI c1, cI c1, q2, cI c1, cI c1, cI c1, cI c1, q3, trivial⟩
theorem vtext_b {L : BY} {most : Int}  :
  Runs lp 84 [P00, pI most] (aR4 L) (if (decide ((0 : Int) > most)) = true then ((pT [], (aR4 L))) else ((pT [], (aR4 L)))) := by
 by_cases k1 : (decide ((0 : Int) > most)) = true
 ·refine Aw k1 ?_
  exact Yk (L := L) (most := most) k1
 ·refine Ax k1 ?_
  replace k1 := Bool.eq_false_iff.2 k1
  exact Yl (L := L) (most := most) k1
theorem vint_o_y {L : BY} (c1 : (decide (Bw L = 0)) = true) :
  Runs lp 83 [P00] (aR2 L) (pI 0, (aR4 L)) :=
 have q1 : Runs lp 59 [P00] (aR2 L) (.tup [.p (.int .u64 (By L : Int)), pI (Bw L : Int)], (aR2 L)) := (C4 L)
 have q2 : Runs lp 60 [P00, pI (Bw L : Int), pB true] (aR2 L) (pB false, (aR4 L)) := (Qo (L := L) true c1)
 rO [(2, oC q1), (7, oC q2)] [_, _] (by kernel_rfl) ⟨q1, q2, trivial⟩
theorem vint_o_n {L : BY} (c1 : (decide (Bw L = 0)) = false) (h2 : Bw L ≤ List.length L) :
  Runs lp 83 [P00] (aR2 L) (pI (IntKind.wrap .i64 ↑(BitVec.ofInt (IntKind.bits .i64) (IntKind.wrap .i64 (Int.fdiv (By L : Int) (2 ^ 1))) ^^^ BitVec.ofInt (IntKind.bits .i64) (IntKind.wrap .i64 (0 - (IntKind.wrap .i64 (IntKind.wrap .u64 ↑(BitVec.ofInt (IntKind.bits .u64) (By L : Int) &&& BitVec.ofInt (IntKind.bits .u64) 1).toNat))))).toNat), [.row [[pS (List.drop (Bw L) L), pB false]]]) :=
 have q1 : Runs lp 59 [P00] (aR2 L) (.tup [.p (.int .u64 (By L : Int)), pI (Bw L : Int)], (aR2 L)) := (C4 L)
 have q2 : Runs lp 60 [P00, pI (Bw L : Int), pB true] (aR2 L) (pB true, [.row [[pS (List.drop (Bw L) L), pB false]]]) := (W7 (L := L) c1 rfl h2)
 rO [(2, oC q1), (7, oC q2)] [_, _] (by kernel_rfl) ⟨q1, q2, trivial⟩
theorem Ss {L : BY} {most : Int} (c1 : (decide ((By L : Int) ≤ 4611686018427387904)) = true) (c2 : (decide (Bw L = 0)) = true) :
  Runs lp 39 [P00, pI most] (aR2 L) (pI 0, (aR4 L)) :=
 have q1 : Runs lp 59 [P00] (aR2 L) (.tup [.p (.int .u64 (By L : Int)), pI (Bw L : Int)], (aR2 L)) := (C4 L)
 have q2 : Runs lp 60 [P00, pI (Bw L : Int), pB (decide ((IntKind.wrap .i64 (By L : Int)) ≤ most))] (aR2 L) (pB false, (aR4 L)) := (Qo (L := L) (decide ((IntKind.wrap .i64 (By L : Int)) ≤ most)) c2)
 rO [(2, oC q1), (10, .b true), (1, .b true), (1, .b true), (1, .b true), (1, .b true), (0, oC q2)] [_, _, _, _, _, _, _] (by kernel_rfl) ⟨q1, cI c1, cI c1, cI c1, cI c1, cI c1, q2, trivial⟩
theorem Qp {L : BY} {most : Int} (c1 : (decide ((By L : Int) ≤ 4611686018427387904)) = true) (c2 : (decide (Bw L = 0)) = false) (c3 : (decide ((IntKind.wrap .i64 (By L : Int)) ≤ most)) = true) (h4 : Bw L ≤ List.length L) :
  Runs lp 39 [P00, pI most] (aR2 L) (pI (IntKind.wrap .i64 (By L : Int)), [.row [[pS (List.drop (Bw L) L), pB false]]]) :=
 have q1 : Runs lp 59 [P00] (aR2 L) (.tup [.p (.int .u64 (By L : Int)), pI (Bw L : Int)], (aR2 L)) := (C4 L)
 have q2 : Runs lp 60 [P00, pI (Bw L : Int), pB (decide ((IntKind.wrap .i64 (By L : Int)) ≤ most))] (aR2 L) (pB true, [.row [[pS (List.drop (Bw L) L), pB false]]]) := (W7 (L := L) c2 c3 h4)
 rO [(2, oC q1), (10, .b true), (1, .b true), (1, .b true), (1, .b true), (1, .b true), (0, oC q2)] [_, _, _, _, _, _, _] (by kernel_rfl) ⟨q1, cI c1, cI c1, cI c1, cI c1, cI c1, q2, trivial⟩
theorem Qq {L : BY} {most : Int} (c1 : (decide ((By L : Int) ≤ 4611686018427387904)) = true) (c2 : (decide (Bw L = 0)) = false) (c3 : (decide ((IntKind.wrap .i64 (By L : Int)) ≤ most)) = false) :
  Runs lp 39 [P00, pI most] (aR2 L) (pI 0, (aR4 L)) :=
 have q1 : Runs lp 59 [P00] (aR2 L) (.tup [.p (.int .u64 (By L : Int)), pI (Bw L : Int)], (aR2 L)) := (C4 L)
 have q2 : Runs lp 60 [P00, pI (Bw L : Int), pB (decide ((IntKind.wrap .i64 (By L : Int)) ≤ most))] (aR2 L) (pB false, (aR4 L)) := (W6 (L := L) (Bw L) c3)
 rO [(2, oC q1), (10, .b true), (1, .b true), (1, .b true), (1, .b true), (1, .b true), (0, oC q2)] [_, _, _, _, _, _, _] (by kernel_rfl) ⟨q1, cI c1, cI c1, cI c1, cI c1, cI c1, q2, trivial⟩
theorem St {L : BY} {most : Int} (c1 : (decide ((By L : Int) ≤ 4611686018427387904)) = false) (c2 : (decide (Bw L = 0)) = true) :
  Runs lp 39 [P00, pI most] (aR2 L) (pI 0, (aR4 L)) :=
 have q1 : Runs lp 59 [P00] (aR2 L) (.tup [.p (.int .u64 (By L : Int)), pI (Bw L : Int)], (aR2 L)) := (C4 L)
 have q2 : Runs lp 60 [P00, pI (Bw L : Int), pB false] (aR2 L) (pB false, (aR4 L)) := (Qo (L := L) false c2)
 rO [(2, oC q1), (10, .b false), (0, .b false), (0, .b false), (0, .b false), (0, .b false), (0, oC q2)] [_, _, _, _, _, _, _] (by kernel_rfl) ⟨q1, cI c1, cI c1, cI c1, cI c1, cI c1, q2, trivial⟩
theorem Su {L : BY} {most : Int} (c1 : (decide ((By L : Int) ≤ 4611686018427387904)) = false) (c2 : (decide (Bw L = 0)) = false) :
  Runs lp 39 [P00, pI most] (aR2 L) (pI 0, (aR4 L)) :=
 have q1 : Runs lp 59 [P00] (aR2 L) (.tup [.p (.int .u64 (By L : Int)), pI (Bw L : Int)], (aR2 L)) := (C4 L)
 have q2 : Runs lp 60 [P00, pI (Bw L : Int), pB false] (aR2 L) (pB false, (aR4 L)) := (W6 (L := L) (Bw L) rfl)
 rO [(2, oC q1), (10, .b false), (0, .b false), (0, .b false), (0, .b false), (0, .b false), (0, oC q2)] [_, _, _, _, _, _, _] (by kernel_rfl) ⟨q1, cI c1, cI c1, cI c1, cI c1, cI c1, q2, trivial⟩
theorem Pp {L : BY} {most : Int} (c1 : (decide ((By L : Int) > 4611686018427387904)) = true) :
  Runs lp 84 [P00, pI most] (aR2 L) (pT [], (aR4 L)) :=
 have q1 : Runs lp 59 [P00] (aR2 L) (.tup [.p (.int .u64 (By L : Int)), pI (Bw L : Int)], (aR2 L)) := (C4 L)
 have q2 : Runs lp 40 [P00] (aR2 L) (.tup [], (aR4 L)) := (E8 (L := L) (bad := false))
 rO [(2, oC q1), (8, .b true), (0, .b true), (0, .b true), (0, .b true), (0, .b true), (15, oC q2)] [_, _, _, _, _, _, _] (by kernel_rfl) ⟨q1, cI c1, cI c1, cI c1, cI c1, cI c1, q2, trivial⟩
theorem U2 {L : BY} {most : Int} (c1 : (decide ((By L : Int) > 4611686018427387904)) = false) (c2 : (decide ((IntKind.wrap .i64 (By L : Int)) > most)) = true) :
  Runs lp 84 [P00, pI most] (aR2 L) (pT [], (aR4 L)) :=
 have q1 : Runs lp 59 [P00] (aR2 L) (.tup [.p (.int .u64 (By L : Int)), pI (Bw L : Int)], (aR2 L)) := (C4 L)
 have q2 : Runs lp 40 [P00] (aR2 L) (.tup [], (aR4 L)) := (E8 (L := L) (bad := false))
 rO [(2, oC q1), (8, .b false), (1, .b false), (1, .b false), (1, .b false), (1, .b false), (1, .b true), (0, .b true), (0, .b true), (0, .b true), (0, .b true), (0, .b true), (0, .b true), (0, .b true), (6, oC q2)] [_, _, _, _, _, _, _, _, _, _, _, _, _, _, _] (by kernel_rfl) ⟨q1, cI c1, cI c1, cI c1, cI c1, cI c1, cI c2, cI c2, cI c2, cI c2, cI c2, cI c2, cI c2, cI c2, q2, trivial⟩
theorem Sv {L : BY} {most : Int} (c1 : (decide ((By L : Int) > 4611686018427387904)) = false) (c2 : (decide ((IntKind.wrap .i64 (By L : Int)) > most)) = false) (c3 : (decide ((IntKind.wrap .i64 (By L : Int)) > (IntKind.wrap .i64 (((List.length (bs L) : Nat) : Int) - (Bw L : Int))))) = true) :
  Runs lp 84 [P00, pI most] (aR2 L) (pT [], (aR4 L)) :=
 have q1 : Runs lp 59 [P00] (aR2 L) (.tup [.p (.int .u64 (By L : Int)), pI (Bw L : Int)], (aR2 L)) := (C4 L)
 have q2 : Runs lp 24 [P00] (aR2 L) (pI ((List.length (bs L) : Nat) : Int), (aR2 L)) := (He (L := L) rfl)
 have q3 : Runs lp 40 [P00] (aR2 L) (.tup [], (aR4 L)) := (E8 (L := L) (bad := false))
 rO [(2, oC q1), (8, .b false), (1, .b false), (1, .b false), (1, .b false), (1, .b false), (1, .b false), (1, .b false), (1, .b false), (1, .b false), (0, oC q2), (0, .b false), (1, .b false), (1, .b false), (1, .b false), (1, .b true), (0, .b true), (0, .b true), (2, oC q3)] [_, _, _, _, _, _, _, _, _, _, _, _, _, _, _, _, _, _, _] (by kernel_rfl) ⟨q1, cI c1, cI c1, cI c1, cI c1, cI c1, cI c2, cI c2, cI c2, cI c2, q2, cI c2, cI c2, cI c2, cI c2, cI c3, cI c3, cI c3, q3, trivial⟩
theorem Qr {L : BY} {most : Int} (c1 : (decide ((By L : Int) > 4611686018427387904)) = false) (c2 : (decide ((IntKind.wrap .i64 (By L : Int)) > most)) = false) (c3 : (decide ((IntKind.wrap .i64 (By L : Int)) > (IntKind.wrap .i64 (((List.length (bs L) : Nat) : Int) - (Bw L : Int))))) = false) (c4 : ((Bw L : Int) == 0) = true) :
  Runs lp 84 [P00, pI most] (aR2 L) (pT [], (aR4 L)) :=
 have q1 : Runs lp 59 [P00] (aR2 L) (.tup [.p (.int .u64 (By L : Int)), pI (Bw L : Int)], (aR2 L)) := (C4 L)
 have q2 : Runs lp 24 [P00] (aR2 L) (pI ((List.length (bs L) : Nat) : Int), (aR2 L)) := (He (L := L) rfl)
 have q3 : Runs lp 40 [P00] (aR2 L) (.tup [], (aR4 L)) := (E8 (L := L) (bad := false))
 rO [(2, oC q1), (8, .b false), (1, .b false), (1, .b false), (1, .b false), (1, .b false), (1, .b false), (1, .b false), (1, .b false), (1, .b false), (0, oC q2), (0, .b false), (1, .b false), (1, .b false), (1, .b false), (1, .b false), (1, .b false), (1, .b false), (0, .b true), (1, oC q3)] [_, _, _, _, _, _, _, _, _, _, _, _, _, _, _, _, _, _, _, _] (by kernel_rfl) ⟨q1, cI c1, cI c1, cI c1, cI c1, cI c1, cI c2, cI c2, cI c2, cI c2, q2, cI c2, cI c2, cI c2, cI c2, cI c3, cI c3, cI c3, cI c4, q3, trivial⟩
theorem Qs {L : BY} {most : Int} (c1 : (decide ((By L : Int) > 4611686018427387904)) = false) (c2 : (decide ((IntKind.wrap .i64 (By L : Int)) > most)) = false) (c3 : (decide ((IntKind.wrap .i64 (By L : Int)) > (IntKind.wrap .i64 (((List.length (bs L) : Nat) : Int) - (Bw L : Int))))) = false) (c4 : ((Bw L : Int) == 0) = false) (h5 : 0 ≤ (Bw L : Int)) (h6 : (Bw L : Int) ≤ IntKind.wrap .i64 ((Bw L : Int) + (IntKind.wrap .i64 (By L : Int)))) (h7 : IntKind.wrap .i64 ((Bw L : Int) + (IntKind.wrap .i64 (By L : Int))) ≤ (List.length L : Int)) (h8 : 0 ≤ IntKind.wrap .i64 ((Bw L : Int) + (IntKind.wrap .i64 (By L : Int)))) :
  Runs lp 84 [P00, pI most] (aR2 L) (pT (List.drop (Int.toNat (Bw L : Int)) (List.take (Int.toNat (IntKind.wrap .i64 ((Bw L : Int) + (IntKind.wrap .i64 (By L : Int))))) L)), [.row [[pS (List.drop (Int.toNat (IntKind.wrap .i64 ((Bw L : Int) + (IntKind.wrap .i64 (By L : Int))))) L), pB false]]]) :=
 have q1 : Runs lp 59 [P00] (aR2 L) (.tup [.p (.int .u64 (By L : Int)), pI (Bw L : Int)], (aR2 L)) := (C4 L)
 have q2 : Runs lp 24 [P00] (aR2 L) (pI ((List.length (bs L) : Nat) : Int), (aR2 L)) := (He (L := L) rfl)
 have q3 : OpE (aR2 L) (.slice 1 (.const (pS L)) (some (.const (pI (Bw L : Int)))) (some (.const (pI (IntKind.wrap .i64 ((Bw L : Int) + (IntKind.wrap .i64 (By L : Int))))))) none) (pS (List.drop (Int.toNat (Bw L : Int)) (List.take (Int.toNat (IntKind.wrap .i64 ((Bw L : Int) + (IntKind.wrap .i64 (By L : Int))))) L))) := (Qf h5 h6 h7)
 have q4 : OpE (aR2 L) (.cv .b2s (.const (pS (List.drop (Int.toNat (Bw L : Int)) (List.take (Int.toNat (IntKind.wrap .i64 ((Bw L : Int) + (IntKind.wrap .i64 (By L : Int))))) L))))) (pT (List.drop (Int.toNat (Bw L : Int)) (List.take (Int.toNat (IntKind.wrap .i64 ((Bw L : Int) + (IntKind.wrap .i64 (By L : Int))))) L))) := (Z8 rfl)
 have q5 : OpE (aR2 L) (.slice 1 (.const (pS L)) (some (.const (pI (IntKind.wrap .i64 ((Bw L : Int) + (IntKind.wrap .i64 (By L : Int))))))) none none) (pS (List.drop (Int.toNat (IntKind.wrap .i64 ((Bw L : Int) + (IntKind.wrap .i64 (By L : Int))))) L)) := (Hc h8 h7)
 rO [(2, oC q1), (8, .b false), (1, .b false), (1, .b false), (1, .b false), (1, .b false), (1, .b false), (1, .b false), (1, .b false), (1, .b false), (0, oC q2), (0, .b false), (1, .b false), (1, .b false), (1, .b false), (1, .b false), (1, .b false), (1, .b false), (0, .b false), (11, oO q3), (0, oO q4), (7, oO q5)] [_, _, _, _, _, _, _, _, _, _, _, _, _, _, _, _, _, _, _, _, _, _] (by kernel_rfl) ⟨q1, cI c1, cI c1, cI c1, cI c1, cI c1, cI c2, cI c2, cI c2, cI c2, q2, cI c2, cI c2, cI c2, cI c2, cI c3, cI c3, cI c3, cI c4, q3, q4, q5, trivial⟩
end Go.Proofs.Ytmbjojnldbeicaa
