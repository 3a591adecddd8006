import Derived.Test.YtmbjojnldbeicaaLsAb
import Derived.Test.YtmbjojnldbeicaaLsF
import Derived.Test.YtmbjojnldbeicaaLsG5
set_option linter.unusedVariables false
set_option maxRecDepth 100000
namespace Go.Proofs.Ytmbjojnldbeicaa
open Go Go.LS
theorem Un (s : BY) (c : Int) : Runs lp 91 [pT s, .p (.int .u8 c)] [] (pI (Lib.indexByte s c.toNat.toUInt8), []) := ⟨1, rfl⟩
theorem Wy {s : BY}  :
  Runs lp 90 [pT s, pT [46]] [] (if ([46] == s) = true then ((pI 0, [])) else ((pI (Lib.indexByte s (Int.toNat 46).toUInt8), []))) := by
 by_cases k1 : ([46] == s) = true
 ·refine Aw k1 ?_
  exact
   rO [(15, .b true)] [_] (by kernel_rfl) ⟨cI k1, trivial⟩
 ·refine Ax k1 ?_
  replace k1 := Bool.eq_false_iff.2 k1
  exact
   have q1 : Runs lp 91 [pT s, .p (.int .u8 46)] [] (pI (Lib.indexByte s (Int.toNat 46).toUInt8), []) := (Un s 46)
   rO [(15, .b false), (7, oC q1)] [_, _] (by kernel_rfl) ⟨cI k1, q1, trivial⟩
theorem Pm {s : BY}  :
  Runs lp 89 [pT s, pT [46]] [] (if ([46] == s) = true then ((pI 0, [])) else ((pI (Lib.indexByte s (Int.toNat 46).toUInt8), []))) := by
 by_cases k1 : ([46] == s) = true
 ·refine Aw k1 ?_
  exact
   have q1 : Runs lp 90 [pT s, pT [46]] [] (pI 0, []) := (Ul (Wy (s := s) ) k1)
   rO [(3, oC q1)] [_] (by kernel_rfl) ⟨q1, trivial⟩
 ·refine Ax k1 ?_
  replace k1 := Bool.eq_false_iff.2 k1
  exact
   have q1 : Runs lp 90 [pT s, pT [46]] [] (pI (Lib.indexByte s (Int.toNat 46).toUInt8), []) := (iteF (Wy (s := s) ) k1)
   rO [(3, oC q1)] [_] (by kernel_rfl) ⟨q1, trivial⟩
theorem Wz {s : BY}  :
  Runs lp 87 [pT s, pT [46]] [] (if ([46] == s) = true then ((pB true, [])) else ((pB (decide ((Lib.indexByte s (Int.toNat 46).toUInt8) ≥ 0)), []))) := by
 by_cases k1 : ([46] == s) = true
 ·refine Aw k1 ?_
  exact
   have q1 : Runs lp 89 [pT s, pT [46]] [] (pI 0, []) := (Ul (Pm (s := s) ) k1)
   rO [(3, oC q1)] [_] (by kernel_rfl) ⟨q1, trivial⟩
 ·refine Ax k1 ?_
  replace k1 := Bool.eq_false_iff.2 k1
  exact
   have q1 : Runs lp 89 [pT s, pT [46]] [] (pI (Lib.indexByte s (Int.toNat 46).toUInt8), []) := (iteF (Pm (s := s) ) k1)
   rO [(3, oC q1)] [_] (by kernel_rfl) ⟨q1, trivial⟩
theorem vPreD {s : BY} (w1 : (decide (((List.length s : Nat) : Int) ≥ 1)) = true → 0 ≤ (1 : Int)) (w2 : (decide (((List.length s : Nat) : Int) ≥ 1)) = true → (1 : Int) ≤ (List.length s : Int)) :
  Runs lp 88 [pT s, pT [36]] [] (if (decide (((List.length s : Nat) : Int) ≥ 1)) = true then ((pB ((List.take (Int.toNat (1 : Int)) s) == [36]), [])) else ((pB false, []))) := by
 by_cases k1 : (decide (((List.length s : Nat) : Int) ≥ 1)) = true
 ·refine Aw k1 ?_
  exact
   have q1 : OpE [] (.sslice (.const (pT s)) none (some (.const (pI 1))) none) (pT (List.take (Int.toNat (1 : Int)) s)) := (N4 (w1 k1) (w2 k1))
   rO [(7, .b true), (1, .b true), (1, .b true), (1, .b true), (0, oO q1), (0, .b true), (1, .b true), (1, .b true)] [_, _, _, _, _, _, _, _] (by kernel_rfl) ⟨cI k1, cI k1, cI k1, cI k1, q1, cI k1, cI k1, cI k1, trivial⟩
 ·refine Ax k1 ?_
  replace k1 := Bool.eq_false_iff.2 k1
  exact
   rO [(7, .b false), (0, .b false), (0, .b false), (0, .b false), (0, .b false), (0, .b false), (0, .b false)] [_, _, _, _, _, _, _] (by kernel_rfl) ⟨cI k1, cI k1, cI k1, cI k1, cI k1, cI k1, cI k1, trivial⟩
theorem vHasD {s : BY} (w1 : (decide (((List.length s : Nat) : Int) ≥ 1)) = true → 0 ≤ (1 : Int)) (w2 : (decide (((List.length s : Nat) : Int) ≥ 1)) = true → (1 : Int) ≤ (List.length s : Int)) :
  Runs lp 86 [pT s, pT [36]] [] (if (decide (((List.length s : Nat) : Int) ≥ 1)) = true then ((pB ((List.take (Int.toNat (1 : Int)) s) == [36]), [])) else ((pB false, []))) := by
 by_cases k1 : (decide (((List.length s : Nat) : Int) ≥ 1)) = true
 ·refine Aw k1 ?_
  exact
   have q1 : Runs lp 88 [pT s, pT [36]] [] (pB ((List.take (Int.toNat (1 : Int)) s) == [36]), []) := (Ul (vPreD (s := s) (fun _ => (w1 k1)) (fun _ => (w2 k1))) k1)
   rO [(3, oC q1)] [_] (by kernel_rfl) ⟨q1, trivial⟩
 ·refine Ax k1 ?_
  replace k1 := Bool.eq_false_iff.2 k1
  exact
   have q1 : Runs lp 88 [pT s, pT [36]] [] (pB false, []) := (iteF (vPreD (s := s) (fun z => by rw [k1] at z; cases z) (fun z => by rw [k1] at z; cases z)) k1)
   rO [(3, oC q1)] [_] (by kernel_rfl) ⟨q1, trivial⟩
theorem vName0 {s : BY} (w1 : (decide (((List.length s : Nat) : Int) ≥ 1)) = true → (decide (((List.length s : Nat) : Int) ≤ 32)) = true → 0 ≤ (1 : Int)) (w2 : (decide (((List.length s : Nat) : Int) ≥ 1)) = true → (decide (((List.length s : Nat) : Int) ≤ 32)) = true → (1 : Int) ≤ (List.length s : Int)) :
  Runs lp 81 [pT s] [] (if (decide (((List.length s : Nat) : Int) ≥ 1)) = true then (if (decide (((List.length s : Nat) : Int) ≤ 32)) = true then (if ((List.take (Int.toNat (1 : Int)) s) == [36]) = true then ((pB false, [])) else (if ([46] == s) = true then ((pB false, [])) else ((pB (!(decide ((Lib.indexByte s (Int.toNat 46).toUInt8) ≥ 0))), [])))) else ((pB false, []))) else ((pB false, []))) := by
 by_cases k1 : (decide (((List.length s : Nat) : Int) ≥ 1)) = true
 ·refine Aw k1 ?_
  by_cases k2 : (decide (((List.length s : Nat) : Int) ≤ 32)) = true
  ·refine Aw k2 ?_
   by_cases k3 : ((List.take (Int.toNat (1 : Int)) s) == [36]) = true
   ·refine Aw k3 ?_
    exact
     have q1 : Runs lp 86 [pT s, pT [36]] [] (pB ((List.take (Int.toNat (1 : Int)) s) == [36]), []) := (Ul (vHasD (s := s) (fun _ => (w1 k1 k2)) (fun _ => (w2 k1 k2))) k1)
     rO [(5, .b true), (1, .b true), (1, .b true), (1, .b true), (1, .b true), (1, .b true), (0, oC q1), (0, .b true), (1, .b true), (1, .b false), (0, .b false), (0, .b false), (0, .b false)] [_, _, _, _, _, _, _, _, _, _, _, _, _] (by kernel_rfl) ⟨cI k1, cI k1, cI k1, cI k1, cI k2, cI k2, q1, cI k2, cI k2, (cI (Ah k3)), (cI (Ah k3)), (cI (Ah k3)), (cI (Ah k3)), trivial⟩
   ·refine Ax k3 ?_
    replace k3 := Bool.eq_false_iff.2 k3
    by_cases k4 : ([46] == s) = true
    ·refine Aw k4 ?_
     exact
      have q1 : Runs lp 86 [pT s, pT [36]] [] (pB ((List.take (Int.toNat (1 : Int)) s) == [36]), []) := (Ul (vHasD (s := s) (fun _ => (w1 k1 k2)) (fun _ => (w2 k1 k2))) k1)
      have q2 : Runs lp 87 [pT s, pT [46]] [] (pB true, []) := (Ul (Wz (s := s) ) k4)
      rO [(5, .b true), (1, .b true), (1, .b true), (1, .b true), (1, .b true), (1, .b true), (0, oC q1), (0, .b true), (1, .b true), (1, .b true), (1, .b true), (0, oC q2), (0, .b true), (1, .b true)] [_, _, _, _, _, _, _, _, _, _, _, _, _, _] (by kernel_rfl) ⟨cI k1, cI k1, cI k1, cI k1, cI k2, cI k2, q1, cI k2, cI k2, (cI (Ah k3)), (cI (Ah k3)), q2, (cI (Ah k3)), (cI (Ah k3)), trivial⟩
    ·refine Ax k4 ?_
     replace k4 := Bool.eq_false_iff.2 k4
     exact
      have q1 : Runs lp 86 [pT s, pT [36]] [] (pB ((List.take (Int.toNat (1 : Int)) s) == [36]), []) := (Ul (vHasD (s := s) (fun _ => (w1 k1 k2)) (fun _ => (w2 k1 k2))) k1)
      have q2 : Runs lp 87 [pT s, pT [46]] [] (pB (decide ((Lib.indexByte s (Int.toNat 46).toUInt8) ≥ 0)), []) := (iteF (Wz (s := s) ) k4)
      rO [(5, .b true), (1, .b true), (1, .b true), (1, .b true), (1, .b true), (1, .b true), (0, oC q1), (0, .b true), (1, .b true), (1, .b true), (1, .b true), (0, oC q2), (0, .b true), (1, .b true)] [_, _, _, _, _, _, _, _, _, _, _, _, _, _] (by kernel_rfl) ⟨cI k1, cI k1, cI k1, cI k1, cI k2, cI k2, q1, cI k2, cI k2, (cI (Ah k3)), (cI (Ah k3)), q2, (cI (Ah k3)), (cI (Ah k3)), trivial⟩
  ·refine Ax k2 ?_
   replace k2 := Bool.eq_false_iff.2 k2
   exact
    rO [(5, .b true), (1, .b true), (1, .b true), (1, .b true), (1, .b false), (0, .b false), (0, .b false), (0, .b false)] [_, _, _, _, _, _, _, _] (by kernel_rfl) ⟨cI k1, cI k1, cI k1, cI k1, cI k2, cI k2, cI k2, cI k2, trivial⟩
 ·refine Ax k1 ?_
  replace k1 := Bool.eq_false_iff.2 k1
  exact
   rO [(5, .b false), (0, .b false), (0, .b false), (0, .b false)] [_, _, _, _] (by kernel_rfl) ⟨cI k1, cI k1, cI k1, cI k1, trivial⟩
theorem X8 {s : BY} {i : Nat} (c1 : (decide ((i : Int) < ((List.length s : Nat) : Int))) = true) (h2 : (i : Nat) < List.length s) (c3 : (((List.getD (α := UInt8) s i 0).toNat : Int) == 46) = true) :
  LoopN lp 0 (Ae My 0) (tl 0 27 [(0, pT s), (3, pI (i : Int))]) [] (.ret, (tl 0 27 [(2, pB false)]), []) :=
 have q1 : OpE [] (.index (.const (pT s)) (.const (pI (i : Int)))) (.p (.int .u8 ((List.getD (α := UInt8) s i 0).toNat : Int))) := (Jg h2)
 lX [(4, .b true), (2, oO q1), (1, .b true)] [_, _, _] (by kernel_rfl) (by kernel_rfl) ⟨cI c1, q1, cI c3, trivial⟩
theorem X9 {s : BY} {i : Nat} (c1 : (decide ((i : Int) < ((List.length s : Nat) : Int))) = true) (h2 : (i : Nat) < List.length s) (c3 : (((List.getD (α := UInt8) s i 0).toNat : Int) == 46) = false) {r : RL} (hr : LoopN lp 0 (Ae My 0) (tl 0 27 [(0, pT s), (3, pI (IntKind.wrap .i64 ((i : Int) + 1)))]) [] r) :
  LoopN lp 0 (Ae My 0) (tl 0 27 [(0, pT s), (3, pI (i : Int))]) [] r :=
 have q1 : OpE [] (.index (.const (pT s)) (.const (pI (i : Int)))) (.p (.int .u8 ((List.getD (α := UInt8) s i 0).toNat : Int))) := (Jg h2)
 lO [(4, .b true), (2, oO q1), (1, .b false)] [_, _, _] (by kernel_rfl) ⟨cI c1, q1, cI c3, trivial⟩ hr
theorem rNameR_n {s : BY} {i : Nat} (c1 : (decide ((i : Int) < ((List.length s : Nat) : Int))) = false) :
  LoopN lp 0 (Ae My 0) (tl 0 27 [(0, pT s), (3, pI (i : Int))]) [] (.exit 0, (tl 0 27 [(0, pT s)]), []) :=
 lX [(4, .b false)] [_] (by kernel_rfl) (by kernel_rfl) ⟨cI c1, trivial⟩
theorem rName0_y {s : BY} {hasDot : Bool} (c1 : (hasDot) = true) (h2 : LoopN lp 0 (Ae My 0) (tl 0 27 [(0, pT s), (3, pI 0)]) [] (.ret, (tl 0 27 [(2, pB false)]), [])) :
  Runs lp 68 [pT s] [] (pB false, []) :=
 rO [(2, oL h2)] [_] (by kernel_rfl) ⟨h2, trivial⟩
theorem Uo {s : BY} {hasDot : Bool} (c1 : (hasDot) = false) (h2 : LoopN lp 0 (Ae My 0) (tl 0 27 [(0, pT s), (3, pI 0)]) [] (.exit 0, (tl 0 27 [(0, pT s)]), [])) (c3 : (decide (((List.length s : Nat) : Int) ≥ 1)) = true) (c4 : (decide (((List.length s : Nat) : Int) ≤ 32)) = true) (h5 : (0 : Nat) < List.length s) :
  Runs lp 68 [pT s] [] (pB (((List.getD (α := UInt8) s 0 0).toNat : Int) != 36), []) :=
 have q1 : OpE [] (.index (.const (pT s)) (.const (pI 0))) (.p (.int .u8 ((List.getD (α := UInt8) s 0 0).toNat : Int))) := (Jg h5)
 rO [(2, oL h2), (4, .b true), (1, .b true), (1, .b true), (1, .b true), (1, .b true), (1, .b true), (0, oO q1), (0, .b true), (1, .b true)] [_, _, _, _, _, _, _, _, _, _] (by kernel_rfl) ⟨h2, cI c3, cI c3, cI c3, cI c3, cI c4, cI c4, q1, cI c4, cI c4, trivial⟩
theorem Up {s : BY} {hasDot : Bool} (c1 : (hasDot) = false) (h2 : LoopN lp 0 (Ae My 0) (tl 0 27 [(0, pT s), (3, pI 0)]) [] (.exit 0, (tl 0 27 [(0, pT s)]), [])) (c3 : (decide (((List.length s : Nat) : Int) ≥ 1)) = true) (c4 : (decide (((List.length s : Nat) : Int) ≤ 32)) = false) :
  Runs lp 68 [pT s] [] (pB false, []) :=
 rO [(2, oL h2), (4, .b true), (1, .b true), (1, .b true), (1, .b true), (1, .b false), (0, .b false), (0, .b false), (0, .b false)] [_, _, _, _, _, _, _, _, _] (by kernel_rfl) ⟨h2, cI c3, cI c3, cI c3, cI c3, cI c4, cI c4, cI c4, cI c4, trivial⟩
theorem Ya {s : BY} {hasDot : Bool} (c1 : (hasDot) = false) (h2 : LoopN lp 0 (Ae My 0) (tl 0 27 [(0, pT s), (3, pI 0)]) [] (.exit 0, (tl 0 27 [(0, pT s)]), [])) (c3 : (decide (((List.length s : Nat) : Int) ≥ 1)) = false) :
  Runs lp 68 [pT s] [] (pB false, []) :=
 rO [(2, oL h2), (4, .b false), (0, .b false), (0, .b false), (0, .b false)] [_, _, _, _, _] (by kernel_rfl) ⟨h2, cI c3, cI c3, cI c3, cI c3, trivial⟩
end Go.Proofs.Ytmbjojnldbeicaa
