import Derived.Test.YtpkmddkodchanaaLsAb
import Derived.Test.YtpkmddkodchanaaLsVal3
import Derived.Test.YtpkmddkodchanaaLsG5
set_option linter.unusedVariables false
set_option linter.unusedSimpArgs false
set_option maxRecDepth 100000
namespace Go.Proofs.Ytpkmddkodchanaa
open Go Go.LS
theorem pMay1 {s : BY} (w1 : Runs lp 57 [pT s] [] (pB (Aw s), [])) :
  Runs lp 56 [pT s] [] ((pB (!(Aw s)), [])) := by
 exact
  rO [(2, oC w1)] [_] (by kernel_rfl) ⟨w1, trivial⟩
theorem Tp {ns : BL} {i : Nat} (c1 : (decide ((i : Int) < ((List.length (Ab ns) : Nat) : Int))) = true) (h2 : i < List.length ns) (h3 : Runs lp 56 [pT (List.getD (α := BY) ns i [])] [] (pB (!(Aw (List.getD (α := BY) ns i []))), [])) (c4 : (Aw (List.getD (α := BY) ns i [])) = true) {r : RL} (hr : LoopN lp 0 (Aj Mc 0) (tl 0 19 [(0, pN ns), (1, .fn (.func 56) [] []), (7, pI ((List.length (Ab ns) : Nat) : Int)), (8, pI (IntKind.wrap .i64 ((i : Int) + 1)))]) [] r) :
  LoopN lp 0 (Aj Mc 0) (tl 0 19 [(0, pN ns), (1, .fn (.func 56) [] []), (7, pI ((List.length (Ab ns) : Nat) : Int)), (8, pI (i : Int))]) [] r :=
 have q1 : OpE [] (.indexAddr 1 (.const (pN ns)) (.const (pI (i : Int)))) (.pin [.str (List.getD (α := BY) ns i [])] 0) := (Av rfl rfl (A7 h2) rfl)
 lO [(1, .b true), (5, oO q1), (1, oC h3), (0, .b false)] [_, _, _, _] (by kernel_rfl) ⟨cI c1, q1, h3, (cI (Ad c4)), trivial⟩ hr
theorem Tq {ns : BL} {i : Nat} (c1 : (decide ((i : Int) < ((List.length (Ab ns) : Nat) : Int))) = true) (h2 : i < List.length ns) (h3 : Runs lp 56 [pT (List.getD (α := BY) ns i [])] [] (pB (!(Aw (List.getD (α := BY) ns i []))), [])) (c4 : (Aw (List.getD (α := BY) ns i [])) = false) :
  LoopN lp 0 (Aj Mc 0) (tl 0 19 [(0, pN ns), (1, .fn (.func 56) [] []), (7, pI ((List.length (Ab ns) : Nat) : Int)), (8, pI (i : Int))]) [] (.ret, (tl 0 19 [(4, pI (i : Int))]), []) :=
 have q1 : OpE [] (.indexAddr 1 (.const (pN ns)) (.const (pI (i : Int)))) (.pin [.str (List.getD (α := BY) ns i [])] 0) := (Av rfl rfl (A7 h2) rfl)
 lX [(1, .b true), (5, oO q1), (1, oC h3), (0, .b true)] [_, _, _, _] (by kernel_rfl) (by kernel_rfl) ⟨cI c1, q1, h3, (cI (Ad c4)), trivial⟩
theorem Vd {ns : BL} {i : Nat} (c1 : (decide ((i : Int) < ((List.length (Ab ns) : Nat) : Int))) = false) :
  LoopN lp 0 (Aj Mc 0) (tl 0 19 [(0, pN ns), (1, .fn (.func 56) [] []), (7, pI ((List.length (Ab ns) : Nat) : Int)), (8, pI (i : Int))]) [] (.exit 0, (tl 0 19 []), []) :=
 lX [(1, .b false)] [_] (by kernel_rfl) (by kernel_rfl) ⟨cI c1, trivial⟩
theorem pIdx0 {ns : BL} {i : Nat} (w1 : (ns.all Aw) = true → LoopN lp 0 (Aj Mc 0) (tl 0 19 [(0, pN ns), (1, .fn (.func 56) [] []), (7, pI ((List.length (Ab ns) : Nat) : Int)), (8, pI 0)]) [] (.exit 0, (tl 0 19 []), [])) (w2 : (ns.all Aw) = false → LoopN lp 0 (Aj Mc 0) (tl 0 19 [(0, pN ns), (1, .fn (.func 56) [] []), (7, pI ((List.length (Ab ns) : Nat) : Int)), (8, pI 0)]) [] (.ret, (tl 0 19 [(4, pI (i : Int))]), [])) :
  Runs lp 64 [pN ns, .fn (.func 56) [] []] [] (if (ns.all Aw) = true then ((pI (-1), [])) else ((pI (i : Int), []))) := by
 by_cases k1 : (ns.all Aw) = true
 ·refine Ao k1 ?_
  exact
   rO [(4, oL (w1 k1))] [_] (by kernel_rfl) ⟨(w1 k1), trivial⟩
 ·refine Ap k1 ?_
  replace k1 := Bool.eq_false_iff.2 k1
  exact
   rO [(4, oL (w2 k1))] [_] (by kernel_rfl) ⟨(w2 k1), trivial⟩
theorem pCon0 {ns : BL} {i : Nat} (w1 : (ns.all Aw) = true → Runs lp 64 [pN ns, .fn (.func 56) [] []] [] (pI (-1), [])) (w2 : (ns.all Aw) = false → Runs lp 64 [pN ns, .fn (.func 56) [] []] [] (pI (i : Int), [])) :
  Runs lp 58 [pN ns, .fn (.func 56) [] []] [] (if (ns.all Aw) = true then ((pB false, [])) else ((pB (decide ((i : Int) ≥ 0)), []))) := by
 by_cases k1 : (ns.all Aw) = true
 ·refine Ao k1 ?_
  exact
   rO [(3, oC (w1 k1))] [_] (by kernel_rfl) ⟨(w1 k1), trivial⟩
 ·refine Ap k1 ?_
  replace k1 := Bool.eq_false_iff.2 k1
  exact
   rO [(3, oC (w2 k1))] [_] (by kernel_rfl) ⟨(w2 k1), trivial⟩
theorem pMay0 {ns : BL} (w1 : (decide (((List.length (Ab ns) : Nat) : Int) ≥ 1)) = true → (decide (((List.length (Ab ns) : Nat) : Int) ≤ 8)) = true → Runs lp 58 [pN ns, .fn (.func 56) [] []] [] (pB (!(List.all ns Aw)), [])) :
  Runs lp 43 [pN ns] [] (if (decide (((List.length (Ab ns) : Nat) : Int) ≥ 1)) = true then (if (decide (((List.length (Ab ns) : Nat) : Int) ≤ 8)) = true then ((pB (!(!(List.all ns Aw))), [])) else ((pB false, []))) else ((pB false, []))) := by
 by_cases k1 : (decide (((List.length (Ab ns) : Nat) : Int) ≥ 1)) = true
 ·refine Ao k1 ?_
  by_cases k2 : (decide (((List.length (Ab ns) : Nat) : Int) ≤ 8)) = true
  ·refine Ao k2 ?_
   exact
    rO [(6, .b true), (1, .b true), (1, .b true), (1, .b true), (1, .b true), (1, .b true), (1, .b true), (0, oC (w1 k1 k2)), (0, .b true), (1, .b true)] [_, _, _, _, _, _, _, _, _, _] (by kernel_rfl) ⟨cI k1, cI k1, cI k1, cI k1, cI k2, cI k2, cI k2, (w1 k1 k2), cI k2, cI k2, trivial⟩
  ·refine Ap k2 ?_
   replace k2 := Bool.eq_false_iff.2 k2
   exact
    rO [(6, .b true), (1, .b true), (1, .b true), (1, .b true), (1, .b false), (0, .b false), (0, .b false), (0, .b false), (0, .b false)] [_, _, _, _, _, _, _, _, _] (by kernel_rfl) ⟨cI k1, cI k1, cI k1, cI k1, cI k2, cI k2, cI k2, cI k2, cI k2, trivial⟩
 ·refine Ap k1 ?_
  replace k1 := Bool.eq_false_iff.2 k1
  exact
   rO [(6, .b false), (0, .b false), (0, .b false), (0, .b false)] [_, _, _, _] (by kernel_rfl) ⟨cI k1, cI k1, cI k1, cI k1, trivial⟩
theorem Rm {ns : BL} {i : Nat} (c1 : (decide ((i : Int) < ((List.length (Ab ns) : Nat) : Int))) = true) (h2 : i < List.length ns) (h3 : Runs lp 35 [pT (List.getD (α := BY) ns i [])] [] (pB (Aw (List.getD (α := BY) ns i [])), [])) (c4 : (Aw (List.getD (α := BY) ns i [])) = true) {r : RL} (hr : LoopN lp 0 (Aj Ma 0) (tl 0 24 [(0, pN ns), (3, pI (IntKind.wrap .i64 ((i : Int) + 1)))]) [] r) :
  LoopN lp 0 (Aj Ma 0) (tl 0 24 [(0, pN ns), (3, pI (i : Int))]) [] r :=
 have q1 : OpE [] (.indexAddr 1 (.const (pN ns)) (.const (pI (i : Int)))) (.pin [.str (List.getD (α := BY) ns i [])] 0) := (Av rfl rfl (A7 h2) rfl)
 lO [(4, .b true), (2, oO q1), (1, oC h3), (1, .b false)] [_, _, _, _] (by kernel_rfl) ⟨cI c1, q1, h3, (cI (Ad c4)), trivial⟩ hr
theorem Rn {ns : BL} {i : Nat} (c1 : (decide ((i : Int) < ((List.length (Ab ns) : Nat) : Int))) = true) (h2 : i < List.length ns) (h3 : Runs lp 35 [pT (List.getD (α := BY) ns i [])] [] (pB (Aw (List.getD (α := BY) ns i [])), [])) (c4 : (Aw (List.getD (α := BY) ns i [])) = false) :
  LoopN lp 0 (Aj Ma 0) (tl 0 24 [(0, pN ns), (3, pI (i : Int))]) [] (.ret, (tl 0 24 [(2, pB false)]), []) :=
 have q1 : OpE [] (.indexAddr 1 (.const (pN ns)) (.const (pI (i : Int)))) (.pin [.str (List.getD (α := BY) ns i [])] 0) := (Av rfl rfl (A7 h2) rfl)
 lX [(4, .b true), (2, oO q1), (1, oC h3), (1, .b true)] [_, _, _, _] (by kernel_rfl) (by kernel_rfl) ⟨cI c1, q1, h3, (cI (Ad c4)), trivial⟩
theorem Tr {ns : BL} {i : Nat} (c1 : (decide ((i : Int) < ((List.length (Ab ns) : Nat) : Int))) = false) :
  LoopN lp 0 (Aj Ma 0) (tl 0 24 [(0, pN ns), (3, pI (i : Int))]) [] (.exit 0, (tl 0 24 [(0, pN ns)]), []) :=
 lX [(4, .b false)] [_] (by kernel_rfl) (by kernel_rfl) ⟨cI c1, trivial⟩
theorem rpMay0 {ns : BL} (w1 : (ns.all Aw) = true → LoopN lp 0 (Aj Ma 0) (tl 0 24 [(0, pN ns), (3, pI 0)]) [] (.exit 0, (tl 0 24 [(0, pN ns)]), [])) (w2 : (ns.all Aw) = false → LoopN lp 0 (Aj Ma 0) (tl 0 24 [(0, pN ns), (3, pI 0)]) [] (.ret, (tl 0 24 [(2, pB false)]), [])) :
  Runs lp 30 [pN ns] [] (if (ns.all Aw) = true then (if (decide (((List.length (Ab ns) : Nat) : Int) ≥ 1)) = true then ((pB (decide (((List.length (Ab ns) : Nat) : Int) ≤ 8)), [])) else ((pB false, []))) else ((pB false, []))) := by
 by_cases k1 : (ns.all Aw) = true
 ·refine Ao k1 ?_
  by_cases k2 : (decide (((List.length (Ab ns) : Nat) : Int) ≥ 1)) = true
  ·refine Ao k2 ?_
   exact
    rO [(2, oL (w1 k1)), (4, .b true), (1, .b true), (1, .b true), (1, .b true)] [_, _, _, _, _] (by kernel_rfl) ⟨(w1 k1), cI k2, cI k2, cI k2, cI k2, trivial⟩
  ·refine Ap k2 ?_
   replace k2 := Bool.eq_false_iff.2 k2
   exact
    rO [(2, oL (w1 k1)), (4, .b false), (0, .b false), (0, .b false), (0, .b false)] [_, _, _, _, _] (by kernel_rfl) ⟨(w1 k1), cI k2, cI k2, cI k2, cI k2, trivial⟩
 ·refine Ap k1 ?_
  replace k1 := Bool.eq_false_iff.2 k1
  exact
   rO [(2, oL (w2 k1))] [_] (by kernel_rfl) ⟨(w2 k1), trivial⟩
end Go.Proofs.Ytpkmddkodchanaa
