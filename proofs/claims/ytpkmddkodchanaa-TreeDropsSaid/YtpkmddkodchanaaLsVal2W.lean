import Derived.Test.YtpkmddkodchanaaLsAb
import Derived.Test.YtpkmddkodchanaaLsVal1
set_option linter.unusedVariables false
set_option linter.unusedSimpArgs false
set_option maxRecDepth 100000
namespace Go.Proofs.Ytpkmddkodchanaa
open Go Go.LS
theorem Tj {k n : Int} {s : BY} {is : List Val} {ns : BL} {i : Nat} {m d : Int} (ke ne : Int) (se : BY) (ise : List Val) (nse : BL) (c1 : (decide ((i : Int) < ((List.length (Ac is) : Nat) : Int))) = true) (c2 : (decide (m < 65536)) = true) (h3 : is[i]? = some (Val.mk ke ne se ise nse)) (h4 : Runs lp 32 [.agg [pI ke, pI ne, pT se, pV ise, pN nse], pI (IntKind.wrap .i64 (d + 1))] [] (pI (B1 (IntKind.wrap .i64 (d + 1)) (Val.mk ke ne se ise nse)), [])) {r : RL} (hr : LoopN lp 0 (Aj Nq 0) (tl 0 35 [(1, pI d), (2, P00), (5, pI (IntKind.wrap .i64 (m + (B1 (IntKind.wrap .i64 (d + 1)) (Val.mk ke ne se ise nse))))), (6, pI (IntKind.wrap .i64 ((i : Int) + 1)))]) [.row (aR1 is k n ns s)] r) :
  LoopN lp 0 (Aj Nq 0) (tl 0 35 [(1, pI d), (2, P00), (5, pI m), (6, pI (i : Int))]) [.row (aR1 is k n ns s)] r :=
 have q1 : OpE [.row (aR1 is k n ns s)] (.indexAddr 5 (.const (pV is)) (.const (pI (i : Int)))) (.pin [.int .i64 ke, .int .i64 ne, .str se, .sl (Ac ise), .sl (Ab nse)] 0) := (Av rfl rfl (A6 h3) rfl)
 lO [(6, .b true), (1, .b true), (1, .b true), (0, .b true), (4, oO q1), (3, oC h4)] [_, _, _, _, _, _] (by kernel_rfl) ⟨cI c1, cI c1, cI c1, cI c2, q1, h4, trivial⟩ hr
theorem Tk {k n : Int} {s : BY} {is : List Val} {ns : BL} {i : Nat} {m d : Int} (c1 : (decide ((i : Int) < ((List.length (Ac is) : Nat) : Int))) = true) (c2 : (decide (m < 65536)) = false) :
  LoopN lp 0 (Aj Nq 0) (tl 0 35 [(1, pI d), (2, P00), (5, pI m), (6, pI (i : Int))]) [.row (aR1 is k n ns s)] (.exit 0, (tl 0 35 [(5, pI m)]), [.row (aR1 is k n ns s)]) :=
 lX [(6, .b true), (1, .b true), (1, .b true), (0, .b false)] [_, _, _, _] (by kernel_rfl) (by kernel_rfl) ⟨cI c1, cI c1, cI c1, cI c2, trivial⟩
theorem U9 {k n : Int} {s : BY} {is : List Val} {ns : BL} {i : Nat} {m d : Int} (c1 : (decide ((i : Int) < ((List.length (Ac is) : Nat) : Int))) = false) :
  LoopN lp 0 (Aj Nq 0) (tl 0 35 [(1, pI d), (2, P00), (5, pI m), (6, pI (i : Int))]) [.row (aR1 is k n ns s)] (.exit 0, (tl 0 35 [(5, pI m)]), [.row (aR1 is k n ns s)]) :=
 lX [(6, .b false), (0, .b false), (0, .b false)] [_, _, _] (by kernel_rfl) (by kernel_rfl) ⟨cI c1, cI c1, cI c1, trivial⟩
theorem rNod0 {k n : Int} {s : BY} {is : List Val} {ns : BL} {d m1 : Int} (w1 : (decide (d > 40)) = false → LoopN lp 0 (Aj Nq 0) (tl 0 35 [(1, pI d), (2, P00), (5, pI (IntKind.wrap .i64 (1 + ((List.length (Ab ns) : Nat) : Int)))), (6, pI 0)]) [.row (aR1 is k n ns s)] (.exit 0, (tl 0 35 [(5, pI m1)]), [.row (aR1 is k n ns s)])) :
  Runs lp 32 [.agg (aR8 is k n ns s), pI d] [] (if (decide (d > 40)) = true then ((pI 1048576, [])) else ((pI m1, []))) := by
 by_cases k1 : (decide (d > 40)) = true
 ·refine Ao k1 ?_
  exact
   rO [(4, .b true)] [_] (by kernel_rfl) ⟨cI k1, trivial⟩
 ·refine Ap k1 ?_
  replace k1 := Bool.eq_false_iff.2 k1
  exact
   rO [(4, .b false), (6, oL (w1 k1))] [_, _] (by kernel_rfl) ⟨cI k1, (w1 k1), trivial⟩
theorem Va {k n : Int} {s : BY} {is : List Val} {ns : BL} (w1 : Runs lp 32 [.agg (aR8 is k n ns s), pI 0] [] (pI (B1 0 (Val.mk k n s is ns)), [])) :
  Runs lp 16 [.agg (aR8 is k n ns s)] [] ((pB (decide ((B1 0 (Val.mk k n s is ns)) > 3000)), [])) := by
 exact
  rO [(3, oC w1)] [_] (by kernel_rfl) ⟨w1, trivial⟩
end Go.Proofs.Ytpkmddkodchanaa
