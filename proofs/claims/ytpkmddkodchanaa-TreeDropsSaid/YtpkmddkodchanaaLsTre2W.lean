import Derived.Test.YtpkmddkodchanaaLsAb
import Derived.Test.YtpkmddkodchanaaLsTre
import Derived.Test.YtpkmddkodchanaaLsLives
set_option linter.unusedVariables false
set_option linter.unusedSimpArgs false
set_option maxRecDepth 100000
namespace Go.Proofs.Ytpkmddkodchanaa
open Go Go.LS
theorem tChk0 {k n : Int} {s : BY} {is : List Val} {ns : BL} {ps : BL} (w1 : (k == 7) = true → Runs lp 33 [.agg (aR8 is k n ns s)] [] (pB (Bc (Val.mk k n s is ns)), [])) (w2 : (k == 7) = true → (Bc (Val.mk k n s is ns)) = true → Runs lp 43 [pN ps] [] (pB (Af ps), [])) :
  Runs lp 27 [.agg (aR8 is k n ns s), pN ps] [] (if (k == 7) = true then (if (Bc (Val.mk k n s is ns)) = true then (if (Af ps) = true then ((pI 0, [])) else ((pI 40, []))) else ((pI 20, []))) else ((pI 20, []))) := by
 by_cases k1 : (k == 7) = true
 ·refine Ao k1 ?_
  by_cases k2 : (Bc (Val.mk k n s is ns)) = true
  ·refine Ao k2 ?_
   by_cases k3 : (Af ps) = true
   ·refine Ao k3 ?_
    exact
     rO [(6, .b false), (1, .b false), (0, oC (w1 k1)), (0, .b false), (1, .b false), (1, .b false), (1, oC (w2 k1 k2)), (2, .b false)] [_, _, _, _, _, _, _, _] (by kernel_rfl) ⟨(cI (Ad k1)), (cI (Ad k1)), (w1 k1), (cI (Ad k1)), (cI (Ad k1)), (cI (Ad k2)), (w2 k1 k2), (cI (Ad k3)), trivial⟩
   ·refine Ap k3 ?_
    replace k3 := Bool.eq_false_iff.2 k3
    exact
     rO [(6, .b false), (1, .b false), (0, oC (w1 k1)), (0, .b false), (1, .b false), (1, .b false), (1, oC (w2 k1 k2)), (2, .b true)] [_, _, _, _, _, _, _, _] (by kernel_rfl) ⟨(cI (Ad k1)), (cI (Ad k1)), (w1 k1), (cI (Ad k1)), (cI (Ad k1)), (cI (Ad k2)), (w2 k1 k2), (cI (Ad k3)), trivial⟩
  ·refine Ap k2 ?_
   replace k2 := Bool.eq_false_iff.2 k2
   exact
    rO [(6, .b false), (1, .b false), (0, oC (w1 k1)), (0, .b false), (1, .b false), (1, .b true)] [_, _, _, _, _, _] (by kernel_rfl) ⟨(cI (Ad k1)), (cI (Ad k1)), (w1 k1), (cI (Ad k1)), (cI (Ad k1)), (cI (Ad k2)), trivial⟩
 ·refine Ap k1 ?_
  replace k1 := Bool.eq_false_iff.2 k1
  exact
   rO [(6, .b true), (0, .b true), (0, .b true), (0, .b true)] [_, _, _, _] (by kernel_rfl) ⟨(cI (Ad k1)), (cI (Ad k1)), (cI (Ad k1)), (cI (Ad k1)), trivial⟩
theorem rDoc0 {k n : Int} {s : BY} {is : List Val} {ns : BL} (w1 : (k == 7) = true → Runs lp 19 [.agg (aR8 is k n ns s)] [] (pB (Bc (Val.mk k n s is ns)), [])) :
  Runs lp 14 [.agg (aR8 is k n ns s)] [] (if (k == 7) = true then ((pB (Bc (Val.mk k n s is ns)), [])) else ((pB false, []))) := by
 by_cases k1 : (k == 7) = true
 ·refine Ao k1 ?_
  exact
   rO [(6, .b true), (1, .b true), (0, oC (w1 k1)), (0, .b true)] [_, _, _, _] (by kernel_rfl) ⟨cI k1, cI k1, (w1 k1), cI k1, trivial⟩
 ·refine Ap k1 ?_
  replace k1 := Bool.eq_false_iff.2 k1
  exact
   rO [(6, .b false), (0, .b false), (0, .b false)] [_, _, _] (by kernel_rfl) ⟨cI k1, cI k1, cI k1, trivial⟩
theorem wrong0 {k n : Int} {s : BY} {is : List Val} {ns : BL} {ps : BL} (w1 : Runs lp 14 [.agg (aR8 is k n ns s)] [] (pB (Fw (Val.mk k n s is ns)), [])) (w2 : (Fw (Val.mk k n s is ns)) = true → Runs lp 30 [pN ps] [] (pB (Af ps), [])) :
  Runs lp 12 [.agg (aR8 is k n ns s), pN ps] [] (if (Fw (Val.mk k n s is ns)) = true then (if (Af ps) = true then ((pI 0, [])) else ((pI 40, []))) else ((pI 20, []))) := by
 by_cases k1 : (Fw (Val.mk k n s is ns)) = true
 ·refine Ao k1 ?_
  by_cases k2 : (Af ps) = true
  ·refine Ao k2 ?_
   exact
    rO [(3, oC w1), (1, .b false), (1, oC (w2 k1)), (1, .b false)] [_, _, _, _] (by kernel_rfl) ⟨w1, (cI (Ad k1)), (w2 k1), (cI (Ad k2)), trivial⟩
  ·refine Ap k2 ?_
   replace k2 := Bool.eq_false_iff.2 k2
   exact
    rO [(3, oC w1), (1, .b false), (1, oC (w2 k1)), (1, .b true)] [_, _, _, _] (by kernel_rfl) ⟨w1, (cI (Ad k1)), (w2 k1), (cI (Ad k2)), trivial⟩
 ·refine Ap k1 ?_
  replace k1 := Bool.eq_false_iff.2 k1
  exact
   rO [(3, oC w1), (1, .b true)] [_, _] (by kernel_rfl) ⟨w1, (cI (Ad k1)), trivial⟩
theorem large0 {k n : Int} {s : BY} {is : List Val} {ns : BL} {ps : BL} (w1 : Runs lp 16 [.agg (aR8 is k n ns s)] [] (pB (Ev (Val.mk k n s is ns)), [])) :
  Runs lp 8 [.agg (aR8 is k n ns s), pN ps] [] (if (Ev (Val.mk k n s is ns)) = true then ((pB true, [])) else ((pB (decide (((List.length (Ab ps) : Nat) : Int) > 50)), []))) := by
 by_cases k1 : (Ev (Val.mk k n s is ns)) = true
 ·refine Ao k1 ?_
  exact
   rO [(3, oC w1), (1, .b true), (0, .b true), (0, .b true), (0, .b true)] [_, _, _, _, _] (by kernel_rfl) ⟨w1, cI k1, cI k1, cI k1, cI k1, trivial⟩
 ·refine Ap k1 ?_
  replace k1 := Bool.eq_false_iff.2 k1
  exact
   rO [(3, oC w1), (1, .b false), (1, .b false), (1, .b false), (1, .b false)] [_, _, _, _, _] (by kernel_rfl) ⟨w1, cI k1, cI k1, cI k1, cI k1, trivial⟩
end Go.Proofs.Ytpkmddkodchanaa
