import Derived.Test.YtegboccilfofmaaGreatLsAb
import Derived.Test.YtegboccilfofmaaGreatLsCod4
set_option linter.unusedVariables false
set_option maxRecDepth 100000
namespace Go.Proofs.YtegboccilfofmaaGreat
open Go Go.LS
theorem vRdA {k n : Int} {s : BY} {is : List Val} {ns : BL} {x x2 : Src} (w1 : Runs lp 70 [P00, pI 8] (aR5 x) (.agg (aR7 is k n ns s), (Bf x2))) (w2 : (x2.2) = false → Runs lp 55 [.agg (aR7 is k n ns s)] [] (pI (Av (Val.mk k n s is ns)), [])) :
  Runs lp 39 [P00] (aR5 x) (if (x2.2) = true then ((.agg [pI 0, pI 0, pT [], .p (.sl []), .p (.sl [])], [.row [[pS x2.1, pB true]]])) else (if ((Av (Val.mk k n s is ns)) == 0) = true then ((.agg (aR7 is k n ns s), (Bf x2))) else ((.agg [pI 0, pI 0, pT [], .p (.sl []), .p (.sl [])], [.row [[pS x2.1, pB true]]])))) := by
 by_cases k1 : (x2.2) = true
 ·refine Ak k1 ?_
  exact
   have q1 : Runs lp 15 [P00] (Bf x2) (pB x2.2, (Bf x2)) := (Eh x2)
   have q2 : Runs lp 40 [P00] (Bf x2) (.tup [], [.row [[pS x2.1, pB true]]]) := (Ei x2)
   rO [(2, oC w1), (3, oC q1), (1, .b true), (0, .b true), (0, .b true), (0, .b true), (2, oC q2)] [_, _, _, _, _, _, _] (by kernel_rfl) ⟨w1, q1, cI k1, cI k1, cI k1, cI k1, q2, trivial⟩
 ·refine Al k1 ?_
  replace k1 := Bool.eq_false_iff.2 k1
  by_cases k2 : ((Av (Val.mk k n s is ns)) == 0) = true
  ·refine Ak k2 ?_
   exact
    have q1 : Runs lp 15 [P00] (Bf x2) (pB x2.2, (Bf x2)) := (Eh x2)
    rO [(2, oC w1), (3, oC q1), (1, .b false), (1, .b false), (0, oC (w2 k1)), (0, .b false), (1, .b false), (0, .b false)] [_, _, _, _, _, _, _, _] (by kernel_rfl) ⟨w1, q1, cI k1, cI k1, (w2 k1), cI k1, cI k1, (cI (Ae k2)), trivial⟩
  ·refine Al k2 ?_
   replace k2 := Bool.eq_false_iff.2 k2
   exact
    have q1 : Runs lp 15 [P00] (Bf x2) (pB x2.2, (Bf x2)) := (Eh x2)
    have q2 : Runs lp 40 [P00] (Bf x2) (.tup [], [.row [[pS x2.1, pB true]]]) := (Ei x2)
    rO [(2, oC w1), (3, oC q1), (1, .b false), (1, .b false), (0, oC (w2 k1)), (0, .b false), (1, .b false), (0, .b true), (1, oC q2)] [_, _, _, _, _, _, _, _, _] (by kernel_rfl) ⟨w1, q1, cI k1, cI k1, (w2 k1), cI k1, cI k1, (cI (Ae k2)), q2, trivial⟩
theorem rRdA {k n : Int} {s : BY} {is : List Val} {ns : BL} {x x2 : Src} (w1 : (x.2) = false → Runs lp 71 [P00, pI 8] (aR5 x) (.agg (aR7 is k n ns s), (Bf x2))) (w2 : (x.2) = false → (x2.2) = false → Runs lp 60 [.agg (aR7 is k n ns s)] [] (pI (Av (Val.mk k n s is ns)), [])) :
  Runs lp 42 [P00] (aR5 x) (if (x.2) = true then ((.agg [pI 0, pI 0, pT [], .p (.sl []), .p (.sl [])], (aR5 x))) else (if (x2.2) = true then ((.agg [pI 0, pI 0, pT [], .p (.sl []), .p (.sl [])], [.row [[pS x2.1, pB true]]])) else (if ((Av (Val.mk k n s is ns)) == 0) = true then ((.agg (aR7 is k n ns s), (Bf x2))) else ((.agg [pI 0, pI 0, pT [], .p (.sl []), .p (.sl [])], [.row [[pS x2.1, pB true]]]))))) := by
 by_cases k1 : (x.2) = true
 ·refine Ak k1 ?_
  exact
   rO [(5, .b true)] [_] (by kernel_rfl) ⟨cI k1, trivial⟩
 ·refine Al k1 ?_
  replace k1 := Bool.eq_false_iff.2 k1
  by_cases k2 : (x2.2) = true
  ·refine Ak k2 ?_
   exact
    rO [(5, .b false), (1, oC (w1 k1)), (7, .b true), (0, .b true), (0, .b true), (0, .b true)] [_, _, _, _, _, _] (by kernel_rfl) ⟨cI k1, (w1 k1), cI k2, cI k2, cI k2, cI k2, trivial⟩
  ·refine Al k2 ?_
   replace k2 := Bool.eq_false_iff.2 k2
   by_cases k3 : ((Av (Val.mk k n s is ns)) == 0) = true
   ·refine Ak k3 ?_
    exact
     rO [(5, .b false), (1, oC (w1 k1)), (7, .b false), (1, .b false), (0, oC (w2 k1 k2)), (0, .b false), (1, .b false), (0, .b false)] [_, _, _, _, _, _, _, _] (by kernel_rfl) ⟨cI k1, (w1 k1), cI k2, cI k2, (w2 k1 k2), cI k2, cI k2, (cI (Ae k3)), trivial⟩
   ·refine Al k3 ?_
    replace k3 := Bool.eq_false_iff.2 k3
    exact
     rO [(5, .b false), (1, oC (w1 k1)), (7, .b false), (1, .b false), (0, oC (w2 k1 k2)), (0, .b false), (1, .b false), (0, .b true)] [_, _, _, _, _, _, _, _] (by kernel_rfl) ⟨cI k1, (w1 k1), cI k2, cI k2, (w2 k1 k2), cI k2, cI k2, (cI (Ae k3)), trivial⟩
end Go.Proofs.YtegboccilfofmaaGreat
