import Derived.Test.YtmbjojnldbeicaaLsAb
import Derived.Test.YtmbjojnldbeicaaLsCod4
set_option linter.unusedVariables false
set_option linter.unusedSimpArgs false
set_option maxRecDepth 100000
namespace Go.Proofs.Ytmbjojnldbeicaa
open Go Go.LS
theorem vRdA {k n : Int} {s : BY} {is : List Val} {ns : BL} {x x2 : Src} (w1 : Runs lp 77 [P00, pI 8] (Ca x) (.agg (aR4 is k n ns s), [.row [[pS x2.1, pB x2.2]]])) (w2 : (x2.2) = false → Runs lp 33 [.agg (aR4 is k n ns s)] [] (pI (Dz (Val.mk k n s is ns)), [])) :
  Runs lp 62 [P00] (Ca x) (if (x2.2) = true then ((.agg Eb, [.row [[pS x2.1, pB true]]])) else (if ((Dz (Val.mk k n s is ns)) == 0) = true then ((.agg (aR4 is k n ns s), [.row [[pS x2.1, pB x2.2]]])) else ((.agg Eb, [.row [[pS x2.1, pB true]]])))) := by
 by_cases k1 : (x2.2) = true
 ·refine Am k1 ?_
  exact
   have q1 : Runs lp 23 [P00] [.row [[pS x2.1, pB x2.2]]] (pB x2.2, [.row [[pS x2.1, pB x2.2]]]) := (Ge x2)
   have q2 : Runs lp 40 [P00] [.row [[pS x2.1, pB x2.2]]] (.tup [], [.row [[pS x2.1, pB true]]]) := (Kc x2)
   rO [(2, oC w1), (3, oC q1), (1, .b true), (0, .b true), (0, .b true), (0, .b true), (2, oC q2)] [_, _, _, _, _, _, _] (by kernel_rfl) ⟨w1, q1, cI k1, cI k1, cI k1, cI k1, q2, trivial⟩
 ·refine An k1 ?_
  replace k1 := Bool.eq_false_iff.2 k1
  by_cases k2 : ((Dz (Val.mk k n s is ns)) == 0) = true
  ·refine Am k2 ?_
   exact
    have q1 : Runs lp 23 [P00] [.row [[pS x2.1, pB x2.2]]] (pB x2.2, [.row [[pS x2.1, pB x2.2]]]) := (Ge x2)
    rO [(2, oC w1), (3, oC q1), (1, .b false), (1, .b false), (0, oC (w2 k1)), (0, .b false), (1, .b false), (0, .b false)] [_, _, _, _, _, _, _, _] (by kernel_rfl) ⟨w1, q1, cI k1, cI k1, (w2 k1), cI k1, cI k1, (cI (Ae k2)), trivial⟩
  ·refine An k2 ?_
   replace k2 := Bool.eq_false_iff.2 k2
   exact
    have q1 : Runs lp 23 [P00] [.row [[pS x2.1, pB x2.2]]] (pB x2.2, [.row [[pS x2.1, pB x2.2]]]) := (Ge x2)
    have q2 : Runs lp 40 [P00] [.row [[pS x2.1, pB x2.2]]] (.tup [], [.row [[pS x2.1, pB true]]]) := (Kc x2)
    rO [(2, oC w1), (3, oC q1), (1, .b false), (1, .b false), (0, oC (w2 k1)), (0, .b false), (1, .b false), (0, .b true), (1, oC q2)] [_, _, _, _, _, _, _, _, _] (by kernel_rfl) ⟨w1, q1, cI k1, cI k1, (w2 k1), cI k1, cI k1, (cI (Ae k2)), q2, trivial⟩
theorem rRdA {k n : Int} {s : BY} {is : List Val} {ns : BL} {x x2 : Src} (w1 : (x.2) = false → Runs lp 67 [P00, pI 8] (Ca x) (.agg (aR4 is k n ns s), [.row [[pS x2.1, pB x2.2]]])) (w2 : (x.2) = false → (x2.2) = false → Runs lp 26 [.agg (aR4 is k n ns s)] [] (pI (Dz (Val.mk k n s is ns)), [])) :
  Runs lp 48 [P00] (Ca x) (if (x.2) = true then ((.agg Eb, (Ca x))) else (if (x2.2) = true then ((.agg Eb, [.row [[pS x2.1, pB true]]])) else (if ((Dz (Val.mk k n s is ns)) == 0) = true then ((.agg (aR4 is k n ns s), [.row [[pS x2.1, pB x2.2]]])) else ((.agg Eb, [.row [[pS x2.1, pB true]]]))))) := by
 by_cases k1 : (x.2) = true
 ·refine Am k1 ?_
  exact
   rO [(5, .b true)] [_] (by kernel_rfl) ⟨cI k1, trivial⟩
 ·refine An k1 ?_
  replace k1 := Bool.eq_false_iff.2 k1
  by_cases k2 : (x2.2) = true
  ·refine Am k2 ?_
   exact
    rO [(5, .b false), (1, oC (w1 k1)), (7, .b true), (0, .b true), (0, .b true), (0, .b true)] [_, _, _, _, _, _] (by kernel_rfl) ⟨cI k1, (w1 k1), cI k2, cI k2, cI k2, cI k2, trivial⟩
  ·refine An k2 ?_
   replace k2 := Bool.eq_false_iff.2 k2
   by_cases k3 : ((Dz (Val.mk k n s is ns)) == 0) = true
   ·refine Am k3 ?_
    exact
     rO [(5, .b false), (1, oC (w1 k1)), (7, .b false), (1, .b false), (0, oC (w2 k1 k2)), (0, .b false), (1, .b false), (0, .b false)] [_, _, _, _, _, _, _, _] (by kernel_rfl) ⟨cI k1, (w1 k1), cI k2, cI k2, (w2 k1 k2), cI k2, cI k2, (cI (Ae k3)), trivial⟩
   ·refine An k3 ?_
    replace k3 := Bool.eq_false_iff.2 k3
    exact
     rO [(5, .b false), (1, oC (w1 k1)), (7, .b false), (1, .b false), (0, oC (w2 k1 k2)), (0, .b false), (1, .b false), (0, .b true)] [_, _, _, _, _, _, _, _] (by kernel_rfl) ⟨cI k1, (w1 k1), cI k2, cI k2, (w2 k1 k2), cI k2, cI k2, (cI (Ae k3)), trivial⟩
end Go.Proofs.Ytmbjojnldbeicaa
