import Derived.Test.YtmbjojnldbeicaaLsAb
import Derived.Test.YtmbjojnldbeicaaLsCod4
set_option linter.unusedVariables false
set_option linter.unusedSimpArgs false
set_option maxRecDepth 100000
namespace Go.Proofs.Ytmbjojnldbeicaa
open Go Go.LS
theorem vRdA {k n : Int} {s : BY} {is : List Val} {ns : BL} {x x2 : Src} (w1 : Runs lp 77 [P00, pI 8] [.row [[pS x.1, pB x.2]]] (.agg (aR1 is k n ns s), [.row [[pS x2.1, pB x2.2]]])) (w2 : (x2.2) = false → Runs lp 33 [.agg (aR1 is k n ns s)] [] (pI (Bp (Val.mk k n s is ns)), [])) :
  Runs lp 62 [P00] [.row [[pS x.1, pB x.2]]] (if (x2.2) = true then ((.agg [pI 0, pI 0, pT [], .p (.sl []), .p (.sl [])], [.row [[pS x2.1, pB true]]])) else (if ((Bp (Val.mk k n s is ns)) == 0) = true then ((.agg (aR1 is k n ns s), [.row [[pS x2.1, pB x2.2]]])) else ((.agg [pI 0, pI 0, pT [], .p (.sl []), .p (.sl [])], [.row [[pS x2.1, pB true]]])))) := by
 by_cases k1 : (x2.2) = true
 ·refine Aw k1 ?_
  exact
   have q1 : Runs lp 23 [P00] [.row [[pS x2.1, pB x2.2]]] (pB x2.2, [.row [[pS x2.1, pB x2.2]]]) := (Ko x2)
   have q2 : Runs lp 40 [P00] [.row [[pS x2.1, pB x2.2]]] (.tup [], [.row [[pS x2.1, pB true]]]) := (Ln x2)
   rO [(2, oC w1), (3, oC q1), (1, .b true), (0, .b true), (0, .b true), (0, .b true), (2, oC q2)] [_, _, _, _, _, _, _] (by kernel_rfl) ⟨w1, q1, cI k1, cI k1, cI k1, cI k1, q2, trivial⟩
 ·refine Ax k1 ?_
  replace k1 := Bool.eq_false_iff.2 k1
  by_cases k2 : ((Bp (Val.mk k n s is ns)) == 0) = true
  ·refine Aw k2 ?_
   exact
    have q1 : Runs lp 23 [P00] [.row [[pS x2.1, pB x2.2]]] (pB x2.2, [.row [[pS x2.1, pB x2.2]]]) := (Ko x2)
    rO [(2, oC w1), (3, oC q1), (1, .b false), (1, .b false), (0, oC (w2 k1)), (0, .b false), (1, .b false), (0, .b false)] [_, _, _, _, _, _, _, _] (by kernel_rfl) ⟨w1, q1, cI k1, cI k1, (w2 k1), cI k1, cI k1, (cI (Ah k2)), trivial⟩
  ·refine Ax k2 ?_
   replace k2 := Bool.eq_false_iff.2 k2
   exact
    have q1 : Runs lp 23 [P00] [.row [[pS x2.1, pB x2.2]]] (pB x2.2, [.row [[pS x2.1, pB x2.2]]]) := (Ko x2)
    have q2 : Runs lp 40 [P00] [.row [[pS x2.1, pB x2.2]]] (.tup [], [.row [[pS x2.1, pB true]]]) := (Ln x2)
    rO [(2, oC w1), (3, oC q1), (1, .b false), (1, .b false), (0, oC (w2 k1)), (0, .b false), (1, .b false), (0, .b true), (1, oC q2)] [_, _, _, _, _, _, _, _, _] (by kernel_rfl) ⟨w1, q1, cI k1, cI k1, (w2 k1), cI k1, cI k1, (cI (Ah k2)), q2, trivial⟩
theorem vClB {L : BY} (w1 : L ≠ []) (w2 : List.length (α := UInt8) [] + List.length L ≤ 200000000000000) :
  Runs lp 57 [pS L] [] ((.sl (bs (([] : BY) ++ L)) 0 (List.length (([] : BY) ++ L)), [.spare 1 (List.length (([] : BY) ++ L))])) := by
 exact
  have q1 : OpE [] (.nileq false .slice (.const (pS L))) (pB false) := (Um w1)
  have q2 : OpW [] (.append false 1 1 (.const (.tight [])) (.const (pS L))) (.sl (bs (([] : BY) ++ L)) 0 (List.length (([] : BY) ++ L))) [.spare 1 (List.length (([] : BY) ++ L))] := (Fg rfl rfl rfl w1 w2)
  rO [(2, oO q1), (3, oO q2)] [_, _] (by kernel_rfl) ⟨q1, q2, trivial⟩
theorem vPuA {k n : Int} {s : BY} {is : List Val} {ns : BL} {L : BY} (w1 : L ≠ []) (w2 : Runs lp 57 [pS L] [] (.sl (bs L) 0 (List.length L), [.spare 1 (List.length L)])) (w3 : Runs lp 33 [.agg (aR1 is k n ns s)] [] (pI (Bp (Val.mk k n s is ns)), [])) (w4 : ((Bp (Val.mk k n s is ns)) == 0) = true → Runs lp 58 [.sl (bs L) 0 (List.length L), .agg (aR1 is k n ns s)] [.spare 1 (List.length L)] (.sl (bs (L ++ Bu (Val.mk k n s is ns))) 0 (List.length (L ++ Bu (Val.mk k n s is ns))), [.spare 1 (List.length (L ++ Bu (Val.mk k n s is ns)))])) :
  Runs lp 38 [pS L, .agg (aR1 is k n ns s)] [] (if ((Bp (Val.mk k n s is ns)) == 0) = true then ((.sl (bs (L ++ Bu (Val.mk k n s is ns))) 0 (List.length (L ++ Bu (Val.mk k n s is ns))), [.spare 1 (List.length (L ++ Bu (Val.mk k n s is ns)))])) else ((.sl (bs L) 0 (List.length L), [.spare 1 (List.length L)]))) := by
 by_cases k1 : ((Bp (Val.mk k n s is ns)) == 0) = true
 ·refine Aw k1 ?_
  exact
   rO [(3, oC w2), (2, oC w3), (1, .b false), (2, oC (w4 k1))] [_, _, _, _] (by kernel_rfl) ⟨w2, w3, (cI (Ah k1)), (w4 k1), trivial⟩
 ·refine Ax k1 ?_
  replace k1 := Bool.eq_false_iff.2 k1
  exact
   rO [(3, oC w2), (2, oC w3), (1, .b true)] [_, _, _] (by kernel_rfl) ⟨w2, w3, (cI (Ah k1)), trivial⟩
end Go.Proofs.Ytmbjojnldbeicaa
