import Derived.Test.YtmbjojnldbeicaaLsCod4
set_option linter.unusedVariables false
set_option linter.unusedSimpArgs false
set_option maxRecDepth 100000
namespace Go.Proofs.Ytmbjojnldbeicaa
open Go Go.LS
theorem vClB {L : List UInt8} (w1 : L ≠ []) (w2 : List.length (α := UInt8) [] + List.length (α := UInt8) L ≤ 200000000000000) :
    Runs lp 57 [.p (.sl (bs L))] [] ((.sl (bs (([] : List UInt8) ++ L)) 0 (List.length (([] : List UInt8) ++ L)), [.spare 1 (List.length (([] : List UInt8) ++ L))])) := by
  exact
    have q1 : OpW [] (.nileq false .slice (.const (.p (.sl (bs L))))) (.p (.bool false)) [] := (opIs_nileq w1)
    have q2 : OpW [] (.append false 1 1 (.const (.tight [])) (.const (.p (.sl (bs L))))) (.sl (bs (([] : List UInt8) ++ L)) 0 (List.length (([] : List UInt8) ++ L))) [.spare 1 (List.length (([] : List UInt8) ++ L))] := (opIs_appT rfl rfl rfl w1 w2)
    runO_sound (N := 100) (os := [(2, oO q1), (3, oO q2)]) (ps := [_, _]) (by kernel_rfl) ⟨q1, q2, trivial⟩
theorem vPuA {k n : Int} {s : List UInt8} {is : List Val} {ns : List (List UInt8)} {L : List UInt8} (w1 : L ≠ []) (w2 : Runs lp 57 [.p (.sl (bs L))] [] (.sl (bs L) 0 (List.length L), [.spare 1 (List.length L)])) (w3 : Runs lp 33 [.agg [.p (.int .i64 k), .p (.int .i64 n), .p (.str s), .p (.sl (rowsV is)), .p (.sl (rowsN ns))]] [] (.p (.int .i64 (checkV (Val.mk k n s is ns))), [])) (w4 : ((checkV (Val.mk k n s is ns)) == 0) = true → Runs lp 58 [.sl (bs L) 0 (List.length L), .agg [.p (.int .i64 k), .p (.int .i64 n), .p (.str s), .p (.sl (rowsV is)), .p (.sl (rowsN ns))]] [.spare 1 (List.length L)] (.sl (bs (L ++ encC (Val.mk k n s is ns))) 0 (List.length (L ++ encC (Val.mk k n s is ns))), [.spare 1 (List.length (L ++ encC (Val.mk k n s is ns)))])) :
    Runs lp 38 [.p (.sl (bs L)), .agg [.p (.int .i64 k), .p (.int .i64 n), .p (.str s), .p (.sl (rowsV is)), .p (.sl (rowsN ns))]] [] (if ((checkV (Val.mk k n s is ns)) == 0) = true then ((.sl (bs (L ++ encC (Val.mk k n s is ns))) 0 (List.length (L ++ encC (Val.mk k n s is ns))), [.spare 1 (List.length (L ++ encC (Val.mk k n s is ns)))])) else ((.sl (bs L) 0 (List.length L), [.spare 1 (List.length L)]))) := by
  by_cases k1 : ((checkV (Val.mk k n s is ns)) == 0) = true
  · refine iteRP k1 ?_
    exact
      runO_sound (N := 100) (os := [(3, oC w2), (2, oC w3), (1, .b false), (2, oC (w4 k1))]) (ps := [_, _, _, _]) (by kernel_rfl) ⟨w2, w3, (cI (notI k1)), (w4 k1), trivial⟩
  · refine iteRN k1 ?_
    replace k1 := Bool.eq_false_iff.2 k1
    exact
      runO_sound (N := 100) (os := [(3, oC w2), (2, oC w3), (1, .b true)]) (ps := [_, _, _]) (by kernel_rfl) ⟨w2, w3, (cI (notI k1)), trivial⟩
end Go.Proofs.Ytmbjojnldbeicaa
