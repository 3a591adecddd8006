import Derived.Test.YtegboccilfofmaaGreatLsAb
import Derived.Test.YtegboccilfofmaaGreatLsPth
import Derived.Test.YtegboccilfofmaaGreatLsG5
set_option linter.unusedVariables false
set_option maxRecDepth 100000
namespace Go.Proofs.YtegboccilfofmaaGreat
open Go Go.LS
theorem sNone0 {vk vn : Int} {vs : BY} {vi : List Val} {vns : BL}  :
  Runs lp 47 [.agg [pI vk, pI vn, pT vs, pV vi, pN vns]] [] (if (vk == 0) = true then (if (vn == 0) = true then (if (vs == []) = true then ((pB ((IntKind.wrap .i64 (((List.length (Ad vi) : Nat) : Int) + ((List.length (Ab vns) : Nat) : Int))) == 0), [])) else ((pB false, []))) else ((pB false, []))) else ((pB false, []))) := by
 by_cases k1 : (vk == 0) = true
 ·refine Ak k1 ?_
  by_cases k2 : (vn == 0) = true
  ·refine Ak k2 ?_
   by_cases k3 : (vs == []) = true
   ·refine Ak k3 ?_
    exact
     rO [(6, .b true), (1, .b true), (1, .b true), (1, .b true), (1, .b true), (1, .b true), (1, .b true), (1, .b true), (1, .b true), (1, .b true), (1, .b true), (1, .b true), (1, .b true), (1, .b true), (1, .b true), (1, .b true), (1, .b true)] [_, _, _, _, _, _, _, _, _, _, _, _, _, _, _, _, _] (by kernel_rfl) ⟨cI k1, cI k1, cI k1, cI k1, cI k2, cI k2, cI k2, cI k2, cI k3, cI k3, cI k3, cI k3, cI k3, cI k3, cI k3, cI k3, cI k3, trivial⟩
   ·refine Al k3 ?_
    replace k3 := Bool.eq_false_iff.2 k3
    exact
     rO [(6, .b true), (1, .b true), (1, .b true), (1, .b true), (1, .b true), (1, .b true), (1, .b true), (1, .b true), (1, .b false), (0, .b false), (0, .b false), (0, .b false), (0, .b false), (0, .b false), (0, .b false), (0, .b false), (0, .b false)] [_, _, _, _, _, _, _, _, _, _, _, _, _, _, _, _, _] (by kernel_rfl) ⟨cI k1, cI k1, cI k1, cI k1, cI k2, cI k2, cI k2, cI k2, cI k3, cI k3, cI k3, cI k3, cI k3, cI k3, cI k3, cI k3, cI k3, trivial⟩
  ·refine Al k2 ?_
   replace k2 := Bool.eq_false_iff.2 k2
   exact
    rO [(6, .b true), (1, .b true), (1, .b true), (1, .b true), (1, .b false), (0, .b false), (0, .b false), (0, .b false)] [_, _, _, _, _, _, _, _] (by kernel_rfl) ⟨cI k1, cI k1, cI k1, cI k1, cI k2, cI k2, cI k2, cI k2, trivial⟩
 ·refine Al k1 ?_
  replace k1 := Bool.eq_false_iff.2 k1
  exact
   rO [(6, .b false), (0, .b false), (0, .b false), (0, .b false)] [_, _, _, _] (by kernel_rfl) ⟨cI k1, cI k1, cI k1, cI k1, trivial⟩
theorem sMay0 {ok vk vn : Int} {vs : BY} {vi : List Val} {ps vns ts : BL} (w1 : Runs lp 54 [pN ps] [] (pB (Bl ps), [])) (w2 : (Bl ps) = true → (ok == 2) = true → Runs lp 47 [.agg [pI vk, pI vn, pT vs, pV vi, pN vns]] [] (pB (Bt (Val.mk vk vn vs vi vns)), [])) (w3 : (Bl ps) = true → (ok == 2) = false → (ok == 6) = true → Runs lp 47 [.agg [pI vk, pI vn, pT vs, pV vi, pN vns]] [] (pB (Bt (Val.mk vk vn vs vi vns)), [])) (w4 : (Bl ps) = true → (ok == 2) = false → (ok == 6) = true → (Bt (Val.mk vk vn vs vi vns)) = true → Runs lp 54 [pN ts] [] (pB (Bl ts), [])) (w5 : (Bl ps) = true → (ok == 2) = false → (ok == 6) = false → (ok == 3) = true → (vk == 3) = true → Runs lp 55 [.agg [pI vk, pI vn, pT vs, pV vi, pN vns]] [] (pI (Av (Val.mk vk vn vs vi vns)), [])) (w6 : (Bl ps) = true → (ok == 2) = false → (ok == 6) = false → (ok == 3) = false → (ok == 1) = true → Runs lp 55 [.agg [pI vk, pI vn, pT vs, pV vi, pN vns]] [] (pI (Av (Val.mk vk vn vs vi vns)), [])) (w7 : (Bl ps) = true → (ok == 2) = false → (ok == 6) = false → (ok == 3) = false → (ok == 1) = false → (ok == 4) = true → Runs lp 55 [.agg [pI vk, pI vn, pT vs, pV vi, pN vns]] [] (pI (Av (Val.mk vk vn vs vi vns)), [])) (w8 : (Bl ps) = true → (ok == 2) = false → (ok == 6) = false → (ok == 3) = false → (ok == 1) = false → (ok == 4) = false → (ok == 5) = true → Runs lp 55 [.agg [pI vk, pI vn, pT vs, pV vi, pN vns]] [] (pI (Av (Val.mk vk vn vs vi vns)), [])) (w9 : (Bl ps) = true → (ok == 2) = false → (ok == 6) = false → (ok == 3) = false → (ok == 1) = false → (ok == 4) = false → (ok == 5) = false → (ok == 7) = true → Runs lp 55 [.agg [pI vk, pI vn, pT vs, pV vi, pN vns]] [] (pI (Av (Val.mk vk vn vs vi vns)), [])) (w10 : (Bl ps) = true → (ok == 2) = false → (ok == 6) = false → (ok == 3) = false → (ok == 1) = false → (ok == 4) = false → (ok == 5) = false → (ok == 7) = false → (ok == 8) = true → Runs lp 55 [.agg [pI vk, pI vn, pT vs, pV vi, pN vns]] [] (pI (Av (Val.mk vk vn vs vi vns)), [])) :
  Runs lp 21 [.agg [pI ok, pN ps, pI vk, pI vn, pT vs, pV vi, pN vns, pN ts]] [] (if (Bl ps) = true then (if (ok == 2) = true then (if (Bt (Val.mk vk vn vs vi vns)) = true then ((pB (((List.length (Ab ts) : Nat) : Int) == 0), [])) else ((pB false, []))) else (if (ok == 6) = true then (if (Bt (Val.mk vk vn vs vi vns)) = true then ((pB (Bl ts), [])) else ((pB false, []))) else (if (ok == 3) = true then (if (vk == 3) = true then (if ((Av (Val.mk vk vn vs vi vns)) == 0) = true then ((pB (((List.length (Ab ts) : Nat) : Int) == 0), [])) else ((pB false, []))) else ((pB false, []))) else (if (ok == 1) = true then (if ((Av (Val.mk vk vn vs vi vns)) == 0) = true then ((pB (((List.length (Ab ts) : Nat) : Int) == 0), [])) else ((pB false, []))) else (if (ok == 4) = true then (if ((Av (Val.mk vk vn vs vi vns)) == 0) = true then ((pB (((List.length (Ab ts) : Nat) : Int) == 0), [])) else ((pB false, []))) else (if (ok == 5) = true then (if ((Av (Val.mk vk vn vs vi vns)) == 0) = true then ((pB (((List.length (Ab ts) : Nat) : Int) == 0), [])) else ((pB false, []))) else (if (ok == 7) = true then (if ((Av (Val.mk vk vn vs vi vns)) == 0) = true then ((pB (((List.length (Ab ts) : Nat) : Int) == 0), [])) else ((pB false, []))) else (if (ok == 8) = true then (if ((Av (Val.mk vk vn vs vi vns)) == 0) = true then ((pB (((List.length (Ab ts) : Nat) : Int) == 0), [])) else ((pB false, []))) else ((pB false, [])))))))))) else ((pB false, []))) := by
 by_cases k1 : (Bl ps) = true
 ·refine Ak k1 ?_
  by_cases k2 : (ok == 2) = true
  ·refine Ak k2 ?_
   by_cases k3 : (Bt (Val.mk vk vn vs vi vns)) = true
   ·refine Ak k3 ?_
    exact
     rO [(4, oC w1), (1, .b false), (4, .b true), (2, oC (w2 k1 k2)), (1, .b true), (1, .b true), (1, .b true), (1, .b true), (1, .b true)] [_, _, _, _, _, _, _, _, _] (by kernel_rfl) ⟨w1, (cI (Ae k1)), cI k2, (w2 k1 k2), cI k3, cI k3, cI k3, cI k3, cI k3, trivial⟩
   ·refine Al k3 ?_
    replace k3 := Bool.eq_false_iff.2 k3
    exact
     rO [(4, oC w1), (1, .b false), (4, .b true), (2, oC (w2 k1 k2)), (1, .b false), (0, .b false), (0, .b false), (0, .b false), (0, .b false)] [_, _, _, _, _, _, _, _, _] (by kernel_rfl) ⟨w1, (cI (Ae k1)), cI k2, (w2 k1 k2), cI k3, cI k3, cI k3, cI k3, cI k3, trivial⟩
  ·refine Al k2 ?_
   replace k2 := Bool.eq_false_iff.2 k2
   by_cases k3 : (ok == 6) = true
   ·refine Ak k3 ?_
    by_cases k4 : (Bt (Val.mk vk vn vs vi vns)) = true
    ·refine Ak k4 ?_
     exact
      rO [(4, oC w1), (1, .b false), (4, .b false), (2, .b true), (2, oC (w3 k1 k2 k3)), (1, .b true), (1, .b true), (1, .b true), (0, oC (w4 k1 k2 k3 k4)), (0, .b true)] [_, _, _, _, _, _, _, _, _, _] (by kernel_rfl) ⟨w1, (cI (Ae k1)), cI k2, cI k3, (w3 k1 k2 k3), cI k4, cI k4, cI k4, (w4 k1 k2 k3 k4), cI k4, trivial⟩
    ·refine Al k4 ?_
     replace k4 := Bool.eq_false_iff.2 k4
     exact
      rO [(4, oC w1), (1, .b false), (4, .b false), (2, .b true), (2, oC (w3 k1 k2 k3)), (1, .b false), (0, .b false), (0, .b false), (0, .b false)] [_, _, _, _, _, _, _, _, _] (by kernel_rfl) ⟨w1, (cI (Ae k1)), cI k2, cI k3, (w3 k1 k2 k3), cI k4, cI k4, cI k4, cI k4, trivial⟩
   ·refine Al k3 ?_
    replace k3 := Bool.eq_false_iff.2 k3
    by_cases k4 : (ok == 3) = true
    ·refine Ak k4 ?_
     by_cases k5 : (vk == 3) = true
     ·refine Ak k5 ?_
      by_cases k6 : ((Av (Val.mk vk vn vs vi vns)) == 0) = true
      ·refine Ak k6 ?_
       exact
        rO [(4, oC w1), (1, .b false), (4, .b false), (2, .b false), (2, .b true), (4, .b false), (2, oC (w5 k1 k2 k3 k4 k5)), (2, .b true), (1, .b true), (1, .b true), (1, .b true), (1, .b true)] [_, _, _, _, _, _, _, _, _, _, _, _] (by kernel_rfl) ⟨w1, (cI (Ae k1)), cI k2, cI k3, cI k4, (cI (Ae k5)), (w5 k1 k2 k3 k4 k5), cI k6, cI k6, cI k6, cI k6, cI k6, trivial⟩
      ·refine Al k6 ?_
       replace k6 := Bool.eq_false_iff.2 k6
       exact
        rO [(4, oC w1), (1, .b false), (4, .b false), (2, .b false), (2, .b true), (4, .b false), (2, oC (w5 k1 k2 k3 k4 k5)), (2, .b false), (0, .b false), (0, .b false), (0, .b false), (0, .b false)] [_, _, _, _, _, _, _, _, _, _, _, _] (by kernel_rfl) ⟨w1, (cI (Ae k1)), cI k2, cI k3, cI k4, (cI (Ae k5)), (w5 k1 k2 k3 k4 k5), cI k6, cI k6, cI k6, cI k6, cI k6, trivial⟩
     ·refine Al k5 ?_
      replace k5 := Bool.eq_false_iff.2 k5
      exact
       rO [(4, oC w1), (1, .b false), (4, .b false), (2, .b false), (2, .b true), (4, .b true)] [_, _, _, _, _, _] (by kernel_rfl) ⟨w1, (cI (Ae k1)), cI k2, cI k3, cI k4, (cI (Ae k5)), trivial⟩
    ·refine Al k4 ?_
     replace k4 := Bool.eq_false_iff.2 k4
     by_cases k5 : (ok == 1) = true
     ·refine Ak k5 ?_
      by_cases k6 : ((Av (Val.mk vk vn vs vi vns)) == 0) = true
      ·refine Ak k6 ?_
       exact
        rO [(4, oC w1), (1, .b false), (4, .b false), (2, .b false), (2, .b false), (2, .b true), (0, .b true), (2, oC (w6 k1 k2 k3 k4 k5)), (2, .b true), (1, .b true), (1, .b true), (1, .b true), (1, .b true)] [_, _, _, _, _, _, _, _, _, _, _, _, _] (by kernel_rfl) ⟨w1, (cI (Ae k1)), cI k2, cI k3, cI k4, cI k5, cI k5, (w6 k1 k2 k3 k4 k5), cI k6, cI k6, cI k6, cI k6, cI k6, trivial⟩
      ·refine Al k6 ?_
       replace k6 := Bool.eq_false_iff.2 k6
       exact
        rO [(4, oC w1), (1, .b false), (4, .b false), (2, .b false), (2, .b false), (2, .b true), (0, .b true), (2, oC (w6 k1 k2 k3 k4 k5)), (2, .b false), (0, .b false), (0, .b false), (0, .b false), (0, .b false)] [_, _, _, _, _, _, _, _, _, _, _, _, _] (by kernel_rfl) ⟨w1, (cI (Ae k1)), cI k2, cI k3, cI k4, cI k5, cI k5, (w6 k1 k2 k3 k4 k5), cI k6, cI k6, cI k6, cI k6, cI k6, trivial⟩
     ·refine Al k5 ?_
      replace k5 := Bool.eq_false_iff.2 k5
      by_cases k6 : (ok == 4) = true
      ·refine Ak k6 ?_
       by_cases k7 : ((Av (Val.mk vk vn vs vi vns)) == 0) = true
       ·refine Ak k7 ?_
        exact
         rO [(4, oC w1), (1, .b false), (4, .b false), (2, .b false), (2, .b false), (2, .b false), (2, .b true), (0, .b true), (2, oC (w7 k1 k2 k3 k4 k5 k6)), (2, .b true), (1, .b true), (1, .b true), (1, .b true), (1, .b true)] [_, _, _, _, _, _, _, _, _, _, _, _, _, _] (by kernel_rfl) ⟨w1, (cI (Ae k1)), cI k2, cI k3, cI k4, cI k5, cI k6, cI k6, (w7 k1 k2 k3 k4 k5 k6), cI k7, cI k7, cI k7, cI k7, cI k7, trivial⟩
       ·refine Al k7 ?_
        replace k7 := Bool.eq_false_iff.2 k7
        exact
         rO [(4, oC w1), (1, .b false), (4, .b false), (2, .b false), (2, .b false), (2, .b false), (2, .b true), (0, .b true), (2, oC (w7 k1 k2 k3 k4 k5 k6)), (2, .b false), (0, .b false), (0, .b false), (0, .b false), (0, .b false)] [_, _, _, _, _, _, _, _, _, _, _, _, _, _] (by kernel_rfl) ⟨w1, (cI (Ae k1)), cI k2, cI k3, cI k4, cI k5, cI k6, cI k6, (w7 k1 k2 k3 k4 k5 k6), cI k7, cI k7, cI k7, cI k7, cI k7, trivial⟩
      ·refine Al k6 ?_
       replace k6 := Bool.eq_false_iff.2 k6
       by_cases k7 : (ok == 5) = true
       ·refine Ak k7 ?_
        by_cases k8 : ((Av (Val.mk vk vn vs vi vns)) == 0) = true
        ·refine Ak k8 ?_
         exact
          rO [(4, oC w1), (1, .b false), (4, .b false), (2, .b false), (2, .b false), (2, .b false), (2, .b false), (2, .b true), (0, .b true), (2, oC (w8 k1 k2 k3 k4 k5 k6 k7)), (2, .b true), (1, .b true), (1, .b true), (1, .b true), (1, .b true)] [_, _, _, _, _, _, _, _, _, _, _, _, _, _, _] (by kernel_rfl) ⟨w1, (cI (Ae k1)), cI k2, cI k3, cI k4, cI k5, cI k6, cI k7, cI k7, (w8 k1 k2 k3 k4 k5 k6 k7), cI k8, cI k8, cI k8, cI k8, cI k8, trivial⟩
        ·refine Al k8 ?_
         replace k8 := Bool.eq_false_iff.2 k8
         exact
          rO [(4, oC w1), (1, .b false), (4, .b false), (2, .b false), (2, .b false), (2, .b false), (2, .b false), (2, .b true), (0, .b true), (2, oC (w8 k1 k2 k3 k4 k5 k6 k7)), (2, .b false), (0, .b false), (0, .b false), (0, .b false), (0, .b false)] [_, _, _, _, _, _, _, _, _, _, _, _, _, _, _] (by kernel_rfl) ⟨w1, (cI (Ae k1)), cI k2, cI k3, cI k4, cI k5, cI k6, cI k7, cI k7, (w8 k1 k2 k3 k4 k5 k6 k7), cI k8, cI k8, cI k8, cI k8, cI k8, trivial⟩
       ·refine Al k7 ?_
        replace k7 := Bool.eq_false_iff.2 k7
        by_cases k8 : (ok == 7) = true
        ·refine Ak k8 ?_
         by_cases k9 : ((Av (Val.mk vk vn vs vi vns)) == 0) = true
         ·refine Ak k9 ?_
          exact
           rO [(4, oC w1), (1, .b false), (4, .b false), (2, .b false), (2, .b false), (2, .b false), (2, .b false), (2, .b false), (2, .b true), (0, .b true), (2, oC (w9 k1 k2 k3 k4 k5 k6 k7 k8)), (2, .b true), (1, .b true), (1, .b true), (1, .b true), (1, .b true)] [_, _, _, _, _, _, _, _, _, _, _, _, _, _, _, _] (by kernel_rfl) ⟨w1, (cI (Ae k1)), cI k2, cI k3, cI k4, cI k5, cI k6, cI k7, cI k8, cI k8, (w9 k1 k2 k3 k4 k5 k6 k7 k8), cI k9, cI k9, cI k9, cI k9, cI k9, trivial⟩
         ·refine Al k9 ?_
          replace k9 := Bool.eq_false_iff.2 k9
          exact
           rO [(4, oC w1), (1, .b false), (4, .b false), (2, .b false), (2, .b false), (2, .b false), (2, .b false), (2, .b false), (2, .b true), (0, .b true), (2, oC (w9 k1 k2 k3 k4 k5 k6 k7 k8)), (2, .b false), (0, .b false), (0, .b false), (0, .b false), (0, .b false)] [_, _, _, _, _, _, _, _, _, _, _, _, _, _, _, _] (by kernel_rfl) ⟨w1, (cI (Ae k1)), cI k2, cI k3, cI k4, cI k5, cI k6, cI k7, cI k8, cI k8, (w9 k1 k2 k3 k4 k5 k6 k7 k8), cI k9, cI k9, cI k9, cI k9, cI k9, trivial⟩
        ·refine Al k8 ?_
         replace k8 := Bool.eq_false_iff.2 k8
         by_cases k9 : (ok == 8) = true
         ·refine Ak k9 ?_
          by_cases k10 : ((Av (Val.mk vk vn vs vi vns)) == 0) = true
          ·refine Ak k10 ?_
           exact
            rO [(4, oC w1), (1, .b false), (4, .b false), (2, .b false), (2, .b false), (2, .b false), (2, .b false), (2, .b false), (2, .b false), (2, .b true), (2, oC (w10 k1 k2 k3 k4 k5 k6 k7 k8 k9)), (2, .b true), (1, .b true), (1, .b true), (1, .b true), (1, .b true)] [_, _, _, _, _, _, _, _, _, _, _, _, _, _, _, _] (by kernel_rfl) ⟨w1, (cI (Ae k1)), cI k2, cI k3, cI k4, cI k5, cI k6, cI k7, cI k8, cI k9, (w10 k1 k2 k3 k4 k5 k6 k7 k8 k9), cI k10, cI k10, cI k10, cI k10, cI k10, trivial⟩
          ·refine Al k10 ?_
           replace k10 := Bool.eq_false_iff.2 k10
           exact
            rO [(4, oC w1), (1, .b false), (4, .b false), (2, .b false), (2, .b false), (2, .b false), (2, .b false), (2, .b false), (2, .b false), (2, .b true), (2, oC (w10 k1 k2 k3 k4 k5 k6 k7 k8 k9)), (2, .b false), (0, .b false), (0, .b false), (0, .b false), (0, .b false)] [_, _, _, _, _, _, _, _, _, _, _, _, _, _, _, _] (by kernel_rfl) ⟨w1, (cI (Ae k1)), cI k2, cI k3, cI k4, cI k5, cI k6, cI k7, cI k8, cI k9, (w10 k1 k2 k3 k4 k5 k6 k7 k8 k9), cI k10, cI k10, cI k10, cI k10, cI k10, trivial⟩
         ·refine Al k9 ?_
          replace k9 := Bool.eq_false_iff.2 k9
          exact
           rO [(4, oC w1), (1, .b false), (4, .b false), (2, .b false), (2, .b false), (2, .b false), (2, .b false), (2, .b false), (2, .b false), (2, .b false)] [_, _, _, _, _, _, _, _, _, _] (by kernel_rfl) ⟨w1, (cI (Ae k1)), cI k2, cI k3, cI k4, cI k5, cI k6, cI k7, cI k8, cI k9, trivial⟩
 ·refine Al k1 ?_
  replace k1 := Bool.eq_false_iff.2 k1
  exact
   rO [(4, oC w1), (1, .b true)] [_, _] (by kernel_rfl) ⟨w1, (cI (Ae k1)), trivial⟩
theorem rNone0 {vk vn : Int} {vs : BY} {vi : List Val} {vns : BL} (w1 : Runs lp 34 [.agg [pI vk, pI vn, pT vs, pV vi, pN vns], .agg [pI 0, pI 0, pT [], .p (.sl []), .p (.sl [])]] [] (pB (E5 (Val.mk vk vn vs vi vns) (Val.mk 0 0 [] [] [])), [])) :
  Runs lp 61 [.agg [pI vk, pI vn, pT vs, pV vi, pN vns]] [] ((pB (E5 (Val.mk vk vn vs vi vns) (Val.mk 0 0 [] [] [])), [])) := by
 exact
  rO [(4, oC w1)] [_] (by kernel_rfl) ⟨w1, trivial⟩
theorem rOpMay0 {ok vk vn : Int} {vs : BY} {vi : List Val} {ps vns ts : BL} (w1 : Runs lp 88 [pN ps] [] (pB (Bl ps), [])) (w2 : (Bl ps) = true → (ok == 2) = true → Runs lp 61 [.agg [pI vk, pI vn, pT vs, pV vi, pN vns]] [] (pB (Bt (Val.mk vk vn vs vi vns)), [])) (w3 : (Bl ps) = true → (ok == 2) = false → (ok == 6) = true → Runs lp 61 [.agg [pI vk, pI vn, pT vs, pV vi, pN vns]] [] (pB (Bt (Val.mk vk vn vs vi vns)), [])) (w4 : (Bl ps) = true → (ok == 2) = false → (ok == 6) = true → (Bt (Val.mk vk vn vs vi vns)) = true → Runs lp 88 [pN ts] [] (pB (Bl ts), [])) (w5 : (Bl ps) = true → (ok == 2) = false → (ok == 6) = false → (ok == 3) = true → (vk == 3) = true → Runs lp 60 [.agg [pI vk, pI vn, pT vs, pV vi, pN vns]] [] (pI (Av (Val.mk vk vn vs vi vns)), [])) (w6 : (Bl ps) = true → (ok == 2) = false → (ok == 6) = false → (ok == 3) = false → (ok == 1) = true → Runs lp 60 [.agg [pI vk, pI vn, pT vs, pV vi, pN vns]] [] (pI (Av (Val.mk vk vn vs vi vns)), [])) (w7 : (Bl ps) = true → (ok == 2) = false → (ok == 6) = false → (ok == 3) = false → (ok == 1) = false → (ok == 4) = true → Runs lp 60 [.agg [pI vk, pI vn, pT vs, pV vi, pN vns]] [] (pI (Av (Val.mk vk vn vs vi vns)), [])) (w8 : (Bl ps) = true → (ok == 2) = false → (ok == 6) = false → (ok == 3) = false → (ok == 1) = false → (ok == 4) = false → (ok == 5) = true → Runs lp 60 [.agg [pI vk, pI vn, pT vs, pV vi, pN vns]] [] (pI (Av (Val.mk vk vn vs vi vns)), [])) (w9 : (Bl ps) = true → (ok == 2) = false → (ok == 6) = false → (ok == 3) = false → (ok == 1) = false → (ok == 4) = false → (ok == 5) = false → (ok == 7) = true → Runs lp 60 [.agg [pI vk, pI vn, pT vs, pV vi, pN vns]] [] (pI (Av (Val.mk vk vn vs vi vns)), [])) (w10 : (Bl ps) = true → (ok == 2) = false → (ok == 6) = false → (ok == 3) = false → (ok == 1) = false → (ok == 4) = false → (ok == 5) = false → (ok == 7) = false → (ok == 8) = true → Runs lp 60 [.agg [pI vk, pI vn, pT vs, pV vi, pN vns]] [] (pI (Av (Val.mk vk vn vs vi vns)), [])) :
  Runs lp 62 [.agg [pI ok, pN ps, pI vk, pI vn, pT vs, pV vi, pN vns, pN ts]] [] (if (Bl ps) = true then (if (ok == 2) = true then (if (Bt (Val.mk vk vn vs vi vns)) = true then ((pB (((List.length (Ab ts) : Nat) : Int) == 0), [])) else ((pB false, []))) else (if (ok == 6) = true then (if (Bt (Val.mk vk vn vs vi vns)) = true then ((pB (Bl ts), [])) else ((pB false, []))) else (if (ok == 3) = true then (if (vk == 3) = true then (if ((Av (Val.mk vk vn vs vi vns)) == 0) = true then ((pB (((List.length (Ab ts) : Nat) : Int) == 0), [])) else ((pB false, []))) else ((pB false, []))) else (if (ok == 1) = true then (if ((Av (Val.mk vk vn vs vi vns)) == 0) = true then ((pB (((List.length (Ab ts) : Nat) : Int) == 0), [])) else ((pB false, []))) else (if (ok == 4) = true then (if ((Av (Val.mk vk vn vs vi vns)) == 0) = true then ((pB (((List.length (Ab ts) : Nat) : Int) == 0), [])) else ((pB false, []))) else (if (ok == 5) = true then (if ((Av (Val.mk vk vn vs vi vns)) == 0) = true then ((pB (((List.length (Ab ts) : Nat) : Int) == 0), [])) else ((pB false, []))) else (if (ok == 7) = true then (if ((Av (Val.mk vk vn vs vi vns)) == 0) = true then ((pB (((List.length (Ab ts) : Nat) : Int) == 0), [])) else ((pB false, []))) else (if (ok == 8) = true then (if ((Av (Val.mk vk vn vs vi vns)) == 0) = true then ((pB (((List.length (Ab ts) : Nat) : Int) == 0), [])) else ((pB false, []))) else ((pB false, [])))))))))) else ((pB false, []))) := by
 by_cases k1 : (Bl ps) = true
 ·refine Ak k1 ?_
  by_cases k2 : (ok == 2) = true
  ·refine Ak k2 ?_
   by_cases k3 : (Bt (Val.mk vk vn vs vi vns)) = true
   ·refine Ak k3 ?_
    exact
     rO [(4, oC w1), (1, .b false), (4, .b true), (2, oC (w2 k1 k2)), (1, .b true), (1, .b true), (1, .b true), (1, .b true), (1, .b true)] [_, _, _, _, _, _, _, _, _] (by kernel_rfl) ⟨w1, (cI (Ae k1)), cI k2, (w2 k1 k2), cI k3, cI k3, cI k3, cI k3, cI k3, trivial⟩
   ·refine Al k3 ?_
    replace k3 := Bool.eq_false_iff.2 k3
    exact
     rO [(4, oC w1), (1, .b false), (4, .b true), (2, oC (w2 k1 k2)), (1, .b false), (0, .b false), (0, .b false), (0, .b false), (0, .b false)] [_, _, _, _, _, _, _, _, _] (by kernel_rfl) ⟨w1, (cI (Ae k1)), cI k2, (w2 k1 k2), cI k3, cI k3, cI k3, cI k3, cI k3, trivial⟩
  ·refine Al k2 ?_
   replace k2 := Bool.eq_false_iff.2 k2
   by_cases k3 : (ok == 6) = true
   ·refine Ak k3 ?_
    by_cases k4 : (Bt (Val.mk vk vn vs vi vns)) = true
    ·refine Ak k4 ?_
     exact
      rO [(4, oC w1), (1, .b false), (4, .b false), (2, .b true), (2, oC (w3 k1 k2 k3)), (1, .b true), (1, .b true), (1, .b true), (0, oC (w4 k1 k2 k3 k4)), (0, .b true)] [_, _, _, _, _, _, _, _, _, _] (by kernel_rfl) ⟨w1, (cI (Ae k1)), cI k2, cI k3, (w3 k1 k2 k3), cI k4, cI k4, cI k4, (w4 k1 k2 k3 k4), cI k4, trivial⟩
    ·refine Al k4 ?_
     replace k4 := Bool.eq_false_iff.2 k4
     exact
      rO [(4, oC w1), (1, .b false), (4, .b false), (2, .b true), (2, oC (w3 k1 k2 k3)), (1, .b false), (0, .b false), (0, .b false), (0, .b false)] [_, _, _, _, _, _, _, _, _] (by kernel_rfl) ⟨w1, (cI (Ae k1)), cI k2, cI k3, (w3 k1 k2 k3), cI k4, cI k4, cI k4, cI k4, trivial⟩
   ·refine Al k3 ?_
    replace k3 := Bool.eq_false_iff.2 k3
    by_cases k4 : (ok == 3) = true
    ·refine Ak k4 ?_
     by_cases k5 : (vk == 3) = true
     ·refine Ak k5 ?_
      by_cases k6 : ((Av (Val.mk vk vn vs vi vns)) == 0) = true
      ·refine Ak k6 ?_
       exact
        rO [(4, oC w1), (1, .b false), (4, .b false), (2, .b false), (2, .b true), (5, .b true), (1, .b true), (1, .b true), (0, oC (w5 k1 k2 k3 k4 k5)), (0, .b true), (1, .b true), (1, .b true), (1, .b true), (1, .b true), (1, .b true), (1, .b true)] [_, _, _, _, _, _, _, _, _, _, _, _, _, _, _, _] (by kernel_rfl) ⟨w1, (cI (Ae k1)), cI k2, cI k3, cI k4, cI k5, cI k5, cI k5, (w5 k1 k2 k3 k4 k5), cI k5, cI k5, cI k6, cI k6, cI k6, cI k6, cI k6, trivial⟩
      ·refine Al k6 ?_
       replace k6 := Bool.eq_false_iff.2 k6
       exact
        rO [(4, oC w1), (1, .b false), (4, .b false), (2, .b false), (2, .b true), (5, .b true), (1, .b true), (1, .b true), (0, oC (w5 k1 k2 k3 k4 k5)), (0, .b true), (1, .b true), (1, .b false), (0, .b false), (0, .b false), (0, .b false), (0, .b false)] [_, _, _, _, _, _, _, _, _, _, _, _, _, _, _, _] (by kernel_rfl) ⟨w1, (cI (Ae k1)), cI k2, cI k3, cI k4, cI k5, cI k5, cI k5, (w5 k1 k2 k3 k4 k5), cI k5, cI k5, cI k6, cI k6, cI k6, cI k6, cI k6, trivial⟩
     ·refine Al k5 ?_
      replace k5 := Bool.eq_false_iff.2 k5
      exact
       rO [(4, oC w1), (1, .b false), (4, .b false), (2, .b false), (2, .b true), (5, .b false), (0, .b false), (0, .b false), (0, .b false), (0, .b false)] [_, _, _, _, _, _, _, _, _, _] (by kernel_rfl) ⟨w1, (cI (Ae k1)), cI k2, cI k3, cI k4, cI k5, cI k5, cI k5, cI k5, cI k5, trivial⟩
    ·refine Al k4 ?_
     replace k4 := Bool.eq_false_iff.2 k4
     by_cases k5 : (ok == 1) = true
     ·refine Ak k5 ?_
      by_cases k6 : ((Av (Val.mk vk vn vs vi vns)) == 0) = true
      ·refine Ak k6 ?_
       exact
        rO [(4, oC w1), (1, .b false), (4, .b false), (2, .b false), (2, .b false), (2, .b true), (0, .b true), (2, oC (w6 k1 k2 k3 k4 k5)), (2, .b true), (1, .b true), (1, .b true), (1, .b true), (1, .b true)] [_, _, _, _, _, _, _, _, _, _, _, _, _] (by kernel_rfl) ⟨w1, (cI (Ae k1)), cI k2, cI k3, cI k4, cI k5, cI k5, (w6 k1 k2 k3 k4 k5), cI k6, cI k6, cI k6, cI k6, cI k6, trivial⟩
      ·refine Al k6 ?_
       replace k6 := Bool.eq_false_iff.2 k6
       exact
        rO [(4, oC w1), (1, .b false), (4, .b false), (2, .b false), (2, .b false), (2, .b true), (0, .b true), (2, oC (w6 k1 k2 k3 k4 k5)), (2, .b false), (0, .b false), (0, .b false), (0, .b false), (0, .b false)] [_, _, _, _, _, _, _, _, _, _, _, _, _] (by kernel_rfl) ⟨w1, (cI (Ae k1)), cI k2, cI k3, cI k4, cI k5, cI k5, (w6 k1 k2 k3 k4 k5), cI k6, cI k6, cI k6, cI k6, cI k6, trivial⟩
     ·refine Al k5 ?_
      replace k5 := Bool.eq_false_iff.2 k5
      by_cases k6 : (ok == 4) = true
      ·refine Ak k6 ?_
       by_cases k7 : ((Av (Val.mk vk vn vs vi vns)) == 0) = true
       ·refine Ak k7 ?_
        exact
         rO [(4, oC w1), (1, .b false), (4, .b false), (2, .b false), (2, .b false), (2, .b false), (2, .b true), (0, .b true), (2, oC (w7 k1 k2 k3 k4 k5 k6)), (2, .b true), (1, .b true), (1, .b true), (1, .b true), (1, .b true)] [_, _, _, _, _, _, _, _, _, _, _, _, _, _] (by kernel_rfl) ⟨w1, (cI (Ae k1)), cI k2, cI k3, cI k4, cI k5, cI k6, cI k6, (w7 k1 k2 k3 k4 k5 k6), cI k7, cI k7, cI k7, cI k7, cI k7, trivial⟩
       ·refine Al k7 ?_
        replace k7 := Bool.eq_false_iff.2 k7
        exact
         rO [(4, oC w1), (1, .b false), (4, .b false), (2, .b false), (2, .b false), (2, .b false), (2, .b true), (0, .b true), (2, oC (w7 k1 k2 k3 k4 k5 k6)), (2, .b false), (0, .b false), (0, .b false), (0, .b false), (0, .b false)] [_, _, _, _, _, _, _, _, _, _, _, _, _, _] (by kernel_rfl) ⟨w1, (cI (Ae k1)), cI k2, cI k3, cI k4, cI k5, cI k6, cI k6, (w7 k1 k2 k3 k4 k5 k6), cI k7, cI k7, cI k7, cI k7, cI k7, trivial⟩
      ·refine Al k6 ?_
       replace k6 := Bool.eq_false_iff.2 k6
       by_cases k7 : (ok == 5) = true
       ·refine Ak k7 ?_
        by_cases k8 : ((Av (Val.mk vk vn vs vi vns)) == 0) = true
        ·refine Ak k8 ?_
         exact
          rO [(4, oC w1), (1, .b false), (4, .b false), (2, .b false), (2, .b false), (2, .b false), (2, .b false), (2, .b true), (0, .b true), (2, oC (w8 k1 k2 k3 k4 k5 k6 k7)), (2, .b true), (1, .b true), (1, .b true), (1, .b true), (1, .b true)] [_, _, _, _, _, _, _, _, _, _, _, _, _, _, _] (by kernel_rfl) ⟨w1, (cI (Ae k1)), cI k2, cI k3, cI k4, cI k5, cI k6, cI k7, cI k7, (w8 k1 k2 k3 k4 k5 k6 k7), cI k8, cI k8, cI k8, cI k8, cI k8, trivial⟩
        ·refine Al k8 ?_
         replace k8 := Bool.eq_false_iff.2 k8
         exact
          rO [(4, oC w1), (1, .b false), (4, .b false), (2, .b false), (2, .b false), (2, .b false), (2, .b false), (2, .b true), (0, .b true), (2, oC (w8 k1 k2 k3 k4 k5 k6 k7)), (2, .b false), (0, .b false), (0, .b false), (0, .b false), (0, .b false)] [_, _, _, _, _, _, _, _, _, _, _, _, _, _, _] (by kernel_rfl) ⟨w1, (cI (Ae k1)), cI k2, cI k3, cI k4, cI k5, cI k6, cI k7, cI k7, (w8 k1 k2 k3 k4 k5 k6 k7), cI k8, cI k8, cI k8, cI k8, cI k8, trivial⟩
       ·refine Al k7 ?_
        replace k7 := Bool.eq_false_iff.2 k7
        by_cases k8 : (ok == 7) = true
        ·refine Ak k8 ?_
         by_cases k9 : ((Av (Val.mk vk vn vs vi vns)) == 0) = true
         ·refine Ak k9 ?_
          exact
           rO [(4, oC w1), (1, .b false), (4, .b false), (2, .b false), (2, .b false), (2, .b false), (2, .b false), (2, .b false), (2, .b true), (0, .b true), (2, oC (w9 k1 k2 k3 k4 k5 k6 k7 k8)), (2, .b true), (1, .b true), (1, .b true), (1, .b true), (1, .b true)] [_, _, _, _, _, _, _, _, _, _, _, _, _, _, _, _] (by kernel_rfl) ⟨w1, (cI (Ae k1)), cI k2, cI k3, cI k4, cI k5, cI k6, cI k7, cI k8, cI k8, (w9 k1 k2 k3 k4 k5 k6 k7 k8), cI k9, cI k9, cI k9, cI k9, cI k9, trivial⟩
         ·refine Al k9 ?_
          replace k9 := Bool.eq_false_iff.2 k9
          exact
           rO [(4, oC w1), (1, .b false), (4, .b false), (2, .b false), (2, .b false), (2, .b false), (2, .b false), (2, .b false), (2, .b true), (0, .b true), (2, oC (w9 k1 k2 k3 k4 k5 k6 k7 k8)), (2, .b false), (0, .b false), (0, .b false), (0, .b false), (0, .b false)] [_, _, _, _, _, _, _, _, _, _, _, _, _, _, _, _] (by kernel_rfl) ⟨w1, (cI (Ae k1)), cI k2, cI k3, cI k4, cI k5, cI k6, cI k7, cI k8, cI k8, (w9 k1 k2 k3 k4 k5 k6 k7 k8), cI k9, cI k9, cI k9, cI k9, cI k9, trivial⟩
        ·refine Al k8 ?_
         replace k8 := Bool.eq_false_iff.2 k8
         by_cases k9 : (ok == 8) = true
         ·refine Ak k9 ?_
          by_cases k10 : ((Av (Val.mk vk vn vs vi vns)) == 0) = true
          ·refine Ak k10 ?_
           exact
            rO [(4, oC w1), (1, .b false), (4, .b false), (2, .b false), (2, .b false), (2, .b false), (2, .b false), (2, .b false), (2, .b false), (2, .b true), (2, oC (w10 k1 k2 k3 k4 k5 k6 k7 k8 k9)), (2, .b true), (1, .b true), (1, .b true), (1, .b true), (1, .b true)] [_, _, _, _, _, _, _, _, _, _, _, _, _, _, _, _] (by kernel_rfl) ⟨w1, (cI (Ae k1)), cI k2, cI k3, cI k4, cI k5, cI k6, cI k7, cI k8, cI k9, (w10 k1 k2 k3 k4 k5 k6 k7 k8 k9), cI k10, cI k10, cI k10, cI k10, cI k10, trivial⟩
          ·refine Al k10 ?_
           replace k10 := Bool.eq_false_iff.2 k10
           exact
            rO [(4, oC w1), (1, .b false), (4, .b false), (2, .b false), (2, .b false), (2, .b false), (2, .b false), (2, .b false), (2, .b false), (2, .b true), (2, oC (w10 k1 k2 k3 k4 k5 k6 k7 k8 k9)), (2, .b false), (0, .b false), (0, .b false), (0, .b false), (0, .b false)] [_, _, _, _, _, _, _, _, _, _, _, _, _, _, _, _] (by kernel_rfl) ⟨w1, (cI (Ae k1)), cI k2, cI k3, cI k4, cI k5, cI k6, cI k7, cI k8, cI k9, (w10 k1 k2 k3 k4 k5 k6 k7 k8 k9), cI k10, cI k10, cI k10, cI k10, cI k10, trivial⟩
         ·refine Al k9 ?_
          replace k9 := Bool.eq_false_iff.2 k9
          exact
           rO [(4, oC w1), (1, .b false), (4, .b false), (2, .b false), (2, .b false), (2, .b false), (2, .b false), (2, .b false), (2, .b false), (2, .b false)] [_, _, _, _, _, _, _, _, _, _] (by kernel_rfl) ⟨w1, (cI (Ae k1)), cI k2, cI k3, cI k4, cI k5, cI k6, cI k7, cI k8, cI k9, trivial⟩
 ·refine Al k1 ?_
  replace k1 := Bool.eq_false_iff.2 k1
  exact
   rO [(4, oC w1), (1, .b true)] [_, _] (by kernel_rfl) ⟨w1, (cI (Ae k1)), trivial⟩
end Go.Proofs.YtegboccilfofmaaGreat
