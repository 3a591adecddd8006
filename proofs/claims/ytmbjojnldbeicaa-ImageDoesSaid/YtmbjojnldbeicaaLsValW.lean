import Derived.Test.YtmbjojnldbeicaaLsAb
import Derived.Test.YtmbjojnldbeicaaLsCodes2
import Derived.Test.YtmbjojnldbeicaaLsNm2
import Derived.Test.YtmbjojnldbeicaaLsG5
set_option linter.unusedVariables false
set_option linter.unusedSimpArgs false
set_option maxRecDepth 100000
namespace Go.Proofs.Ytmbjojnldbeicaa
open Go Go.LS
theorem rMayI_yy {k n : Int} {s : BY} {is : List Val} {ns : BL} {i : Nat} (ke ne : Int) (se : BY) (ise : List Val) (nse : BL) (c1 : (decide ((i : Int) < ((List.length (Ad is) : Nat) : Int))) = true) (h2 : is[i]? = some (Val.mk ke ne se ise nse)) (h3 : Runs lp 49 [.agg [pI ke, pI ne, pT se, pV ise, pN nse]] [] (pB (Ce (Val.mk ke ne se ise nse)), [])) (c4 : (Ce (Val.mk ke ne se ise nse)) = true) {r : RL} (hr : LoopN lp 0 (Ae H2 0) (tl 0 146 [(1, P00), (3, pI (IntKind.wrap .i64 ((i : Int) + 1)))]) [.row [(aR1 is k n ns s)]] r) :
  LoopN lp 0 (Ae H2 0) (tl 0 146 [(1, P00), (3, pI (i : Int))]) [.row [(aR1 is k n ns s)]] r :=
 have q1 : OpE [.row [(aR1 is k n ns s)]] (.indexAddr 5 (.const (pV is)) (.const (pI (i : Int)))) (.pin [.int .i64 ke, .int .i64 ne, .str se, .sl (Ad ise), .sl (Ak nse)] 0) := (At rfl rfl (Ca h2) rfl)
 lO [(5, .b true), (3, oO q1), (1, oC h3), (1, .b false)] [_, _, _, _] (by kernel_rfl) ⟨cI c1, q1, h3, (cI (Ah c4)), trivial⟩ hr
theorem rMayI_yn {k n : Int} {s : BY} {is : List Val} {ns : BL} {i : Nat} (ke ne : Int) (se : BY) (ise : List Val) (nse : BL) (c1 : (decide ((i : Int) < ((List.length (Ad is) : Nat) : Int))) = true) (h2 : is[i]? = some (Val.mk ke ne se ise nse)) (h3 : Runs lp 49 [.agg [pI ke, pI ne, pT se, pV ise, pN nse]] [] (pB (Ce (Val.mk ke ne se ise nse)), [])) (c4 : (Ce (Val.mk ke ne se ise nse)) = false) :
  LoopN lp 0 (Ae H2 0) (tl 0 146 [(1, P00), (3, pI (i : Int))]) [.row [(aR1 is k n ns s)]] (.ret, (tl 0 146 [(2, pB false)]), [.row [(aR1 is k n ns s)]]) :=
 have q1 : OpE [.row [(aR1 is k n ns s)]] (.indexAddr 5 (.const (pV is)) (.const (pI (i : Int)))) (.pin [.int .i64 ke, .int .i64 ne, .str se, .sl (Ad ise), .sl (Ak nse)] 0) := (At rfl rfl (Ca h2) rfl)
 lX [(5, .b true), (3, oO q1), (1, oC h3), (1, .b true)] [_, _, _, _] (by kernel_rfl) (by kernel_rfl) ⟨cI c1, q1, h3, (cI (Ah c4)), trivial⟩
theorem rMayI_n {k n : Int} {s : BY} {is : List Val} {ns : BL} {i : Nat} (c1 : (decide ((i : Int) < ((List.length (Ad is) : Nat) : Int))) = false) :
  LoopN lp 0 (Ae H2 0) (tl 0 146 [(1, P00), (3, pI (i : Int))]) [.row [(aR1 is k n ns s)]] (.exit 0, (tl 0 146 [(1, P00)]), [.row [(aR1 is k n ns s)]]) :=
 lX [(5, .b false)] [_] (by kernel_rfl) (by kernel_rfl) ⟨cI c1, trivial⟩
theorem rMayN_yy {k n : Int} {s : BY} {is : List Val} {ns : BL} {i : Nat} (c1 : (decide ((i : Int) < ((List.length (Ak ns) : Nat) : Int))) = true) (h2 : i < List.length ns) (h3 : Runs lp 68 [pT (List.getD (α := BY) ns i [])] [] (pB (B3 (List.getD (α := BY) ns i [])), [])) (c4 : (B3 (List.getD (α := BY) ns i [])) = true) {r : RL} (hr : LoopN lp 0 (Ae H2 1) (tl 0 146 [(1, P00), (4, pI (IntKind.wrap .i64 ((i : Int) + 1)))]) [.row [(aR1 is k n ns s)]] r) :
  LoopN lp 0 (Ae H2 1) (tl 0 146 [(1, P00), (4, pI (i : Int))]) [.row [(aR1 is k n ns s)]] r :=
 have q1 : OpE [.row [(aR1 is k n ns s)]] (.indexAddr 1 (.const (pN ns)) (.const (pI (i : Int)))) (.pin [.str (List.getD (α := BY) ns i [])] 0) := (At rfl rfl (Cn h2) rfl)
 lO [(5, .b true), (3, oO q1), (1, oC h3), (1, .b false)] [_, _, _, _] (by kernel_rfl) ⟨cI c1, q1, h3, (cI (Ah c4)), trivial⟩ hr
theorem rMayN_yn {k n : Int} {s : BY} {is : List Val} {ns : BL} {i : Nat} (c1 : (decide ((i : Int) < ((List.length (Ak ns) : Nat) : Int))) = true) (h2 : i < List.length ns) (h3 : Runs lp 68 [pT (List.getD (α := BY) ns i [])] [] (pB (B3 (List.getD (α := BY) ns i [])), [])) (c4 : (B3 (List.getD (α := BY) ns i [])) = false) :
  LoopN lp 0 (Ae H2 1) (tl 0 146 [(1, P00), (4, pI (i : Int))]) [.row [(aR1 is k n ns s)]] (.ret, (tl 0 146 [(2, pB false)]), [.row [(aR1 is k n ns s)]]) :=
 have q1 : OpE [.row [(aR1 is k n ns s)]] (.indexAddr 1 (.const (pN ns)) (.const (pI (i : Int)))) (.pin [.str (List.getD (α := BY) ns i [])] 0) := (At rfl rfl (Cn h2) rfl)
 lX [(5, .b true), (3, oO q1), (1, oC h3), (1, .b true)] [_, _, _, _] (by kernel_rfl) (by kernel_rfl) ⟨cI c1, q1, h3, (cI (Ah c4)), trivial⟩
theorem rMayN_n {k n : Int} {s : BY} {is : List Val} {ns : BL} {i : Nat} (c1 : (decide ((i : Int) < ((List.length (Ak ns) : Nat) : Int))) = false) :
  LoopN lp 0 (Ae H2 1) (tl 0 146 [(1, P00), (4, pI (i : Int))]) [.row [(aR1 is k n ns s)]] (.exit 2, (tl 0 146 [(1, P00)]), [.row [(aR1 is k n ns s)]]) :=
 lX [(5, .b false)] [_] (by kernel_rfl) (by kernel_rfl) ⟨cI c1, trivial⟩
theorem rMay0 {k n : Int} {s : BY} {is : List Val} {ns : BL} (w1 : (B7 is) = true → LoopN lp 0 (Ae H2 0) (tl 0 146 [(1, P00), (3, pI 0)]) [.row [(aR1 is k n ns s)]] (.exit 0, (tl 0 146 [(1, P00)]), [.row [(aR1 is k n ns s)]])) (w2 : (B7 is) = true → (ns.all B3) = true → LoopN lp 0 (Ae H2 1) (tl 0 146 [(1, P00), (4, pI 0)]) [.row [(aR1 is k n ns s)]] (.exit 2, (tl 0 146 [(1, P00)]), [.row [(aR1 is k n ns s)]])) (w3 : (B7 is) = true → (ns.all B3) = true → (k == 1) = false → (k == 2) = false → (k == 3) = false → (k == 4) = false → (k == 5) = false → (k == 6) = false → (k == 7) = true → (n == 0) = true → (s == []) = true → (((List.length (Ak ns) : Nat) : Int) == ((List.length (Ad is) : Nat) : Int)) = true → Runs lp 69 [pN ns] [] (pB (Cl ns), [])) (w4 : (B7 is) = true → (ns.all B3) = false → LoopN lp 0 (Ae H2 1) (tl 0 146 [(1, P00), (4, pI 0)]) [.row [(aR1 is k n ns s)]] (.ret, (tl 0 146 [(2, pB false)]), [.row [(aR1 is k n ns s)]])) (w5 : (B7 is) = false → LoopN lp 0 (Ae H2 0) (tl 0 146 [(1, P00), (3, pI 0)]) [.row [(aR1 is k n ns s)]] (.ret, (tl 0 146 [(2, pB false)]), [.row [(aR1 is k n ns s)]])) :
  Runs lp 49 [.agg (aR1 is k n ns s)] [] (if (B7 is) = true then (if (ns.all B3) = true then (if (k == 1) = true then (if (n == 0) = true then (if (s == []) = true then (if (((List.length (Ad is) : Nat) : Int) == 0) = true then ((pB (((List.length (Ak ns) : Nat) : Int) == 0), [])) else ((pB false, []))) else ((pB false, []))) else ((pB false, []))) else (if (k == 2) = true then (if (decide (n ≥ 0)) = true then (if (decide (n ≤ 1)) = true then (if (s == []) = true then (if (((List.length (Ad is) : Nat) : Int) == 0) = true then ((pB (((List.length (Ak ns) : Nat) : Int) == 0), [])) else ((pB false, []))) else ((pB false, []))) else ((pB false, []))) else ((pB false, []))) else (if (k == 3) = true then (if (s == []) = true then (if (((List.length (Ad is) : Nat) : Int) == 0) = true then ((pB (((List.length (Ak ns) : Nat) : Int) == 0), [])) else ((pB false, []))) else ((pB false, []))) else (if (k == 4) = true then (if (n == 0) = true then (if (((List.length (Ad is) : Nat) : Int) == 0) = true then ((pB (((List.length (Ak ns) : Nat) : Int) == 0), [])) else ((pB false, []))) else ((pB false, []))) else (if (k == 5) = true then (if (n == 0) = true then (if (((List.length (Ad is) : Nat) : Int) == 0) = true then ((pB (((List.length (Ak ns) : Nat) : Int) == 0), [])) else ((pB false, []))) else ((pB false, []))) else (if (k == 6) = true then (if (n == 0) = true then (if (s == []) = true then ((pB (((List.length (Ak ns) : Nat) : Int) == 0), [])) else ((pB false, []))) else ((pB false, []))) else (if (k == 7) = true then (if (n == 0) = true then (if (s == []) = true then (if (((List.length (Ak ns) : Nat) : Int) == ((List.length (Ad is) : Nat) : Int)) = true then ((pB (!(Cl ns)), [])) else ((pB false, []))) else ((pB false, []))) else ((pB false, []))) else ((pB false, []))))))))) else ((pB false, []))) else ((pB false, []))) := by
 by_cases k1 : (B7 is) = true
 ·refine Aw k1 ?_
  by_cases k2 : (ns.all B3) = true
  ·refine Aw k2 ?_
   by_cases k3 : (k == 1) = true
   ·refine Aw k3 ?_
    by_cases k4 : (n == 0) = true
    ·refine Aw k4 ?_
     by_cases k5 : (s == []) = true
     ·refine Aw k5 ?_
      by_cases k6 : (((List.length (Ad is) : Nat) : Int) == 0) = true
      ·refine Aw k6 ?_
       exact
        rO [(3, oL (w1 k1)), (1, oL (w2 k1 k2)), (12, .b true), (4, .b true), (1, .b true), (1, .b true), (1, .b true), (1, .b true), (1, .b true), (1, .b true), (1, .b true), (1, .b true), (1, .b true)] [_, _, _, _, _, _, _, _, _, _, _, _, _] (by kernel_rfl) ⟨(w1 k1), (w2 k1 k2), cI k3, cI k4, cI k4, cI k4, cI k4, cI k5, cI k5, cI k5, cI k6, cI k6, cI k6, trivial⟩
      ·refine Ax k6 ?_
       replace k6 := Bool.eq_false_iff.2 k6
       exact
        rO [(3, oL (w1 k1)), (1, oL (w2 k1 k2)), (12, .b true), (4, .b true), (1, .b true), (1, .b true), (1, .b true), (1, .b true), (1, .b true), (1, .b true), (1, .b false), (0, .b false), (0, .b false)] [_, _, _, _, _, _, _, _, _, _, _, _, _] (by kernel_rfl) ⟨(w1 k1), (w2 k1 k2), cI k3, cI k4, cI k4, cI k4, cI k4, cI k5, cI k5, cI k5, cI k6, cI k6, cI k6, trivial⟩
     ·refine Ax k5 ?_
      replace k5 := Bool.eq_false_iff.2 k5
      exact
       rO [(3, oL (w1 k1)), (1, oL (w2 k1 k2)), (12, .b true), (4, .b true), (1, .b true), (1, .b true), (1, .b true), (1, .b false), (0, .b false), (0, .b false)] [_, _, _, _, _, _, _, _, _, _] (by kernel_rfl) ⟨(w1 k1), (w2 k1 k2), cI k3, cI k4, cI k4, cI k4, cI k4, cI k5, cI k5, cI k5, trivial⟩
    ·refine Ax k4 ?_
     replace k4 := Bool.eq_false_iff.2 k4
     exact
      rO [(3, oL (w1 k1)), (1, oL (w2 k1 k2)), (12, .b true), (4, .b false), (0, .b false), (0, .b false), (0, .b false)] [_, _, _, _, _, _, _] (by kernel_rfl) ⟨(w1 k1), (w2 k1 k2), cI k3, cI k4, cI k4, cI k4, cI k4, trivial⟩
   ·refine Ax k3 ?_
    replace k3 := Bool.eq_false_iff.2 k3
    by_cases k4 : (k == 2) = true
    ·refine Aw k4 ?_
     by_cases k5 : (decide (n ≥ 0)) = true
     ·refine Aw k5 ?_
      by_cases k6 : (decide (n ≤ 1)) = true
      ·refine Aw k6 ?_
       by_cases k7 : (s == []) = true
       ·refine Aw k7 ?_
        by_cases k8 : (((List.length (Ad is) : Nat) : Int) == 0) = true
        ·refine Aw k8 ?_
         exact
          rO [(3, oL (w1 k1)), (1, oL (w2 k1 k2)), (12, .b false), (2, .b true), (4, .b true), (1, .b true), (1, .b true), (1, .b true), (1, .b true), (1, .b true), (1, .b true), (1, .b true), (1, .b true), (1, .b true), (1, .b true), (1, .b true), (1, .b true), (1, .b true)] [_, _, _, _, _, _, _, _, _, _, _, _, _, _, _, _, _, _] (by kernel_rfl) ⟨(w1 k1), (w2 k1 k2), cI k3, cI k4, cI k5, cI k5, cI k5, cI k5, cI k6, cI k6, cI k6, cI k6, cI k7, cI k7, cI k7, cI k8, cI k8, cI k8, trivial⟩
        ·refine Ax k8 ?_
         replace k8 := Bool.eq_false_iff.2 k8
         exact
          rO [(3, oL (w1 k1)), (1, oL (w2 k1 k2)), (12, .b false), (2, .b true), (4, .b true), (1, .b true), (1, .b true), (1, .b true), (1, .b true), (1, .b true), (1, .b true), (1, .b true), (1, .b true), (1, .b true), (1, .b true), (1, .b false), (0, .b false), (0, .b false)] [_, _, _, _, _, _, _, _, _, _, _, _, _, _, _, _, _, _] (by kernel_rfl) ⟨(w1 k1), (w2 k1 k2), cI k3, cI k4, cI k5, cI k5, cI k5, cI k5, cI k6, cI k6, cI k6, cI k6, cI k7, cI k7, cI k7, cI k8, cI k8, cI k8, trivial⟩
       ·refine Ax k7 ?_
        replace k7 := Bool.eq_false_iff.2 k7
        exact
         rO [(3, oL (w1 k1)), (1, oL (w2 k1 k2)), (12, .b false), (2, .b true), (4, .b true), (1, .b true), (1, .b true), (1, .b true), (1, .b true), (1, .b true), (1, .b true), (1, .b true), (1, .b false), (0, .b false), (0, .b false)] [_, _, _, _, _, _, _, _, _, _, _, _, _, _, _] (by kernel_rfl) ⟨(w1 k1), (w2 k1 k2), cI k3, cI k4, cI k5, cI k5, cI k5, cI k5, cI k6, cI k6, cI k6, cI k6, cI k7, cI k7, cI k7, trivial⟩
      ·refine Ax k6 ?_
       replace k6 := Bool.eq_false_iff.2 k6
       exact
        rO [(3, oL (w1 k1)), (1, oL (w2 k1 k2)), (12, .b false), (2, .b true), (4, .b true), (1, .b true), (1, .b true), (1, .b true), (1, .b false), (0, .b false), (0, .b false), (0, .b false)] [_, _, _, _, _, _, _, _, _, _, _, _] (by kernel_rfl) ⟨(w1 k1), (w2 k1 k2), cI k3, cI k4, cI k5, cI k5, cI k5, cI k5, cI k6, cI k6, cI k6, cI k6, trivial⟩
     ·refine Ax k5 ?_
      replace k5 := Bool.eq_false_iff.2 k5
      exact
       rO [(3, oL (w1 k1)), (1, oL (w2 k1 k2)), (12, .b false), (2, .b true), (4, .b false), (0, .b false), (0, .b false), (0, .b false)] [_, _, _, _, _, _, _, _] (by kernel_rfl) ⟨(w1 k1), (w2 k1 k2), cI k3, cI k4, cI k5, cI k5, cI k5, cI k5, trivial⟩
    ·refine Ax k4 ?_
     replace k4 := Bool.eq_false_iff.2 k4
     by_cases k5 : (k == 3) = true
     ·refine Aw k5 ?_
      by_cases k6 : (s == []) = true
      ·refine Aw k6 ?_
       by_cases k7 : (((List.length (Ad is) : Nat) : Int) == 0) = true
       ·refine Aw k7 ?_
        exact
         rO [(3, oL (w1 k1)), (1, oL (w2 k1 k2)), (12, .b false), (2, .b false), (2, .b true), (4, .b true), (1, .b true), (1, .b true), (1, .b true), (1, .b true), (1, .b true)] [_, _, _, _, _, _, _, _, _, _, _] (by kernel_rfl) ⟨(w1 k1), (w2 k1 k2), cI k3, cI k4, cI k5, cI k6, cI k6, cI k6, cI k7, cI k7, cI k7, trivial⟩
       ·refine Ax k7 ?_
        replace k7 := Bool.eq_false_iff.2 k7
        exact
         rO [(3, oL (w1 k1)), (1, oL (w2 k1 k2)), (12, .b false), (2, .b false), (2, .b true), (4, .b true), (1, .b true), (1, .b true), (1, .b false), (0, .b false), (0, .b false)] [_, _, _, _, _, _, _, _, _, _, _] (by kernel_rfl) ⟨(w1 k1), (w2 k1 k2), cI k3, cI k4, cI k5, cI k6, cI k6, cI k6, cI k7, cI k7, cI k7, trivial⟩
      ·refine Ax k6 ?_
       replace k6 := Bool.eq_false_iff.2 k6
       exact
        rO [(3, oL (w1 k1)), (1, oL (w2 k1 k2)), (12, .b false), (2, .b false), (2, .b true), (4, .b false), (0, .b false), (0, .b false)] [_, _, _, _, _, _, _, _] (by kernel_rfl) ⟨(w1 k1), (w2 k1 k2), cI k3, cI k4, cI k5, cI k6, cI k6, cI k6, trivial⟩
     ·refine Ax k5 ?_
      replace k5 := Bool.eq_false_iff.2 k5
      by_cases k6 : (k == 4) = true
      ·refine Aw k6 ?_
       by_cases k7 : (n == 0) = true
       ·refine Aw k7 ?_
        by_cases k8 : (((List.length (Ad is) : Nat) : Int) == 0) = true
        ·refine Aw k8 ?_
         exact
          rO [(3, oL (w1 k1)), (1, oL (w2 k1 k2)), (12, .b false), (2, .b false), (2, .b false), (2, .b true), (0, .b true), (4, .b true), (1, .b true), (1, .b true), (1, .b true), (1, .b true), (1, .b true)] [_, _, _, _, _, _, _, _, _, _, _, _, _] (by kernel_rfl) ⟨(w1 k1), (w2 k1 k2), cI k3, cI k4, cI k5, cI k6, cI k6, cI k7, cI k7, cI k7, cI k8, cI k8, cI k8, trivial⟩
        ·refine Ax k8 ?_
         replace k8 := Bool.eq_false_iff.2 k8
         exact
          rO [(3, oL (w1 k1)), (1, oL (w2 k1 k2)), (12, .b false), (2, .b false), (2, .b false), (2, .b true), (0, .b true), (4, .b true), (1, .b true), (1, .b true), (1, .b false), (0, .b false), (0, .b false)] [_, _, _, _, _, _, _, _, _, _, _, _, _] (by kernel_rfl) ⟨(w1 k1), (w2 k1 k2), cI k3, cI k4, cI k5, cI k6, cI k6, cI k7, cI k7, cI k7, cI k8, cI k8, cI k8, trivial⟩
       ·refine Ax k7 ?_
        replace k7 := Bool.eq_false_iff.2 k7
        exact
         rO [(3, oL (w1 k1)), (1, oL (w2 k1 k2)), (12, .b false), (2, .b false), (2, .b false), (2, .b true), (0, .b true), (4, .b false), (0, .b false), (0, .b false)] [_, _, _, _, _, _, _, _, _, _] (by kernel_rfl) ⟨(w1 k1), (w2 k1 k2), cI k3, cI k4, cI k5, cI k6, cI k6, cI k7, cI k7, cI k7, trivial⟩
      ·refine Ax k6 ?_
       replace k6 := Bool.eq_false_iff.2 k6
       by_cases k7 : (k == 5) = true
       ·refine Aw k7 ?_
        by_cases k8 : (n == 0) = true
        ·refine Aw k8 ?_
         by_cases k9 : (((List.length (Ad is) : Nat) : Int) == 0) = true
         ·refine Aw k9 ?_
          exact
           rO [(3, oL (w1 k1)), (1, oL (w2 k1 k2)), (12, .b false), (2, .b false), (2, .b false), (2, .b false), (2, .b true), (4, .b true), (1, .b true), (1, .b true), (1, .b true), (1, .b true), (1, .b true)] [_, _, _, _, _, _, _, _, _, _, _, _, _] (by kernel_rfl) ⟨(w1 k1), (w2 k1 k2), cI k3, cI k4, cI k5, cI k6, cI k7, cI k8, cI k8, cI k8, cI k9, cI k9, cI k9, trivial⟩
         ·refine Ax k9 ?_
          replace k9 := Bool.eq_false_iff.2 k9
          exact
           rO [(3, oL (w1 k1)), (1, oL (w2 k1 k2)), (12, .b false), (2, .b false), (2, .b false), (2, .b false), (2, .b true), (4, .b true), (1, .b true), (1, .b true), (1, .b false), (0, .b false), (0, .b false)] [_, _, _, _, _, _, _, _, _, _, _, _, _] (by kernel_rfl) ⟨(w1 k1), (w2 k1 k2), cI k3, cI k4, cI k5, cI k6, cI k7, cI k8, cI k8, cI k8, cI k9, cI k9, cI k9, trivial⟩
        ·refine Ax k8 ?_
         replace k8 := Bool.eq_false_iff.2 k8
         exact
          rO [(3, oL (w1 k1)), (1, oL (w2 k1 k2)), (12, .b false), (2, .b false), (2, .b false), (2, .b false), (2, .b true), (4, .b false), (0, .b false), (0, .b false)] [_, _, _, _, _, _, _, _, _, _] (by kernel_rfl) ⟨(w1 k1), (w2 k1 k2), cI k3, cI k4, cI k5, cI k6, cI k7, cI k8, cI k8, cI k8, trivial⟩
       ·refine Ax k7 ?_
        replace k7 := Bool.eq_false_iff.2 k7
        by_cases k8 : (k == 6) = true
        ·refine Aw k8 ?_
         by_cases k9 : (n == 0) = true
         ·refine Aw k9 ?_
          by_cases k10 : (s == []) = true
          ·refine Aw k10 ?_
           exact
            rO [(3, oL (w1 k1)), (1, oL (w2 k1 k2)), (12, .b false), (2, .b false), (2, .b false), (2, .b false), (2, .b false), (2, .b true), (4, .b true), (1, .b true), (1, .b true), (1, .b true), (1, .b true), (1, .b true), (1, .b true)] [_, _, _, _, _, _, _, _, _, _, _, _, _, _, _] (by kernel_rfl) ⟨(w1 k1), (w2 k1 k2), cI k3, cI k4, cI k5, cI k6, cI k7, cI k8, cI k9, cI k9, cI k9, cI k9, cI k10, cI k10, cI k10, trivial⟩
          ·refine Ax k10 ?_
           replace k10 := Bool.eq_false_iff.2 k10
           exact
            rO [(3, oL (w1 k1)), (1, oL (w2 k1 k2)), (12, .b false), (2, .b false), (2, .b false), (2, .b false), (2, .b false), (2, .b true), (4, .b true), (1, .b true), (1, .b true), (1, .b true), (1, .b false), (0, .b false), (0, .b false)] [_, _, _, _, _, _, _, _, _, _, _, _, _, _, _] (by kernel_rfl) ⟨(w1 k1), (w2 k1 k2), cI k3, cI k4, cI k5, cI k6, cI k7, cI k8, cI k9, cI k9, cI k9, cI k9, cI k10, cI k10, cI k10, trivial⟩
         ·refine Ax k9 ?_
          replace k9 := Bool.eq_false_iff.2 k9
          exact
           rO [(3, oL (w1 k1)), (1, oL (w2 k1 k2)), (12, .b false), (2, .b false), (2, .b false), (2, .b false), (2, .b false), (2, .b true), (4, .b false), (0, .b false), (0, .b false), (0, .b false)] [_, _, _, _, _, _, _, _, _, _, _, _] (by kernel_rfl) ⟨(w1 k1), (w2 k1 k2), cI k3, cI k4, cI k5, cI k6, cI k7, cI k8, cI k9, cI k9, cI k9, cI k9, trivial⟩
        ·refine Ax k8 ?_
         replace k8 := Bool.eq_false_iff.2 k8
         by_cases k9 : (k == 7) = true
         ·refine Aw k9 ?_
          by_cases k10 : (n == 0) = true
          ·refine Aw k10 ?_
           by_cases k11 : (s == []) = true
           ·refine Aw k11 ?_
            by_cases k12 : (((List.length (Ak ns) : Nat) : Int) == ((List.length (Ad is) : Nat) : Int)) = true
            ·refine Aw k12 ?_
             exact
              rO [(3, oL (w1 k1)), (1, oL (w2 k1 k2)), (12, .b false), (2, .b false), (2, .b false), (2, .b false), (2, .b false), (2, .b false), (2, .b true), (4, .b true), (1, .b true), (1, .b true), (1, .b true), (1, .b true), (1, .b true), (1, .b true), (1, .b true), (1, .b true), (1, .b true), (1, .b true), (0, oC (w3 k1 k2 k3 k4 k5 k6 k7 k8 k9 k10 k11 k12)), (0, .b true), (1, .b true)] [_, _, _, _, _, _, _, _, _, _, _, _, _, _, _, _, _, _, _, _, _, _, _] (by kernel_rfl) ⟨(w1 k1), (w2 k1 k2), cI k3, cI k4, cI k5, cI k6, cI k7, cI k8, cI k9, cI k10, cI k10, cI k10, cI k10, cI k11, cI k11, cI k11, cI k11, cI k12, cI k12, cI k12, (w3 k1 k2 k3 k4 k5 k6 k7 k8 k9 k10 k11 k12), cI k12, cI k12, trivial⟩
            ·refine Ax k12 ?_
             replace k12 := Bool.eq_false_iff.2 k12
             exact
              rO [(3, oL (w1 k1)), (1, oL (w2 k1 k2)), (12, .b false), (2, .b false), (2, .b false), (2, .b false), (2, .b false), (2, .b false), (2, .b true), (4, .b true), (1, .b true), (1, .b true), (1, .b true), (1, .b true), (1, .b true), (1, .b true), (1, .b true), (1, .b false), (0, .b false), (0, .b false), (0, .b false), (0, .b false)] [_, _, _, _, _, _, _, _, _, _, _, _, _, _, _, _, _, _, _, _, _, _] (by kernel_rfl) ⟨(w1 k1), (w2 k1 k2), cI k3, cI k4, cI k5, cI k6, cI k7, cI k8, cI k9, cI k10, cI k10, cI k10, cI k10, cI k11, cI k11, cI k11, cI k11, cI k12, cI k12, cI k12, cI k12, cI k12, trivial⟩
           ·refine Ax k11 ?_
            replace k11 := Bool.eq_false_iff.2 k11
            exact
             rO [(3, oL (w1 k1)), (1, oL (w2 k1 k2)), (12, .b false), (2, .b false), (2, .b false), (2, .b false), (2, .b false), (2, .b false), (2, .b true), (4, .b true), (1, .b true), (1, .b true), (1, .b true), (1, .b false), (0, .b false), (0, .b false), (0, .b false)] [_, _, _, _, _, _, _, _, _, _, _, _, _, _, _, _, _] (by kernel_rfl) ⟨(w1 k1), (w2 k1 k2), cI k3, cI k4, cI k5, cI k6, cI k7, cI k8, cI k9, cI k10, cI k10, cI k10, cI k10, cI k11, cI k11, cI k11, cI k11, trivial⟩
          ·refine Ax k10 ?_
           replace k10 := Bool.eq_false_iff.2 k10
           exact
            rO [(3, oL (w1 k1)), (1, oL (w2 k1 k2)), (12, .b false), (2, .b false), (2, .b false), (2, .b false), (2, .b false), (2, .b false), (2, .b true), (4, .b false), (0, .b false), (0, .b false), (0, .b false)] [_, _, _, _, _, _, _, _, _, _, _, _, _] (by kernel_rfl) ⟨(w1 k1), (w2 k1 k2), cI k3, cI k4, cI k5, cI k6, cI k7, cI k8, cI k9, cI k10, cI k10, cI k10, cI k10, trivial⟩
         ·refine Ax k9 ?_
          replace k9 := Bool.eq_false_iff.2 k9
          exact
           rO [(3, oL (w1 k1)), (1, oL (w2 k1 k2)), (12, .b false), (2, .b false), (2, .b false), (2, .b false), (2, .b false), (2, .b false), (2, .b false)] [_, _, _, _, _, _, _, _, _] (by kernel_rfl) ⟨(w1 k1), (w2 k1 k2), cI k3, cI k4, cI k5, cI k6, cI k7, cI k8, cI k9, trivial⟩
  ·refine Ax k2 ?_
   replace k2 := Bool.eq_false_iff.2 k2
   exact
    rO [(3, oL (w1 k1)), (1, oL (w4 k1 k2))] [_, _] (by kernel_rfl) ⟨(w1 k1), (w4 k1 k2), trivial⟩
 ·refine Ax k1 ?_
  replace k1 := Bool.eq_false_iff.2 k1
  exact
   rO [(3, oL (w5 k1))] [_] (by kernel_rfl) ⟨(w5 k1), trivial⟩
theorem rTwJ_yy {ns : BL} {i j : Nat} (c1 : (decide ((j : Int) < (i : Int))) = true) (h2 : i < List.length ns) (h3 : j < List.length ns) (c4 : ((List.getD (α := BY) ns i []) == (List.getD (α := BY) ns j [])) = true) :
  LoopN lp 0 (Ae H3 1) (tl 0 25 [(0, pN ns), (3, pI (i : Int)), (4, pI (j : Int))]) [] (.ret, (tl 0 25 [(2, pB true)]), []) :=
 have q1 : OpE [] (.indexAddr 1 (.const (pN ns)) (.const (pI (i : Int)))) (.pin [.str (List.getD (α := BY) ns i [])] 0) := (At rfl rfl (Cn h2) rfl)
 have q2 : OpE [] (.indexAddr 1 (.const (pN ns)) (.const (pI (j : Int)))) (.pin [.str (List.getD (α := BY) ns j [])] 0) := (At rfl rfl (Cn h3) rfl)
 lX [(3, .b true), (2, oO q1), (3, oO q2), (2, .b true)] [_, _, _, _] (by kernel_rfl) (by kernel_rfl) ⟨cI c1, q1, q2, cI c4, trivial⟩
theorem rTwJ_yn {ns : BL} {i j : Nat} (c1 : (decide ((j : Int) < (i : Int))) = true) (h2 : i < List.length ns) (h3 : j < List.length ns) (c4 : ((List.getD (α := BY) ns i []) == (List.getD (α := BY) ns j [])) = false) {r : RL} (hr : LoopN lp 0 (Ae H3 1) (tl 0 25 [(0, pN ns), (3, pI (i : Int)), (4, pI (IntKind.wrap .i64 ((j : Int) + 1)))]) [] r) :
  LoopN lp 0 (Ae H3 1) (tl 0 25 [(0, pN ns), (3, pI (i : Int)), (4, pI (j : Int))]) [] r :=
 have q1 : OpE [] (.indexAddr 1 (.const (pN ns)) (.const (pI (i : Int)))) (.pin [.str (List.getD (α := BY) ns i [])] 0) := (At rfl rfl (Cn h2) rfl)
 have q2 : OpE [] (.indexAddr 1 (.const (pN ns)) (.const (pI (j : Int)))) (.pin [.str (List.getD (α := BY) ns j [])] 0) := (At rfl rfl (Cn h3) rfl)
 lO [(3, .b true), (2, oO q1), (3, oO q2), (2, .b false)] [_, _, _, _] (by kernel_rfl) ⟨cI c1, q1, q2, cI c4, trivial⟩ hr
theorem rTwJ_n {ns : BL} {i j : Nat} (c1 : (decide ((j : Int) < (i : Int))) = false) :
  LoopN lp 0 (Ae H3 1) (tl 0 25 [(0, pN ns), (3, pI (i : Int)), (4, pI (j : Int))]) [] (.exit 2, (tl 0 25 [(0, pN ns), (3, pI (i : Int))]), []) :=
 lX [(3, .b false)] [_] (by kernel_rfl) (by kernel_rfl) ⟨cI c1, trivial⟩
theorem rTwI_yy {ns : BL} {i : Nat} {metB : Bool} (c1 : (decide ((i : Int) < ((List.length (Ak ns) : Nat) : Int))) = true) (c2 : (metB) = true) (h3 : LoopN lp 0 (Ae H3 1) (tl 0 25 [(0, pN ns), (3, pI (i : Int)), (4, pI 0)]) [] (.ret, (tl 0 25 [(2, pB true)]), [])) :
  LoopN lp 0 (Ae H3 0) (tl 0 25 [(0, pN ns), (3, pI (i : Int))]) [] (.ret, (tl 0 25 [(2, pB true)]), []) :=
 lX [(4, .b true), (1, oL h3)] [_, _] (by kernel_rfl) (by kernel_rfl) ⟨cI c1, h3, trivial⟩
theorem rTwI_yn {ns : BL} {i : Nat} {metB : Bool} (c1 : (decide ((i : Int) < ((List.length (Ak ns) : Nat) : Int))) = true) (c2 : (metB) = false) (h3 : LoopN lp 0 (Ae H3 1) (tl 0 25 [(0, pN ns), (3, pI (i : Int)), (4, pI 0)]) [] (.exit 2, (tl 0 25 [(0, pN ns), (3, pI (i : Int))]), [])) {r : RL} (hr : LoopN lp 0 (Ae H3 0) (tl 0 25 [(0, pN ns), (3, pI (IntKind.wrap .i64 ((i : Int) + 1)))]) [] r) :
  LoopN lp 0 (Ae H3 0) (tl 0 25 [(0, pN ns), (3, pI (i : Int))]) [] r :=
 lO [(4, .b true), (1, oL h3)] [_, _] (by kernel_rfl) ⟨cI c1, h3, trivial⟩ hr
theorem rTwI_n {ns : BL} {i : Nat} (c1 : (decide ((i : Int) < ((List.length (Ak ns) : Nat) : Int))) = false) :
  LoopN lp 0 (Ae H3 0) (tl 0 25 [(0, pN ns), (3, pI (i : Int))]) [] (.exit 0, (tl 0 25 []), []) :=
 lX [(4, .b false)] [_] (by kernel_rfl) (by kernel_rfl) ⟨cI c1, trivial⟩
theorem rTw {ns : BL} (w1 : (Cl ns) = true → LoopN lp 0 (Ae H3 0) (tl 0 25 [(0, pN ns), (3, pI 0)]) [] (.ret, (tl 0 25 [(2, pB true)]), [])) (w2 : (Cl ns) = false → LoopN lp 0 (Ae H3 0) (tl 0 25 [(0, pN ns), (3, pI 0)]) [] (.exit 0, (tl 0 25 []), [])) :
  Runs lp 69 [pN ns] [] (if (Cl ns) = true then ((pB true, [])) else ((pB false, []))) := by
 by_cases k1 : (Cl ns) = true
 ·refine Aw k1 ?_
  exact
   rO [(2, oL (w1 k1))] [_] (by kernel_rfl) ⟨(w1 k1), trivial⟩
 ·refine Ax k1 ?_
  replace k1 := Bool.eq_false_iff.2 k1
  exact
   rO [(2, oL (w2 k1))] [_] (by kernel_rfl) ⟨(w2 k1), trivial⟩
theorem vMay1 {k n : Int} {s : BY} {is : List Val} {ns : BL} (w1 : Runs lp 52 [.agg (aR1 is k n ns s)] [] (pB (Ce (Val.mk k n s is ns)), [])) :
  Runs lp 72 [.agg (aR1 is k n ns s)] [] ((pB (!(Ce (Val.mk k n s is ns))), [])) := by
 exact
  rO [(3, oC w1)] [_] (by kernel_rfl) ⟨w1, trivial⟩
theorem vIdxR_yy {is : List Val} {i : Nat} (ke ne : Int) (se : BY) (ise : List Val) (nse : BL) (c1 : (decide ((i : Int) < ((List.length (Ad is) : Nat) : Int))) = true) (h2 : is[i]? = some (Val.mk ke ne se ise nse)) (h3 : Runs lp 72 [.agg [pI ke, pI ne, pT se, pV ise, pN nse]] [] (pB (!(Ce (Val.mk ke ne se ise nse))), [])) (c4 : (Ce (Val.mk ke ne se ise nse)) = true) {r : RL} (hr : LoopN lp 0 (Ae Ox 0) (tl 0 19 [(0, pV is), (1, .fn (.func 72) [] []), (7, pI ((List.length (Ad is) : Nat) : Int)), (8, pI (IntKind.wrap .i64 ((i : Int) + 1)))]) [] r) :
  LoopN lp 0 (Ae Ox 0) (tl 0 19 [(0, pV is), (1, .fn (.func 72) [] []), (7, pI ((List.length (Ad is) : Nat) : Int)), (8, pI (i : Int))]) [] r :=
 have q1 : OpE [] (.indexAddr 5 (.const (pV is)) (.const (pI (i : Int)))) (.pin [.int .i64 ke, .int .i64 ne, .str se, .sl (Ad ise), .sl (Ak nse)] 0) := (At rfl rfl (Ca h2) rfl)
 lO [(1, .b true), (5, oO q1), (1, oC h3), (0, .b false)] [_, _, _, _] (by kernel_rfl) ⟨cI c1, q1, h3, (cI (Ah c4)), trivial⟩ hr
theorem vIdxR_yn {is : List Val} {i : Nat} (ke ne : Int) (se : BY) (ise : List Val) (nse : BL) (c1 : (decide ((i : Int) < ((List.length (Ad is) : Nat) : Int))) = true) (h2 : is[i]? = some (Val.mk ke ne se ise nse)) (h3 : Runs lp 72 [.agg [pI ke, pI ne, pT se, pV ise, pN nse]] [] (pB (!(Ce (Val.mk ke ne se ise nse))), [])) (c4 : (Ce (Val.mk ke ne se ise nse)) = false) :
  LoopN lp 0 (Ae Ox 0) (tl 0 19 [(0, pV is), (1, .fn (.func 72) [] []), (7, pI ((List.length (Ad is) : Nat) : Int)), (8, pI (i : Int))]) [] (.ret, (tl 0 19 [(4, pI (i : Int))]), []) :=
 have q1 : OpE [] (.indexAddr 5 (.const (pV is)) (.const (pI (i : Int)))) (.pin [.int .i64 ke, .int .i64 ne, .str se, .sl (Ad ise), .sl (Ak nse)] 0) := (At rfl rfl (Ca h2) rfl)
 lX [(1, .b true), (5, oO q1), (1, oC h3), (0, .b true)] [_, _, _, _] (by kernel_rfl) (by kernel_rfl) ⟨cI c1, q1, h3, (cI (Ah c4)), trivial⟩
theorem vIdxR_n {is : List Val} {i : Nat} (c1 : (decide ((i : Int) < ((List.length (Ad is) : Nat) : Int))) = false) :
  LoopN lp 0 (Ae Ox 0) (tl 0 19 [(0, pV is), (1, .fn (.func 72) [] []), (7, pI ((List.length (Ad is) : Nat) : Int)), (8, pI (i : Int))]) [] (.exit 0, (tl 0 19 []), []) :=
 lX [(1, .b false)] [_] (by kernel_rfl) (by kernel_rfl) ⟨cI c1, trivial⟩
theorem vIdx0 {is : List Val} {i : Nat} (w1 : (B7 is) = true → LoopN lp 0 (Ae Ox 0) (tl 0 19 [(0, pV is), (1, .fn (.func 72) [] []), (7, pI ((List.length (Ad is) : Nat) : Int)), (8, pI 0)]) [] (.exit 0, (tl 0 19 []), [])) (w2 : (B7 is) = false → LoopN lp 0 (Ae Ox 0) (tl 0 19 [(0, pV is), (1, .fn (.func 72) [] []), (7, pI ((List.length (Ad is) : Nat) : Int)), (8, pI 0)]) [] (.ret, (tl 0 19 [(4, pI (i : Int))]), [])) :
  Runs lp 82 [pV is, .fn (.func 72) [] []] [] (if (B7 is) = true then ((pI (-1), [])) else ((pI (i : Int), []))) := by
 by_cases k1 : (B7 is) = true
 ·refine Aw k1 ?_
  exact
   rO [(4, oL (w1 k1))] [_] (by kernel_rfl) ⟨(w1 k1), trivial⟩
 ·refine Ax k1 ?_
  replace k1 := Bool.eq_false_iff.2 k1
  exact
   rO [(4, oL (w2 k1))] [_] (by kernel_rfl) ⟨(w2 k1), trivial⟩
theorem vCon0 {is : List Val} {i : Nat} (w1 : (B7 is) = true → Runs lp 82 [pV is, .fn (.func 72) [] []] [] (pI (-1), [])) (w2 : (B7 is) = false → Runs lp 82 [pV is, .fn (.func 72) [] []] [] (pI (i : Int), [])) :
  Runs lp 71 [pV is, .fn (.func 72) [] []] [] (if (B7 is) = true then ((pB false, [])) else ((pB (decide ((i : Int) ≥ 0)), []))) := by
 by_cases k1 : (B7 is) = true
 ·refine Aw k1 ?_
  exact
   rO [(3, oC (w1 k1))] [_] (by kernel_rfl) ⟨(w1 k1), trivial⟩
 ·refine Ax k1 ?_
  replace k1 := Bool.eq_false_iff.2 k1
  exact
   rO [(3, oC (w2 k1))] [_] (by kernel_rfl) ⟨(w2 k1), trivial⟩
theorem Sf {ns ms : BL} {i : Nat} (c1 : (decide ((i : Int) < ((List.length (Ak ns) : Nat) : Int))) = true) (h2 : i < List.length ns) (h3 : Runs lp 81 [pT (List.getD (α := BY) ns i [])] [] (pB (B3 (List.getD (α := BY) ns i [])), [])) (c4 : (B3 (List.getD (α := BY) ns i [])) = true) (c5 : (List.contains ms (List.getD (α := BY) ns i [])) = true) :
  LoopN lp 0 (Ae Nz 0) (tl 0 24 [(3, .mp 0), (7, pN ns), (8, pI ((List.length (Ak ns) : Nat) : Int)), (9, pI (i : Int))]) [.map (Cm ms)] (.ret, (tl 0 24 [(2, pB false)]), [.map (Cm ms)]) :=
 have q1 : OpE [.map (Cm ms)] (.indexAddr 1 (.const (pN ns)) (.const (pI (i : Int)))) (.pin [.str (List.getD (α := BY) ns i [])] 0) := (At rfl rfl (Cn h2) rfl)
 have q2 : OpE [.map (Cm ms)] (.lookup .str (pB false) false (.const (.mp 0)) (.const (pT (List.getD (α := BY) ns i [])))) (pB (List.contains ms (List.getD (α := BY) ns i []))) := (Pl rfl)
 lX [(1, .b true), (0, oO q1), (3, oC h3), (2, .b false), (1, .b false), (1, .b false), (0, oO q2), (0, .b false), (0, .b true)] [_, _, _, _, _, _, _, _, _] (by kernel_rfl) (by kernel_rfl) ⟨cI c1, q1, h3, (cI (Ah c4)), (cI (Ah c4)), (cI (Ah c4)), q2, (cI (Ah c4)), cI c5, trivial⟩
theorem Sg {ns ms : BL} {i : Nat} (c1 : (decide ((i : Int) < ((List.length (Ak ns) : Nat) : Int))) = true) (h2 : i < List.length ns) (h3 : Runs lp 81 [pT (List.getD (α := BY) ns i [])] [] (pB (B3 (List.getD (α := BY) ns i [])), [])) (c4 : (B3 (List.getD (α := BY) ns i [])) = true) (c5 : (List.contains ms (List.getD (α := BY) ns i [])) = false) (h6 : List.contains ms (List.getD (α := BY) ns i []) = false) {r : RL} (hr : LoopN lp 0 (Ae Nz 0) (tl 0 24 [(3, .mp 0), (7, pN ns), (8, pI ((List.length (Ak ns) : Nat) : Int)), (9, pI (IntKind.wrap .i64 ((i : Int) + 1)))]) [.map (Cm (ms ++ [(List.getD (α := BY) ns i [])]))] r) :
  LoopN lp 0 (Ae Nz 0) (tl 0 24 [(3, .mp 0), (7, pN ns), (8, pI ((List.length (Ak ns) : Nat) : Int)), (9, pI (i : Int))]) [.map (Cm ms)] r :=
 have q1 : OpE [.map (Cm ms)] (.indexAddr 1 (.const (pN ns)) (.const (pI (i : Int)))) (.pin [.str (List.getD (α := BY) ns i [])] 0) := (At rfl rfl (Cn h2) rfl)
 have q2 : OpE [.map (Cm ms)] (.lookup .str (pB false) false (.const (.mp 0)) (.const (pT (List.getD (α := BY) ns i [])))) (pB (List.contains ms (List.getD (α := BY) ns i []))) := (Pl rfl)
 have q3 : OpW [.map (Cm ms)] (.mapUpdate .str (.const (.mp 0)) (.const (pT (List.getD (α := BY) ns i []))) (.const (pB true))) (.tup []) [.map (Cm (ms ++ [(List.getD (α := BY) ns i [])]))] := (opIs_see rfl h6)
 LoopAt.onG (N := 100) (t1 := (tl 0 24 [(3, .mp 0), (7, pN ns), (8, pI ((List.length (Ak ns) : Nat) : Int)), (9, pI (IntKind.wrap .i64 ((i : Int) + 1))), (23, pI (IntKind.wrap .i64 ((i : Int) + 1)))])) (st1 := [.map (Cm (ms ++ [(List.getD (α := BY) ns i [])]))]) (os := [(1, .b true), (0, oO q1), (3, oC h3), (2, .b false), (1, .b false), (1, .b false), (0, oO q2), (0, .b false), (0, .b false), (2, oO q3)]) (ps := [_, _, _, _, _, _, _, _, _, _]) (os' := []) (by kernel_rfl) (by kernel_rfl) (gc_seen (by kernel_rfl) (by kernel_rfl)) ⟨cI c1, q1, h3, (cI (Ah c4)), (cI (Ah c4)), (cI (Ah c4)), q2, (cI (Ah c4)), cI c5, q3, trivial⟩ hr
theorem Ur {ns ms : BL} {i : Nat} (c1 : (decide ((i : Int) < ((List.length (Ak ns) : Nat) : Int))) = true) (h2 : i < List.length ns) (h3 : Runs lp 81 [pT (List.getD (α := BY) ns i [])] [] (pB (B3 (List.getD (α := BY) ns i [])), [])) (c4 : (B3 (List.getD (α := BY) ns i [])) = false) :
  LoopN lp 0 (Ae Nz 0) (tl 0 24 [(3, .mp 0), (7, pN ns), (8, pI ((List.length (Ak ns) : Nat) : Int)), (9, pI (i : Int))]) [.map (Cm ms)] (.ret, (tl 0 24 [(2, pB false)]), [.map (Cm ms)]) :=
 have q1 : OpE [.map (Cm ms)] (.indexAddr 1 (.const (pN ns)) (.const (pI (i : Int)))) (.pin [.str (List.getD (α := BY) ns i [])] 0) := (At rfl rfl (Cn h2) rfl)
 lX [(1, .b true), (0, oO q1), (3, oC h3), (2, .b true), (0, .b true), (0, .b true), (0, .b true)] [_, _, _, _, _, _, _] (by kernel_rfl) (by kernel_rfl) ⟨cI c1, q1, h3, (cI (Ah c4)), (cI (Ah c4)), (cI (Ah c4)), (cI (Ah c4)), trivial⟩
theorem Yb {ns ms : BL} {i : Nat} (c1 : (decide ((i : Int) < ((List.length (Ak ns) : Nat) : Int))) = false) :
  LoopN lp 0 (Ae Nz 0) (tl 0 24 [(3, .mp 0), (7, pN ns), (8, pI ((List.length (Ak ns) : Nat) : Int)), (9, pI (i : Int))]) [.map (Cm ms)] (.exit 0, (tl 0 24 []), [.map (Cm ms)]) :=
 lX [(1, .b false)] [_] (by kernel_rfl) (by kernel_rfl) ⟨cI c1, trivial⟩
theorem Yc {ns ms : BL} {okN : Bool} (c1 : (okN) = true) (h2 : LoopN lp 0 (Ae Nz 0) (tl 0 24 [(3, .mp 0), (7, pN ns), (8, pI ((List.length (Ak ns) : Nat) : Int)), (9, pI 0)]) [.map []] (.exit 0, (tl 0 24 []), [.map (Cm ms)])) :
  Runs lp 70 [pN ns] [] (pB true, []) :=
 rO [(6, oL h2)] [_] (by kernel_rfl) ⟨h2, trivial⟩
theorem Yd {ns ms : BL} {okN : Bool} (c1 : (okN) = false) (h2 : LoopN lp 0 (Ae Nz 0) (tl 0 24 [(3, .mp 0), (7, pN ns), (8, pI ((List.length (Ak ns) : Nat) : Int)), (9, pI 0)]) [.map []] (.ret, (tl 0 24 [(2, pB false)]), [.map (Cm ms)])) :
  Runs lp 70 [pN ns] [] (pB false, []) :=
 rO [(6, oL h2)] [_] (by kernel_rfl) ⟨h2, trivial⟩
theorem vMay1_ {n : Int} {s : BY} {is : List Val} {ns : BL} (w1 : (decide (((List.length (Ad is) : Nat) : Int) > 0)) = false → (n == 0) = true → (s == []) = true → (decide (((List.length (Ak ns) : Nat) : Int) > 0)) = false → Runs lp 71 [pV is, .fn (.func 72) [] []] [] (pB (!(B7 is)), [])) :
  Runs lp 52 [.agg [pI 1, pI n, pT s, pV is, pN ns]] [] (if (decide (((List.length (Ad is) : Nat) : Int) > 0)) = true then ((pB false, [])) else (if (n == 0) = true then (if (s == []) = true then (if (decide (((List.length (Ak ns) : Nat) : Int) > 0)) = true then ((pB false, [])) else ((pB (!(!(B7 is))), []))) else ((pB false, []))) else ((pB false, [])))) := by
 by_cases k1 : (decide (((List.length (Ad is) : Nat) : Int) > 0)) = true
 ·refine Aw k1 ?_
  exact
   rO [(56, .b true), (1, .b true), (1, .b true)] [_, _, _] (by kernel_rfl) ⟨cI k1, cI k1, cI k1, trivial⟩
 ·refine Ax k1 ?_
  replace k1 := Bool.eq_false_iff.2 k1
  by_cases k2 : (n == 0) = true
  ·refine Aw k2 ?_
   by_cases k3 : (s == []) = true
   ·refine Aw k3 ?_
    by_cases k4 : (decide (((List.length (Ak ns) : Nat) : Int) > 0)) = true
    ·refine Aw k4 ?_
     exact
      rO [(56, .b false), (0, .b false), (0, .b false), (6, .b false), (0, .b false), (0, .b false), (6, .b false), (0, .b false), (0, .b false), (31, .b true)] [_, _, _, _, _, _, _, _, _, _] (by kernel_rfl) ⟨cI k1, cI k1, cI k1, (cI (Ah k2)), (cI (Ah k2)), (cI (Ah k2)), (cI (Ah k3)), (cI (Ah k3)), (cI (Ah k3)), cI k4, trivial⟩
    ·refine Ax k4 ?_
     replace k4 := Bool.eq_false_iff.2 k4
     exact
      rO [(56, .b false), (0, .b false), (0, .b false), (6, .b false), (0, .b false), (0, .b false), (6, .b false), (0, .b false), (0, .b false), (31, .b false), (22, oC (w1 k1 k2 k3 k4))] [_, _, _, _, _, _, _, _, _, _, _] (by kernel_rfl) ⟨cI k1, cI k1, cI k1, (cI (Ah k2)), (cI (Ah k2)), (cI (Ah k2)), (cI (Ah k3)), (cI (Ah k3)), (cI (Ah k3)), cI k4, (w1 k1 k2 k3 k4), trivial⟩
   ·refine Ax k3 ?_
    replace k3 := Bool.eq_false_iff.2 k3
    exact
     rO [(56, .b false), (0, .b false), (0, .b false), (6, .b false), (0, .b false), (0, .b false), (6, .b true), (1, .b true), (1, .b true)] [_, _, _, _, _, _, _, _, _] (by kernel_rfl) ⟨cI k1, cI k1, cI k1, (cI (Ah k2)), (cI (Ah k2)), (cI (Ah k2)), (cI (Ah k3)), (cI (Ah k3)), (cI (Ah k3)), trivial⟩
  ·refine Ax k2 ?_
   replace k2 := Bool.eq_false_iff.2 k2
   exact
    rO [(56, .b false), (0, .b false), (0, .b false), (6, .b true), (1, .b true), (1, .b true)] [_, _, _, _, _, _] (by kernel_rfl) ⟨cI k1, cI k1, cI k1, (cI (Ah k2)), (cI (Ah k2)), (cI (Ah k2)), trivial⟩
theorem vMay2_ {n : Int} {s : BY} {is : List Val} {ns : BL} (w1 : (decide (((List.length (Ad is) : Nat) : Int) > 0)) = false → (n == 0) = true → (s == []) = true → (decide (((List.length (Ak ns) : Nat) : Int) > 0)) = false → Runs lp 71 [pV is, .fn (.func 72) [] []] [] (pB (!(B7 is)), [])) (w2 : (decide (((List.length (Ad is) : Nat) : Int) > 0)) = false → (n == 0) = false → (s == []) = true → (n == 1) = true → (decide (((List.length (Ak ns) : Nat) : Int) > 0)) = false → Runs lp 71 [pV is, .fn (.func 72) [] []] [] (pB (!(B7 is)), [])) :
  Runs lp 52 [.agg [pI 2, pI n, pT s, pV is, pN ns]] [] (if (decide (((List.length (Ad is) : Nat) : Int) > 0)) = true then ((pB false, [])) else (if (n == 0) = true then (if (s == []) = true then (if (decide (((List.length (Ak ns) : Nat) : Int) > 0)) = true then ((pB false, [])) else ((pB (!(!(B7 is))), []))) else ((pB false, []))) else (if (s == []) = true then (if (n == 1) = true then (if (decide (((List.length (Ak ns) : Nat) : Int) > 0)) = true then ((pB false, [])) else ((pB (!(!(B7 is))), []))) else ((pB false, []))) else ((pB false, []))))) := by
 by_cases k1 : (decide (((List.length (Ad is) : Nat) : Int) > 0)) = true
 ·refine Aw k1 ?_
  exact
   rO [(56, .b true), (1, .b true), (1, .b true)] [_, _, _] (by kernel_rfl) ⟨cI k1, cI k1, cI k1, trivial⟩
 ·refine Ax k1 ?_
  replace k1 := Bool.eq_false_iff.2 k1
  by_cases k2 : (n == 0) = true
  ·refine Aw k2 ?_
   by_cases k3 : (s == []) = true
   ·refine Aw k3 ?_
    by_cases k4 : (decide (((List.length (Ak ns) : Nat) : Int) > 0)) = true
    ·refine Aw k4 ?_
     exact
      rO [(56, .b false), (0, .b false), (0, .b false), (6, .b false), (0, .b false), (0, .b false), (6, .b false), (0, .b false), (0, .b false), (14, .b false), (0, .b false), (0, .b false), (0, .b false), (16, .b true)] [_, _, _, _, _, _, _, _, _, _, _, _, _, _] (by kernel_rfl) ⟨cI k1, cI k1, cI k1, (cI (Ah k2)), (cI (Ah k2)), (cI (Ah k2)), (cI (Ah k3)), (cI (Ah k3)), (cI (Ah k3)), (cI (Ah k2)), (cI (Ah k2)), (cI (Ah k2)), (cI (Ah k2)), cI k4, trivial⟩
    ·refine Ax k4 ?_
     replace k4 := Bool.eq_false_iff.2 k4
     exact
      rO [(56, .b false), (0, .b false), (0, .b false), (6, .b false), (0, .b false), (0, .b false), (6, .b false), (0, .b false), (0, .b false), (14, .b false), (0, .b false), (0, .b false), (0, .b false), (16, .b false), (22, oC (w1 k1 k2 k3 k4))] [_, _, _, _, _, _, _, _, _, _, _, _, _, _, _] (by kernel_rfl) ⟨cI k1, cI k1, cI k1, (cI (Ah k2)), (cI (Ah k2)), (cI (Ah k2)), (cI (Ah k3)), (cI (Ah k3)), (cI (Ah k3)), (cI (Ah k2)), (cI (Ah k2)), (cI (Ah k2)), (cI (Ah k2)), cI k4, (w1 k1 k2 k3 k4), trivial⟩
   ·refine Ax k3 ?_
    replace k3 := Bool.eq_false_iff.2 k3
    exact
     rO [(56, .b false), (0, .b false), (0, .b false), (6, .b false), (0, .b false), (0, .b false), (6, .b true), (1, .b true), (1, .b true)] [_, _, _, _, _, _, _, _, _] (by kernel_rfl) ⟨cI k1, cI k1, cI k1, (cI (Ah k2)), (cI (Ah k2)), (cI (Ah k2)), (cI (Ah k3)), (cI (Ah k3)), (cI (Ah k3)), trivial⟩
  ·refine Ax k2 ?_
   replace k2 := Bool.eq_false_iff.2 k2
   by_cases k3 : (s == []) = true
   ·refine Aw k3 ?_
    by_cases k4 : (n == 1) = true
    ·refine Aw k4 ?_
     by_cases k5 : (decide (((List.length (Ak ns) : Nat) : Int) > 0)) = true
     ·refine Aw k5 ?_
      exact
       rO [(56, .b false), (0, .b false), (0, .b false), (6, .b true), (1, .b true), (1, .b true), (6, .b false), (0, .b false), (0, .b false), (14, .b true), (1, .b true), (1, .b true), (1, .b true), (1, .b false), (14, .b true)] [_, _, _, _, _, _, _, _, _, _, _, _, _, _, _] (by kernel_rfl) ⟨cI k1, cI k1, cI k1, (cI (Ah k2)), (cI (Ah k2)), (cI (Ah k2)), (cI (Ah k3)), (cI (Ah k3)), (cI (Ah k3)), (cI (Ah k2)), (cI (Ah k2)), (cI (Ah k2)), (cI (Ah k2)), (cI (Ah k4)), cI k5, trivial⟩
     ·refine Ax k5 ?_
      replace k5 := Bool.eq_false_iff.2 k5
      exact
       rO [(56, .b false), (0, .b false), (0, .b false), (6, .b true), (1, .b true), (1, .b true), (6, .b false), (0, .b false), (0, .b false), (14, .b true), (1, .b true), (1, .b true), (1, .b true), (1, .b false), (14, .b false), (22, oC (w2 k1 k2 k3 k4 k5))] [_, _, _, _, _, _, _, _, _, _, _, _, _, _, _, _] (by kernel_rfl) ⟨cI k1, cI k1, cI k1, (cI (Ah k2)), (cI (Ah k2)), (cI (Ah k2)), (cI (Ah k3)), (cI (Ah k3)), (cI (Ah k3)), (cI (Ah k2)), (cI (Ah k2)), (cI (Ah k2)), (cI (Ah k2)), (cI (Ah k4)), cI k5, (w2 k1 k2 k3 k4 k5), trivial⟩
    ·refine Ax k4 ?_
     replace k4 := Bool.eq_false_iff.2 k4
     exact
      rO [(56, .b false), (0, .b false), (0, .b false), (6, .b true), (1, .b true), (1, .b true), (6, .b false), (0, .b false), (0, .b false), (14, .b true), (1, .b true), (1, .b true), (1, .b true), (1, .b true)] [_, _, _, _, _, _, _, _, _, _, _, _, _, _] (by kernel_rfl) ⟨cI k1, cI k1, cI k1, (cI (Ah k2)), (cI (Ah k2)), (cI (Ah k2)), (cI (Ah k3)), (cI (Ah k3)), (cI (Ah k3)), (cI (Ah k2)), (cI (Ah k2)), (cI (Ah k2)), (cI (Ah k2)), (cI (Ah k4)), trivial⟩
   ·refine Ax k3 ?_
    replace k3 := Bool.eq_false_iff.2 k3
    exact
     rO [(56, .b false), (0, .b false), (0, .b false), (6, .b true), (1, .b true), (1, .b true), (6, .b true), (1, .b true), (1, .b true)] [_, _, _, _, _, _, _, _, _] (by kernel_rfl) ⟨cI k1, cI k1, cI k1, (cI (Ah k2)), (cI (Ah k2)), (cI (Ah k2)), (cI (Ah k3)), (cI (Ah k3)), (cI (Ah k3)), trivial⟩
theorem vMay3_ {n : Int} {s : BY} {is : List Val} {ns : BL} (w1 : (decide (((List.length (Ad is) : Nat) : Int) > 0)) = false → (n == 0) = true → (s == []) = true → (decide (((List.length (Ak ns) : Nat) : Int) > 0)) = false → Runs lp 71 [pV is, .fn (.func 72) [] []] [] (pB (!(B7 is)), [])) (w2 : (decide (((List.length (Ad is) : Nat) : Int) > 0)) = false → (n == 0) = false → (s == []) = true → (decide (((List.length (Ak ns) : Nat) : Int) > 0)) = false → Runs lp 71 [pV is, .fn (.func 72) [] []] [] (pB (!(B7 is)), [])) :
  Runs lp 52 [.agg [pI 3, pI n, pT s, pV is, pN ns]] [] (if (decide (((List.length (Ad is) : Nat) : Int) > 0)) = true then ((pB false, [])) else (if (n == 0) = true then (if (s == []) = true then (if (decide (((List.length (Ak ns) : Nat) : Int) > 0)) = true then ((pB false, [])) else ((pB (!(!(B7 is))), []))) else ((pB false, []))) else (if (s == []) = true then (if (decide (((List.length (Ak ns) : Nat) : Int) > 0)) = true then ((pB false, [])) else ((pB (!(!(B7 is))), []))) else ((pB false, []))))) := by
 by_cases k1 : (decide (((List.length (Ad is) : Nat) : Int) > 0)) = true
 ·refine Aw k1 ?_
  exact
   rO [(53, .b true), (1, .b true), (1, .b true)] [_, _, _] (by kernel_rfl) ⟨cI k1, cI k1, cI k1, trivial⟩
 ·refine Ax k1 ?_
  replace k1 := Bool.eq_false_iff.2 k1
  by_cases k2 : (n == 0) = true
  ·refine Aw k2 ?_
   by_cases k3 : (s == []) = true
   ·refine Aw k3 ?_
    by_cases k4 : (decide (((List.length (Ak ns) : Nat) : Int) > 0)) = true
    ·refine Aw k4 ?_
     exact
      rO [(53, .b false), (0, .b false), (0, .b false), (6, .b false), (0, .b false), (0, .b false), (6, .b false), (0, .b false), (0, .b false), (31, .b true)] [_, _, _, _, _, _, _, _, _, _] (by kernel_rfl) ⟨cI k1, cI k1, cI k1, (cI (Ah k2)), (cI (Ah k2)), (cI (Ah k2)), (cI (Ah k3)), (cI (Ah k3)), (cI (Ah k3)), cI k4, trivial⟩
    ·refine Ax k4 ?_
     replace k4 := Bool.eq_false_iff.2 k4
     exact
      rO [(53, .b false), (0, .b false), (0, .b false), (6, .b false), (0, .b false), (0, .b false), (6, .b false), (0, .b false), (0, .b false), (31, .b false), (22, oC (w1 k1 k2 k3 k4))] [_, _, _, _, _, _, _, _, _, _, _] (by kernel_rfl) ⟨cI k1, cI k1, cI k1, (cI (Ah k2)), (cI (Ah k2)), (cI (Ah k2)), (cI (Ah k3)), (cI (Ah k3)), (cI (Ah k3)), cI k4, (w1 k1 k2 k3 k4), trivial⟩
   ·refine Ax k3 ?_
    replace k3 := Bool.eq_false_iff.2 k3
    exact
     rO [(53, .b false), (0, .b false), (0, .b false), (6, .b false), (0, .b false), (0, .b false), (6, .b true), (1, .b true), (1, .b true)] [_, _, _, _, _, _, _, _, _] (by kernel_rfl) ⟨cI k1, cI k1, cI k1, (cI (Ah k2)), (cI (Ah k2)), (cI (Ah k2)), (cI (Ah k3)), (cI (Ah k3)), (cI (Ah k3)), trivial⟩
  ·refine Ax k2 ?_
   replace k2 := Bool.eq_false_iff.2 k2
   by_cases k3 : (s == []) = true
   ·refine Aw k3 ?_
    by_cases k4 : (decide (((List.length (Ak ns) : Nat) : Int) > 0)) = true
    ·refine Aw k4 ?_
     exact
      rO [(53, .b false), (0, .b false), (0, .b false), (6, .b true), (1, .b true), (1, .b true), (6, .b false), (0, .b false), (0, .b false), (31, .b true)] [_, _, _, _, _, _, _, _, _, _] (by kernel_rfl) ⟨cI k1, cI k1, cI k1, (cI (Ah k2)), (cI (Ah k2)), (cI (Ah k2)), (cI (Ah k3)), (cI (Ah k3)), (cI (Ah k3)), cI k4, trivial⟩
    ·refine Ax k4 ?_
     replace k4 := Bool.eq_false_iff.2 k4
     exact
      rO [(53, .b false), (0, .b false), (0, .b false), (6, .b true), (1, .b true), (1, .b true), (6, .b false), (0, .b false), (0, .b false), (31, .b false), (22, oC (w2 k1 k2 k3 k4))] [_, _, _, _, _, _, _, _, _, _, _] (by kernel_rfl) ⟨cI k1, cI k1, cI k1, (cI (Ah k2)), (cI (Ah k2)), (cI (Ah k2)), (cI (Ah k3)), (cI (Ah k3)), (cI (Ah k3)), cI k4, (w2 k1 k2 k3 k4), trivial⟩
   ·refine Ax k3 ?_
    replace k3 := Bool.eq_false_iff.2 k3
    exact
     rO [(53, .b false), (0, .b false), (0, .b false), (6, .b true), (1, .b true), (1, .b true), (6, .b true), (1, .b true), (1, .b true)] [_, _, _, _, _, _, _, _, _] (by kernel_rfl) ⟨cI k1, cI k1, cI k1, (cI (Ah k2)), (cI (Ah k2)), (cI (Ah k2)), (cI (Ah k3)), (cI (Ah k3)), (cI (Ah k3)), trivial⟩
theorem vMay4_ {n : Int} {s : BY} {is : List Val} {ns : BL} (w1 : (decide (((List.length (Ad is) : Nat) : Int) > 0)) = false → (n == 0) = true → (s == []) = true → (decide (((List.length (Ak ns) : Nat) : Int) > 0)) = false → Runs lp 71 [pV is, .fn (.func 72) [] []] [] (pB (!(B7 is)), [])) (w2 : (decide (((List.length (Ad is) : Nat) : Int) > 0)) = false → (n == 0) = true → (s == []) = false → (decide (((List.length (Ak ns) : Nat) : Int) > 0)) = false → Runs lp 71 [pV is, .fn (.func 72) [] []] [] (pB (!(B7 is)), [])) :
  Runs lp 52 [.agg [pI 4, pI n, pT s, pV is, pN ns]] [] (if (decide (((List.length (Ad is) : Nat) : Int) > 0)) = true then ((pB false, [])) else (if (n == 0) = true then (if (s == []) = true then (if (decide (((List.length (Ak ns) : Nat) : Int) > 0)) = true then ((pB false, [])) else ((pB (!(!(B7 is))), []))) else (if (decide (((List.length (Ak ns) : Nat) : Int) > 0)) = true then ((pB false, [])) else ((pB (!(!(B7 is))), [])))) else ((pB false, [])))) := by
 by_cases k1 : (decide (((List.length (Ad is) : Nat) : Int) > 0)) = true
 ·refine Aw k1 ?_
  exact
   rO [(53, .b true), (1, .b true), (1, .b true)] [_, _, _] (by kernel_rfl) ⟨cI k1, cI k1, cI k1, trivial⟩
 ·refine Ax k1 ?_
  replace k1 := Bool.eq_false_iff.2 k1
  by_cases k2 : (n == 0) = true
  ·refine Aw k2 ?_
   by_cases k3 : (s == []) = true
   ·refine Aw k3 ?_
    by_cases k4 : (decide (((List.length (Ak ns) : Nat) : Int) > 0)) = true
    ·refine Aw k4 ?_
     exact
      rO [(53, .b false), (0, .b false), (0, .b false), (6, .b false), (0, .b false), (0, .b false), (6, .b false), (0, .b false), (0, .b false), (31, .b true)] [_, _, _, _, _, _, _, _, _, _] (by kernel_rfl) ⟨cI k1, cI k1, cI k1, (cI (Ah k2)), (cI (Ah k2)), (cI (Ah k2)), (cI (Ah k3)), (cI (Ah k3)), (cI (Ah k3)), cI k4, trivial⟩
    ·refine Ax k4 ?_
     replace k4 := Bool.eq_false_iff.2 k4
     exact
      rO [(53, .b false), (0, .b false), (0, .b false), (6, .b false), (0, .b false), (0, .b false), (6, .b false), (0, .b false), (0, .b false), (31, .b false), (22, oC (w1 k1 k2 k3 k4))] [_, _, _, _, _, _, _, _, _, _, _] (by kernel_rfl) ⟨cI k1, cI k1, cI k1, (cI (Ah k2)), (cI (Ah k2)), (cI (Ah k2)), (cI (Ah k3)), (cI (Ah k3)), (cI (Ah k3)), cI k4, (w1 k1 k2 k3 k4), trivial⟩
   ·refine Ax k3 ?_
    replace k3 := Bool.eq_false_iff.2 k3
    by_cases k4 : (decide (((List.length (Ak ns) : Nat) : Int) > 0)) = true
    ·refine Aw k4 ?_
     exact
      rO [(53, .b false), (0, .b false), (0, .b false), (6, .b false), (0, .b false), (0, .b false), (6, .b true), (1, .b true), (1, .b true), (31, .b true)] [_, _, _, _, _, _, _, _, _, _] (by kernel_rfl) ⟨cI k1, cI k1, cI k1, (cI (Ah k2)), (cI (Ah k2)), (cI (Ah k2)), (cI (Ah k3)), (cI (Ah k3)), (cI (Ah k3)), cI k4, trivial⟩
    ·refine Ax k4 ?_
     replace k4 := Bool.eq_false_iff.2 k4
     exact
      rO [(53, .b false), (0, .b false), (0, .b false), (6, .b false), (0, .b false), (0, .b false), (6, .b true), (1, .b true), (1, .b true), (31, .b false), (22, oC (w2 k1 k2 k3 k4))] [_, _, _, _, _, _, _, _, _, _, _] (by kernel_rfl) ⟨cI k1, cI k1, cI k1, (cI (Ah k2)), (cI (Ah k2)), (cI (Ah k2)), (cI (Ah k3)), (cI (Ah k3)), (cI (Ah k3)), cI k4, (w2 k1 k2 k3 k4), trivial⟩
  ·refine Ax k2 ?_
   replace k2 := Bool.eq_false_iff.2 k2
   exact
    rO [(53, .b false), (0, .b false), (0, .b false), (6, .b true), (1, .b true), (1, .b true)] [_, _, _, _, _, _] (by kernel_rfl) ⟨cI k1, cI k1, cI k1, (cI (Ah k2)), (cI (Ah k2)), (cI (Ah k2)), trivial⟩
theorem vMay5_ {n : Int} {s : BY} {is : List Val} {ns : BL} (w1 : (decide (((List.length (Ad is) : Nat) : Int) > 0)) = false → (n == 0) = true → (s == []) = true → (decide (((List.length (Ak ns) : Nat) : Int) > 0)) = false → Runs lp 71 [pV is, .fn (.func 72) [] []] [] (pB (!(B7 is)), [])) (w2 : (decide (((List.length (Ad is) : Nat) : Int) > 0)) = false → (n == 0) = true → (s == []) = false → (decide (((List.length (Ak ns) : Nat) : Int) > 0)) = false → Runs lp 71 [pV is, .fn (.func 72) [] []] [] (pB (!(B7 is)), [])) :
  Runs lp 52 [.agg [pI 5, pI n, pT s, pV is, pN ns]] [] (if (decide (((List.length (Ad is) : Nat) : Int) > 0)) = true then ((pB false, [])) else (if (n == 0) = true then (if (s == []) = true then (if (decide (((List.length (Ak ns) : Nat) : Int) > 0)) = true then ((pB false, [])) else ((pB (!(!(B7 is))), []))) else (if (decide (((List.length (Ak ns) : Nat) : Int) > 0)) = true then ((pB false, [])) else ((pB (!(!(B7 is))), [])))) else ((pB false, [])))) := by
 by_cases k1 : (decide (((List.length (Ad is) : Nat) : Int) > 0)) = true
 ·refine Aw k1 ?_
  exact
   rO [(56, .b true), (1, .b true), (1, .b true)] [_, _, _] (by kernel_rfl) ⟨cI k1, cI k1, cI k1, trivial⟩
 ·refine Ax k1 ?_
  replace k1 := Bool.eq_false_iff.2 k1
  by_cases k2 : (n == 0) = true
  ·refine Aw k2 ?_
   by_cases k3 : (s == []) = true
   ·refine Aw k3 ?_
    by_cases k4 : (decide (((List.length (Ak ns) : Nat) : Int) > 0)) = true
    ·refine Aw k4 ?_
     exact
      rO [(56, .b false), (0, .b false), (0, .b false), (6, .b false), (0, .b false), (0, .b false), (6, .b false), (0, .b false), (0, .b false), (31, .b true)] [_, _, _, _, _, _, _, _, _, _] (by kernel_rfl) ⟨cI k1, cI k1, cI k1, (cI (Ah k2)), (cI (Ah k2)), (cI (Ah k2)), (cI (Ah k3)), (cI (Ah k3)), (cI (Ah k3)), cI k4, trivial⟩
    ·refine Ax k4 ?_
     replace k4 := Bool.eq_false_iff.2 k4
     exact
      rO [(56, .b false), (0, .b false), (0, .b false), (6, .b false), (0, .b false), (0, .b false), (6, .b false), (0, .b false), (0, .b false), (31, .b false), (22, oC (w1 k1 k2 k3 k4))] [_, _, _, _, _, _, _, _, _, _, _] (by kernel_rfl) ⟨cI k1, cI k1, cI k1, (cI (Ah k2)), (cI (Ah k2)), (cI (Ah k2)), (cI (Ah k3)), (cI (Ah k3)), (cI (Ah k3)), cI k4, (w1 k1 k2 k3 k4), trivial⟩
   ·refine Ax k3 ?_
    replace k3 := Bool.eq_false_iff.2 k3
    by_cases k4 : (decide (((List.length (Ak ns) : Nat) : Int) > 0)) = true
    ·refine Aw k4 ?_
     exact
      rO [(56, .b false), (0, .b false), (0, .b false), (6, .b false), (0, .b false), (0, .b false), (6, .b true), (1, .b true), (1, .b true), (31, .b true)] [_, _, _, _, _, _, _, _, _, _] (by kernel_rfl) ⟨cI k1, cI k1, cI k1, (cI (Ah k2)), (cI (Ah k2)), (cI (Ah k2)), (cI (Ah k3)), (cI (Ah k3)), (cI (Ah k3)), cI k4, trivial⟩
    ·refine Ax k4 ?_
     replace k4 := Bool.eq_false_iff.2 k4
     exact
      rO [(56, .b false), (0, .b false), (0, .b false), (6, .b false), (0, .b false), (0, .b false), (6, .b true), (1, .b true), (1, .b true), (31, .b false), (22, oC (w2 k1 k2 k3 k4))] [_, _, _, _, _, _, _, _, _, _, _] (by kernel_rfl) ⟨cI k1, cI k1, cI k1, (cI (Ah k2)), (cI (Ah k2)), (cI (Ah k2)), (cI (Ah k3)), (cI (Ah k3)), (cI (Ah k3)), cI k4, (w2 k1 k2 k3 k4), trivial⟩
  ·refine Ax k2 ?_
   replace k2 := Bool.eq_false_iff.2 k2
   exact
    rO [(56, .b false), (0, .b false), (0, .b false), (6, .b true), (1, .b true), (1, .b true)] [_, _, _, _, _, _] (by kernel_rfl) ⟨cI k1, cI k1, cI k1, (cI (Ah k2)), (cI (Ah k2)), (cI (Ah k2)), trivial⟩
theorem vMay6_ {n : Int} {s : BY} {is : List Val} {ns : BL} (w1 : (decide (((List.length (Ad is) : Nat) : Int) > 0)) = true → (n == 0) = true → (s == []) = true → (decide (((List.length (Ak ns) : Nat) : Int) > 0)) = false → Runs lp 71 [pV is, .fn (.func 72) [] []] [] (pB (!(B7 is)), [])) (w2 : (decide (((List.length (Ad is) : Nat) : Int) > 0)) = false → (n == 0) = true → (s == []) = true → (decide (((List.length (Ak ns) : Nat) : Int) > 0)) = false → Runs lp 71 [pV is, .fn (.func 72) [] []] [] (pB (!(B7 is)), [])) :
  Runs lp 52 [.agg [pI 6, pI n, pT s, pV is, pN ns]] [] (if (decide (((List.length (Ad is) : Nat) : Int) > 0)) = true then (if (n == 0) = true then (if (s == []) = true then (if (decide (((List.length (Ak ns) : Nat) : Int) > 0)) = true then ((pB false, [])) else ((pB (!(!(B7 is))), []))) else ((pB false, []))) else ((pB false, []))) else (if (n == 0) = true then (if (s == []) = true then (if (decide (((List.length (Ak ns) : Nat) : Int) > 0)) = true then ((pB false, [])) else ((pB (!(!(B7 is))), []))) else ((pB false, []))) else ((pB false, [])))) := by
 by_cases k1 : (decide (((List.length (Ad is) : Nat) : Int) > 0)) = true
 ·refine Aw k1 ?_
  by_cases k2 : (n == 0) = true
  ·refine Aw k2 ?_
   by_cases k3 : (s == []) = true
   ·refine Aw k3 ?_
    by_cases k4 : (decide (((List.length (Ak ns) : Nat) : Int) > 0)) = true
    ·refine Aw k4 ?_
     exact
      rO [(53, .b true), (1, .b true), (1, .b true), (6, .b false), (0, .b false), (0, .b false), (6, .b false), (0, .b false), (0, .b false), (31, .b true)] [_, _, _, _, _, _, _, _, _, _] (by kernel_rfl) ⟨cI k1, cI k1, cI k1, (cI (Ah k2)), (cI (Ah k2)), (cI (Ah k2)), (cI (Ah k3)), (cI (Ah k3)), (cI (Ah k3)), cI k4, trivial⟩
    ·refine Ax k4 ?_
     replace k4 := Bool.eq_false_iff.2 k4
     exact
      rO [(53, .b true), (1, .b true), (1, .b true), (6, .b false), (0, .b false), (0, .b false), (6, .b false), (0, .b false), (0, .b false), (31, .b false), (22, oC (w1 k1 k2 k3 k4))] [_, _, _, _, _, _, _, _, _, _, _] (by kernel_rfl) ⟨cI k1, cI k1, cI k1, (cI (Ah k2)), (cI (Ah k2)), (cI (Ah k2)), (cI (Ah k3)), (cI (Ah k3)), (cI (Ah k3)), cI k4, (w1 k1 k2 k3 k4), trivial⟩
   ·refine Ax k3 ?_
    replace k3 := Bool.eq_false_iff.2 k3
    exact
     rO [(53, .b true), (1, .b true), (1, .b true), (6, .b false), (0, .b false), (0, .b false), (6, .b true), (1, .b true), (1, .b true)] [_, _, _, _, _, _, _, _, _] (by kernel_rfl) ⟨cI k1, cI k1, cI k1, (cI (Ah k2)), (cI (Ah k2)), (cI (Ah k2)), (cI (Ah k3)), (cI (Ah k3)), (cI (Ah k3)), trivial⟩
  ·refine Ax k2 ?_
   replace k2 := Bool.eq_false_iff.2 k2
   exact
    rO [(53, .b true), (1, .b true), (1, .b true), (6, .b true), (1, .b true), (1, .b true)] [_, _, _, _, _, _] (by kernel_rfl) ⟨cI k1, cI k1, cI k1, (cI (Ah k2)), (cI (Ah k2)), (cI (Ah k2)), trivial⟩
 ·refine Ax k1 ?_
  replace k1 := Bool.eq_false_iff.2 k1
  by_cases k2 : (n == 0) = true
  ·refine Aw k2 ?_
   by_cases k3 : (s == []) = true
   ·refine Aw k3 ?_
    by_cases k4 : (decide (((List.length (Ak ns) : Nat) : Int) > 0)) = true
    ·refine Aw k4 ?_
     exact
      rO [(53, .b false), (0, .b false), (0, .b false), (6, .b false), (0, .b false), (0, .b false), (6, .b false), (0, .b false), (0, .b false), (31, .b true)] [_, _, _, _, _, _, _, _, _, _] (by kernel_rfl) ⟨cI k1, cI k1, cI k1, (cI (Ah k2)), (cI (Ah k2)), (cI (Ah k2)), (cI (Ah k3)), (cI (Ah k3)), (cI (Ah k3)), cI k4, trivial⟩
    ·refine Ax k4 ?_
     replace k4 := Bool.eq_false_iff.2 k4
     exact
      rO [(53, .b false), (0, .b false), (0, .b false), (6, .b false), (0, .b false), (0, .b false), (6, .b false), (0, .b false), (0, .b false), (31, .b false), (22, oC (w2 k1 k2 k3 k4))] [_, _, _, _, _, _, _, _, _, _, _] (by kernel_rfl) ⟨cI k1, cI k1, cI k1, (cI (Ah k2)), (cI (Ah k2)), (cI (Ah k2)), (cI (Ah k3)), (cI (Ah k3)), (cI (Ah k3)), cI k4, (w2 k1 k2 k3 k4), trivial⟩
   ·refine Ax k3 ?_
    replace k3 := Bool.eq_false_iff.2 k3
    exact
     rO [(53, .b false), (0, .b false), (0, .b false), (6, .b false), (0, .b false), (0, .b false), (6, .b true), (1, .b true), (1, .b true)] [_, _, _, _, _, _, _, _, _] (by kernel_rfl) ⟨cI k1, cI k1, cI k1, (cI (Ah k2)), (cI (Ah k2)), (cI (Ah k2)), (cI (Ah k3)), (cI (Ah k3)), (cI (Ah k3)), trivial⟩
  ·refine Ax k2 ?_
   replace k2 := Bool.eq_false_iff.2 k2
   exact
    rO [(53, .b false), (0, .b false), (0, .b false), (6, .b true), (1, .b true), (1, .b true)] [_, _, _, _, _, _] (by kernel_rfl) ⟨cI k1, cI k1, cI k1, (cI (Ah k2)), (cI (Ah k2)), (cI (Ah k2)), trivial⟩
theorem vMay7_ {n : Int} {s : BY} {is : List Val} {ns : BL} (w1 : (decide (((List.length (Ad is) : Nat) : Int) > 0)) = true → (n == 0) = true → (s == []) = true → (((List.length (Ak ns) : Nat) : Int) == ((List.length (Ad is) : Nat) : Int)) = true → Runs lp 70 [pN ns] [] (pB (Ci ns), [])) (w2 : (decide (((List.length (Ad is) : Nat) : Int) > 0)) = true → (n == 0) = true → (s == []) = true → (((List.length (Ak ns) : Nat) : Int) == ((List.length (Ad is) : Nat) : Int)) = true → (Ci ns) = true → Runs lp 71 [pV is, .fn (.func 72) [] []] [] (pB (!(B7 is)), [])) (w3 : (decide (((List.length (Ad is) : Nat) : Int) > 0)) = false → (n == 0) = true → (s == []) = true → (((List.length (Ak ns) : Nat) : Int) == ((List.length (Ad is) : Nat) : Int)) = true → Runs lp 70 [pN ns] [] (pB (Ci ns), [])) (w4 : (decide (((List.length (Ad is) : Nat) : Int) > 0)) = false → (n == 0) = true → (s == []) = true → (((List.length (Ak ns) : Nat) : Int) == ((List.length (Ad is) : Nat) : Int)) = true → (Ci ns) = true → Runs lp 71 [pV is, .fn (.func 72) [] []] [] (pB (!(B7 is)), [])) :
  Runs lp 52 [.agg [pI 7, pI n, pT s, pV is, pN ns]] [] (if (decide (((List.length (Ad is) : Nat) : Int) > 0)) = true then (if (n == 0) = true then (if (s == []) = true then (if (((List.length (Ak ns) : Nat) : Int) == ((List.length (Ad is) : Nat) : Int)) = true then (if (Ci ns) = true then ((pB (!(!(B7 is))), [])) else ((pB false, []))) else ((pB false, []))) else ((pB false, []))) else ((pB false, []))) else (if (n == 0) = true then (if (s == []) = true then (if (((List.length (Ak ns) : Nat) : Int) == ((List.length (Ad is) : Nat) : Int)) = true then (if (Ci ns) = true then ((pB (!(!(B7 is))), [])) else ((pB false, []))) else ((pB false, []))) else ((pB false, []))) else ((pB false, [])))) := by
 by_cases k1 : (decide (((List.length (Ad is) : Nat) : Int) > 0)) = true
 ·refine Aw k1 ?_
  by_cases k2 : (n == 0) = true
  ·refine Aw k2 ?_
   by_cases k3 : (s == []) = true
   ·refine Aw k3 ?_
    by_cases k4 : (((List.length (Ak ns) : Nat) : Int) == ((List.length (Ad is) : Nat) : Int)) = true
    ·refine Aw k4 ?_
     by_cases k5 : (Ci ns) = true
     ·refine Aw k5 ?_
      exact
       rO [(56, .b true), (1, .b true), (1, .b true), (6, .b false), (0, .b false), (0, .b false), (6, .b false), (0, .b false), (0, .b false), (48, .b false), (1, .b false), (1, .b false), (0, oC (w1 k1 k2 k3 k4)), (0, .b false), (2, .b false), (2, .b false), (2, oC (w2 k1 k2 k3 k4 k5))] [_, _, _, _, _, _, _, _, _, _, _, _, _, _, _, _, _] (by kernel_rfl) ⟨cI k1, cI k1, cI k1, (cI (Ah k2)), (cI (Ah k2)), (cI (Ah k2)), (cI (Ah k3)), (cI (Ah k3)), (cI (Ah k3)), (cI (Ah k4)), (cI (Ah k4)), (cI (Ah k4)), (w1 k1 k2 k3 k4), (cI (Ah k4)), (cI (Ah k4)), (cI (Ah k5)), (w2 k1 k2 k3 k4 k5), trivial⟩
     ·refine Ax k5 ?_
      replace k5 := Bool.eq_false_iff.2 k5
      exact
       rO [(56, .b true), (1, .b true), (1, .b true), (6, .b false), (0, .b false), (0, .b false), (6, .b false), (0, .b false), (0, .b false), (48, .b false), (1, .b false), (1, .b false), (0, oC (w1 k1 k2 k3 k4)), (0, .b false), (2, .b false), (2, .b true)] [_, _, _, _, _, _, _, _, _, _, _, _, _, _, _, _] (by kernel_rfl) ⟨cI k1, cI k1, cI k1, (cI (Ah k2)), (cI (Ah k2)), (cI (Ah k2)), (cI (Ah k3)), (cI (Ah k3)), (cI (Ah k3)), (cI (Ah k4)), (cI (Ah k4)), (cI (Ah k4)), (w1 k1 k2 k3 k4), (cI (Ah k4)), (cI (Ah k4)), (cI (Ah k5)), trivial⟩
    ·refine Ax k4 ?_
     replace k4 := Bool.eq_false_iff.2 k4
     exact
      rO [(56, .b true), (1, .b true), (1, .b true), (6, .b false), (0, .b false), (0, .b false), (6, .b false), (0, .b false), (0, .b false), (48, .b true), (0, .b true), (0, .b true), (0, .b true), (1, .b true)] [_, _, _, _, _, _, _, _, _, _, _, _, _, _] (by kernel_rfl) ⟨cI k1, cI k1, cI k1, (cI (Ah k2)), (cI (Ah k2)), (cI (Ah k2)), (cI (Ah k3)), (cI (Ah k3)), (cI (Ah k3)), (cI (Ah k4)), (cI (Ah k4)), (cI (Ah k4)), (cI (Ah k4)), (cI (Ah k4)), trivial⟩
   ·refine Ax k3 ?_
    replace k3 := Bool.eq_false_iff.2 k3
    exact
     rO [(56, .b true), (1, .b true), (1, .b true), (6, .b false), (0, .b false), (0, .b false), (6, .b true), (1, .b true), (1, .b true)] [_, _, _, _, _, _, _, _, _] (by kernel_rfl) ⟨cI k1, cI k1, cI k1, (cI (Ah k2)), (cI (Ah k2)), (cI (Ah k2)), (cI (Ah k3)), (cI (Ah k3)), (cI (Ah k3)), trivial⟩
  ·refine Ax k2 ?_
   replace k2 := Bool.eq_false_iff.2 k2
   exact
    rO [(56, .b true), (1, .b true), (1, .b true), (6, .b true), (1, .b true), (1, .b true)] [_, _, _, _, _, _] (by kernel_rfl) ⟨cI k1, cI k1, cI k1, (cI (Ah k2)), (cI (Ah k2)), (cI (Ah k2)), trivial⟩
 ·refine Ax k1 ?_
  replace k1 := Bool.eq_false_iff.2 k1
  by_cases k2 : (n == 0) = true
  ·refine Aw k2 ?_
   by_cases k3 : (s == []) = true
   ·refine Aw k3 ?_
    by_cases k4 : (((List.length (Ak ns) : Nat) : Int) == ((List.length (Ad is) : Nat) : Int)) = true
    ·refine Aw k4 ?_
     by_cases k5 : (Ci ns) = true
     ·refine Aw k5 ?_
      exact
       rO [(56, .b false), (0, .b false), (0, .b false), (6, .b false), (0, .b false), (0, .b false), (6, .b false), (0, .b false), (0, .b false), (48, .b false), (1, .b false), (1, .b false), (0, oC (w3 k1 k2 k3 k4)), (0, .b false), (2, .b false), (2, .b false), (2, oC (w4 k1 k2 k3 k4 k5))] [_, _, _, _, _, _, _, _, _, _, _, _, _, _, _, _, _] (by kernel_rfl) ⟨cI k1, cI k1, cI k1, (cI (Ah k2)), (cI (Ah k2)), (cI (Ah k2)), (cI (Ah k3)), (cI (Ah k3)), (cI (Ah k3)), (cI (Ah k4)), (cI (Ah k4)), (cI (Ah k4)), (w3 k1 k2 k3 k4), (cI (Ah k4)), (cI (Ah k4)), (cI (Ah k5)), (w4 k1 k2 k3 k4 k5), trivial⟩
     ·refine Ax k5 ?_
      replace k5 := Bool.eq_false_iff.2 k5
      exact
       rO [(56, .b false), (0, .b false), (0, .b false), (6, .b false), (0, .b false), (0, .b false), (6, .b false), (0, .b false), (0, .b false), (48, .b false), (1, .b false), (1, .b false), (0, oC (w3 k1 k2 k3 k4)), (0, .b false), (2, .b false), (2, .b true)] [_, _, _, _, _, _, _, _, _, _, _, _, _, _, _, _] (by kernel_rfl) ⟨cI k1, cI k1, cI k1, (cI (Ah k2)), (cI (Ah k2)), (cI (Ah k2)), (cI (Ah k3)), (cI (Ah k3)), (cI (Ah k3)), (cI (Ah k4)), (cI (Ah k4)), (cI (Ah k4)), (w3 k1 k2 k3 k4), (cI (Ah k4)), (cI (Ah k4)), (cI (Ah k5)), trivial⟩
    ·refine Ax k4 ?_
     replace k4 := Bool.eq_false_iff.2 k4
     exact
      rO [(56, .b false), (0, .b false), (0, .b false), (6, .b false), (0, .b false), (0, .b false), (6, .b false), (0, .b false), (0, .b false), (48, .b true), (0, .b true), (0, .b true), (0, .b true), (1, .b true)] [_, _, _, _, _, _, _, _, _, _, _, _, _, _] (by kernel_rfl) ⟨cI k1, cI k1, cI k1, (cI (Ah k2)), (cI (Ah k2)), (cI (Ah k2)), (cI (Ah k3)), (cI (Ah k3)), (cI (Ah k3)), (cI (Ah k4)), (cI (Ah k4)), (cI (Ah k4)), (cI (Ah k4)), (cI (Ah k4)), trivial⟩
   ·refine Ax k3 ?_
    replace k3 := Bool.eq_false_iff.2 k3
    exact
     rO [(56, .b false), (0, .b false), (0, .b false), (6, .b false), (0, .b false), (0, .b false), (6, .b true), (1, .b true), (1, .b true)] [_, _, _, _, _, _, _, _, _] (by kernel_rfl) ⟨cI k1, cI k1, cI k1, (cI (Ah k2)), (cI (Ah k2)), (cI (Ah k2)), (cI (Ah k3)), (cI (Ah k3)), (cI (Ah k3)), trivial⟩
  ·refine Ax k2 ?_
   replace k2 := Bool.eq_false_iff.2 k2
   exact
    rO [(56, .b false), (0, .b false), (0, .b false), (6, .b true), (1, .b true), (1, .b true)] [_, _, _, _, _, _] (by kernel_rfl) ⟨cI k1, cI k1, cI k1, (cI (Ah k2)), (cI (Ah k2)), (cI (Ah k2)), trivial⟩
theorem Us {k n : Int} {s : BY} {is : List Val} {ns : BL} (c1 : (k == 6) = false) (c2 : (k == 3) = false) (c3 : (k == 4) = false) (c4 : (decide (k < 1)) = true) :
  Runs lp 52 [.agg (aR1 is k n ns s)] [] (pB false, []) :=
 rO [(6, .b false), (1, .b false), (1, .b false), (1, .b false), (5, .b false), (1, .b false), (1, .b false), (1, .b false), (5, .b false), (1, .b false), (1, .b false), (1, .b false), (5, .b true), (0, .b true), (0, .b true), (0, .b true)] [_, _, _, _, _, _, _, _, _, _, _, _, _, _, _, _] (by kernel_rfl) ⟨cI c1, cI c1, cI c1, cI c1, cI c2, cI c2, cI c2, cI c2, cI c3, cI c3, cI c3, cI c3, cI c4, cI c4, cI c4, cI c4, trivial⟩
theorem Sh {k n : Int} {s : BY} {is : List Val} {ns : BL} (c1 : (k == 6) = false) (c2 : (k == 3) = false) (c3 : (k == 4) = false) (c4 : (decide (k < 1)) = false) (c5 : (decide (k > 7)) = true) :
  Runs lp 52 [.agg (aR1 is k n ns s)] [] (pB false, []) :=
 rO [(6, .b false), (1, .b false), (1, .b false), (1, .b false), (5, .b false), (1, .b false), (1, .b false), (1, .b false), (5, .b false), (1, .b false), (1, .b false), (1, .b false), (5, .b false), (1, .b false), (1, .b false), (1, .b false), (1, .b true)] [_, _, _, _, _, _, _, _, _, _, _, _, _, _, _, _, _] (by kernel_rfl) ⟨cI c1, cI c1, cI c1, cI c1, cI c2, cI c2, cI c2, cI c2, cI c3, cI c3, cI c3, cI c3, cI c4, cI c4, cI c4, cI c4, cI c5, trivial⟩
end Go.Proofs.Ytmbjojnldbeicaa
