import Derived.Test.YtegboccilfofmaaGreatLsAb
import Derived.Test.YtegboccilfofmaaGreatLsSpc2
set_option linter.unusedVariables false
set_option maxRecDepth 100000
namespace Go.Proofs.YtegboccilfofmaaGreat
open Go Go.LS
theorem rPcR_yy {k n : Int} {s : BY} {is : List Val} {ns : BL} {x : BY} {i : Nat} (c1 : (decide ((i : Int) < ((List.length (Ab ns) : Nat) : Int))) = true) (h2 : i < List.length ns) (c3 : ((List.getD (α := BY) ns i []) == x) = true) :
  LoopN lp 0 (Ac Nf 0) (tl 0 36 [(1, pT x), (2, P00), (6, pI (i : Int))]) [.row [(aR7 is k n ns s)]] (.ret, (tl 0 36 [(4, pI (i : Int))]), [.row [(aR7 is k n ns s)]]) :=
 have q1 : OpE [.row [(aR7 is k n ns s)]] (.indexAddr 1 (.const (pN ns)) (.const (pI (i : Int)))) (.pin [.str (List.getD (α := BY) ns i [])] 0) := (Ao rfl rfl (A1 h2) rfl)
 lX [(5, .b true), (3, oO q1), (3, .b true)] [_, _, _] (by kernel_rfl) (by kernel_rfl) ⟨cI c1, q1, cI c3, trivial⟩
theorem rPcR_yn {k n : Int} {s : BY} {is : List Val} {ns : BL} {x : BY} {i : Nat} (c1 : (decide ((i : Int) < ((List.length (Ab ns) : Nat) : Int))) = true) (h2 : i < List.length ns) (c3 : ((List.getD (α := BY) ns i []) == x) = false) {r : RL} (hr : LoopN lp 0 (Ac Nf 0) (tl 0 36 [(1, pT x), (2, P00), (6, pI (IntKind.wrap .i64 ((i : Int) + 1)))]) [.row [(aR7 is k n ns s)]] r) :
  LoopN lp 0 (Ac Nf 0) (tl 0 36 [(1, pT x), (2, P00), (6, pI (i : Int))]) [.row [(aR7 is k n ns s)]] r :=
 have q1 : OpE [.row [(aR7 is k n ns s)]] (.indexAddr 1 (.const (pN ns)) (.const (pI (i : Int)))) (.pin [.str (List.getD (α := BY) ns i [])] 0) := (Ao rfl rfl (A1 h2) rfl)
 lO [(5, .b true), (3, oO q1), (3, .b false)] [_, _, _] (by kernel_rfl) ⟨cI c1, q1, cI c3, trivial⟩ hr
theorem rPcR_n {k n : Int} {s : BY} {is : List Val} {ns : BL} {x : BY} {i : Nat} (c1 : (decide ((i : Int) < ((List.length (Ab ns) : Nat) : Int))) = false) :
  LoopN lp 0 (Ac Nf 0) (tl 0 36 [(1, pT x), (2, P00), (6, pI (i : Int))]) [.row [(aR7 is k n ns s)]] (.exit 0, (tl 0 36 []), [.row [(aR7 is k n ns s)]]) :=
 lX [(5, .b false)] [_] (by kernel_rfl) (by kernel_rfl) ⟨cI c1, trivial⟩
theorem rPc0 {n : Int} {s : BY} {is : List Val} {ns : BL} {x : BY} {i : Nat} {bb : Bool} (w1 : (bb) = true → LoopN lp 0 (Ac Nf 0) (tl 0 36 [(1, pT x), (2, P00), (6, pI 0)]) [.row [[pI 7, pI n, pT s, pV is, pN ns]]] (.ret, (tl 0 36 [(4, pI (i : Int))]), [.row [[pI 7, pI n, pT s, pV is, pN ns]]])) (w2 : (bb) = false → LoopN lp 0 (Ac Nf 0) (tl 0 36 [(1, pT x), (2, P00), (6, pI 0)]) [.row [[pI 7, pI n, pT s, pV is, pN ns]]] (.exit 0, (tl 0 36 []), [.row [[pI 7, pI n, pT s, pV is, pN ns]]])) :
  Runs lp 63 [.agg [pI 7, pI n, pT s, pV is, pN ns], pT x] [] (if (bb) = true then ((pI (i : Int), [])) else ((pI (-1), []))) := by
 by_cases k1 : (bb) = true
 ·refine Ak k1 ?_
  exact
   rO [(11, oL (w1 k1))] [_] (by kernel_rfl) ⟨(w1 k1), trivial⟩
 ·refine Al k1 ?_
  replace k1 := Bool.eq_false_iff.2 k1
  exact
   rO [(11, oL (w2 k1))] [_] (by kernel_rfl) ⟨(w2 k1), trivial⟩
theorem Pu {n : Int} {s : BY} {is : List Val} {ns : BL} {m : Nat} {bb : Bool} (c1 : (bb) = true) (h2 : Runs lp 63 [.agg [pI 7, pI n, pT s, pV is, pN ns], pT [95, 105, 100]] [] (pI (m : Int), [])) (c3 : (decide ((m : Int) < 0)) = true) :
  LoopN lp 0 (Ac Mk 0) (tl 0 29 [(1, .p (.sl [[.str [95, 105, 100]]])), (2, P00), (4, P10), (6, pI 0)]) [.row [[pI 7, pI n, pT s, pV is, pN ns]], .row aR2] (.ret, (tl 0 29 [(4, P10), (5, pB false)]), [.row [[pI 7, pI n, pT s, pV is, pN ns]], .row aR2]) :=
 lX [(10, oC h2), (3, .b true)] [_, _] (by kernel_rfl) (by kernel_rfl) ⟨h2, cI c3, trivial⟩
theorem Pv {n : Int} {s : BY} {is : List Val} {ns : BL} {ke ne : Int} {se : BY} {ise : List Val} {nse : BL} {m : Nat} {bb : Bool} (c1 : (bb) = true) (h2 : Runs lp 63 [.agg [pI 7, pI n, pT s, pV is, pN ns], pT [95, 105, 100]] [] (pI (m : Int), [])) (c3 : (decide ((m : Int) < 0)) = false) (h4 : is[m]? = some (Val.mk ke ne se ise nse)) {r : RL} (hr : LoopN lp 0 (Ac Mk 0) (tl 0 29 [(1, .p (.sl [[.str [95, 105, 100]]])), (2, P00), (4, P10), (6, pI 1)]) [.row [[pI ke, pI ne, pT se, pV ise, pN nse]], .row aR2] r) :
  LoopN lp 0 (Ac Mk 0) (tl 0 29 [(1, .p (.sl [[.str [95, 105, 100]]])), (2, P00), (4, P10), (6, pI 0)]) [.row [[pI 7, pI n, pT s, pV is, pN ns]], .row aR2] r :=
 have q1 : OpE [.row [[pI 7, pI n, pT s, pV is, pN ns]], .row aR2] (.indexAddr 5 (.const (pV is)) (.const (pI (m : Int)))) (.pin [.int .i64 ke, .int .i64 ne, .str se, .sl (Ad ise), .sl (Ab nse)] 0) := (Ao rfl rfl (B2 h4) rfl)
 lO [(10, oC h2), (3, .b false), (3, oO q1)] [_, _, _] (by kernel_rfl) ⟨h2, cI c3, q1, trivial⟩ hr
theorem Pw {ke ne : Int} {se : BY} {ise : List Val} {nse : BL}  :
  LoopN lp 0 (Ac Mk 0) (tl 0 29 [(1, .p (.sl [[.str [95, 105, 100]]])), (2, P00), (4, P10), (6, pI 1)]) [.row [[pI ke, pI ne, pT se, pV ise, pN nse]], .row aR2] (.exit 0, (tl 0 29 [(2, P00), (4, P10)]), [.row [[pI ke, pI ne, pT se, pV ise, pN nse]], .row aR2]) :=
 lX [] [] (by kernel_rfl) (by kernel_rfl) trivial
theorem Ro {n : Int} {s : BY} {is : List Val} {ns : BL} {bb : Bool} (c1 : (bb) = false) (h2 : Runs lp 63 [.agg [pI 7, pI n, pT s, pV is, pN ns], pT [95, 105, 100]] [] (pI (-1), [])) :
  LoopN lp 0 (Ac Mk 0) (tl 0 29 [(1, .p (.sl [[.str [95, 105, 100]]])), (2, P00), (4, P10), (6, pI 0)]) [.row [[pI 7, pI n, pT s, pV is, pN ns]], .row aR2] (.ret, (tl 0 29 [(4, P10), (5, pB false)]), [.row [[pI 7, pI n, pT s, pV is, pN ns]], .row aR2]) :=
 lX [(10, oC h2)] [_] (by kernel_rfl) (by kernel_rfl) ⟨h2, trivial⟩
theorem rGt0 {n : Int} {s : BY} {is : List Val} {ns : BL} {ke ne : Int} {se : BY} {ise : List Val} {nse : BL} {m : Nat} {bb : Bool} (w1 : (bb) = true → (decide ((m : Int) < 0)) = true → Runs lp 63 [.agg [pI 7, pI n, pT s, pV is, pN ns], pT [95, 105, 100]] [] (pI (m : Int), [])) (w2 : (bb) = true → (decide ((m : Int) < 0)) = false → Runs lp 63 [.agg [pI 7, pI n, pT s, pV is, pN ns], pT [95, 105, 100]] [] (pI (m : Int), [])) (w3 : (bb) = true → (decide ((m : Int) < 0)) = false → is[m]? = some (Val.mk ke ne se ise nse)) (w4 : (bb) = false → Runs lp 63 [.agg [pI 7, pI n, pT s, pV is, pN ns], pT [95, 105, 100]] [] (pI (-1), [])) :
  Runs lp 28 [.agg [pI 7, pI n, pT s, pV is, pN ns], .p (.sl [[.str [95, 105, 100]]])] [] (if (bb) = true then (if (decide ((m : Int) < 0)) = true then ((.tup [.agg [pI 0, pI 0, pT [], .p (.sl []), .p (.sl [])], pB false], [])) else ((.tup [.agg [pI ke, pI ne, pT se, pV ise, pN nse], pB true], []))) else ((.tup [.agg [pI 0, pI 0, pT [], .p (.sl []), .p (.sl [])], pB false], []))) := by
 by_cases k1 : (bb) = true
 ·refine Ak k1 ?_
  by_cases k2 : (decide ((m : Int) < 0)) = true
  ·refine Ak k2 ?_
   exact
    have q1 : LoopN lp 0 (Ac Mk 0) (tl 0 29 [(1, .p (.sl [[.str [95, 105, 100]]])), (2, P00), (4, P10), (6, pI 0)]) [.row [[pI 7, pI n, pT s, pV is, pN ns]], .row aR2] (.ret, (tl 0 29 [(4, P10), (5, pB false)]), [.row [[pI 7, pI n, pT s, pV is, pN ns]], .row aR2]) := (Pu (n := n) (s := s) (is := is) (ns := ns) (m := m) (bb := bb) k1 (w1 k1 k2) k2)
    rO [(4, oL q1)] [_] (by kernel_rfl) ⟨q1, trivial⟩
  ·refine Al k2 ?_
   replace k2 := Bool.eq_false_iff.2 k2
   exact
    have q1 : LoopN lp 0 (Ac Mk 0) (tl 0 29 [(1, .p (.sl [[.str [95, 105, 100]]])), (2, P00), (4, P10), (6, pI 0)]) [.row [[pI 7, pI n, pT s, pV is, pN ns]], .row aR2] (.exit 0, (tl 0 29 [(2, P00), (4, P10)]), [.row [[pI ke, pI ne, pT se, pV ise, pN nse]], .row aR2]) := (Pv (n := n) (s := s) (is := is) (ns := ns) (ke := ke) (ne := ne) (se := se) (ise := ise) (nse := nse) (m := m) (bb := bb) k1 (w2 k1 k2) k2 (w3 k1 k2) (Pw (ke := ke) (ne := ne) (se := se) (ise := ise) (nse := nse) ))
    rO [(4, oL q1)] [_] (by kernel_rfl) ⟨q1, trivial⟩
 ·refine Al k1 ?_
  replace k1 := Bool.eq_false_iff.2 k1
  exact
   have q1 : LoopN lp 0 (Ac Mk 0) (tl 0 29 [(1, .p (.sl [[.str [95, 105, 100]]])), (2, P00), (4, P10), (6, pI 0)]) [.row [[pI 7, pI n, pT s, pV is, pN ns]], .row aR2] (.ret, (tl 0 29 [(4, P10), (5, pB false)]), [.row [[pI 7, pI n, pT s, pV is, pN ns]], .row aR2]) := (Ro (n := n) (s := s) (is := is) (ns := ns) (bb := bb) k1 (w4 k1))
   rO [(4, oL q1)] [_] (by kernel_rfl) ⟨q1, trivial⟩
theorem rPnR_yy {rb : Bool} {k n : Int} {s : BY} {is : List Val} {ns : BL} {ops : List OpS} {i : Nat} (oke vke vne : Int) (vse : BY) (vie : List Val) (pse vnse tse : BL) (c1 : (decide ((i : Int) < ((List.length (Ap ops) : Nat) : Int))) = true) (h2 : ops[i]? = some (OpS.mk oke pse (Val.mk vke vne vse vie vnse) tse)) (h3 : Runs lp 62 [.agg [pI oke, pN pse, pI vke, pI vne, pT vse, pV vie, pN vnse, pN tse]] [] (pB (B0 (OpS.mk oke pse (Val.mk vke vne vse vie vnse) tse)), [])) (c4 : (B0 (OpS.mk oke pse (Val.mk vke vne vse vie vnse) tse)) = true) {r : RL} (hr : LoopN lp 0 (Ac Nd 0) (tl 0 52 [(1, P00), (3, pI (IntKind.wrap .i64 ((i : Int) + 1)))]) [.row [(aR3 is k n ns ops rb s)]] r) :
  LoopN lp 0 (Ac Nd 0) (tl 0 52 [(1, P00), (3, pI (i : Int))]) [.row [(aR3 is k n ns ops rb s)]] r :=
 have q1 : OpE [.row [(aR3 is k n ns ops rb s)]] (.indexAddr 8 (.const (pO ops)) (.const (pI (i : Int)))) (.pin [.int .i64 oke, .sl (Ab pse), .int .i64 vke, .int .i64 vne, .str vse, .sl (Ad vie), .sl (Ab vnse), .sl (Ab tse)] 0) := (Ao rfl rfl (Bj h2) rfl)
 lO [(5, .b true), (3, oO q1), (1, oC h3), (1, .b false)] [_, _, _, _] (by kernel_rfl) ⟨cI c1, q1, h3, (cI (Ae c4)), trivial⟩ hr
theorem rPnR_yn {rb : Bool} {k n : Int} {s : BY} {is : List Val} {ns : BL} {ops : List OpS} {i : Nat} (oke vke vne : Int) (vse : BY) (vie : List Val) (pse vnse tse : BL) (c1 : (decide ((i : Int) < ((List.length (Ap ops) : Nat) : Int))) = true) (h2 : ops[i]? = some (OpS.mk oke pse (Val.mk vke vne vse vie vnse) tse)) (h3 : Runs lp 62 [.agg [pI oke, pN pse, pI vke, pI vne, pT vse, pV vie, pN vnse, pN tse]] [] (pB (B0 (OpS.mk oke pse (Val.mk vke vne vse vie vnse) tse)), [])) (c4 : (B0 (OpS.mk oke pse (Val.mk vke vne vse vie vnse) tse)) = false) :
  LoopN lp 0 (Ac Nd 0) (tl 0 52 [(1, P00), (3, pI (i : Int))]) [.row [(aR3 is k n ns ops rb s)]] (.ret, (tl 0 52 [(2, pB false)]), [.row [(aR3 is k n ns ops rb s)]]) :=
 have q1 : OpE [.row [(aR3 is k n ns ops rb s)]] (.indexAddr 8 (.const (pO ops)) (.const (pI (i : Int)))) (.pin [.int .i64 oke, .sl (Ab pse), .int .i64 vke, .int .i64 vne, .str vse, .sl (Ad vie), .sl (Ab vnse), .sl (Ab tse)] 0) := (Ao rfl rfl (Bj h2) rfl)
 lX [(5, .b true), (3, oO q1), (1, oC h3), (1, .b true)] [_, _, _, _] (by kernel_rfl) (by kernel_rfl) ⟨cI c1, q1, h3, (cI (Ae c4)), trivial⟩
theorem rPnR_n {rb : Bool} {k n : Int} {s : BY} {is : List Val} {ns : BL} {ops : List OpS} {i : Nat} (c1 : (decide ((i : Int) < ((List.length (Ap ops) : Nat) : Int))) = false) :
  LoopN lp 0 (Ac Nd 0) (tl 0 52 [(1, P00), (3, pI (i : Int))]) [.row [(aR3 is k n ns ops rb s)]] (.exit 0, (tl 0 52 []), [.row [(aR3 is k n ns ops rb s)]]) :=
 lX [(5, .b false)] [_] (by kernel_rfl) (by kernel_rfl) ⟨cI c1, trivial⟩
theorem rPn0 {rb : Bool} {k n : Int} {s : BY} {is : List Val} {ns : BL} {ops : List OpS} (w1 : (rb) = true → (((List.length (Ap ops) : Nat) : Int) == 0) = true → (k == 7) = true → Runs lp 60 [.agg (aR7 is k n ns s)] [] (pI (Av (Val.mk k n s is ns)), [])) (w2 : (rb) = false → Runs lp 61 [.agg (aR7 is k n ns s)] [] (pB (Bt (Val.mk k n s is ns)), [])) (w3 : (rb) = false → (Bt (Val.mk k n s is ns)) = true → (decide (((List.length (Ap ops) : Nat) : Int) < 1)) = false → (decide (((List.length (Ap ops) : Nat) : Int) > 16)) = false → (List.all ops B0) = true → LoopN lp 0 (Ac Nd 0) (tl 0 52 [(1, P00), (3, pI 0)]) [.row [(aR3 is k n ns ops rb s)]] (.exit 0, (tl 0 52 []), [.row [(aR3 is k n ns ops rb s)]])) (w4 : (rb) = false → (Bt (Val.mk k n s is ns)) = true → (decide (((List.length (Ap ops) : Nat) : Int) < 1)) = false → (decide (((List.length (Ap ops) : Nat) : Int) > 16)) = false → (List.all ops B0) = false → LoopN lp 0 (Ac Nd 0) (tl 0 52 [(1, P00), (3, pI 0)]) [.row [(aR3 is k n ns ops rb s)]] (.ret, (tl 0 52 [(2, pB false)]), [.row [(aR3 is k n ns ops rb s)]])) :
  Runs lp 27 [.agg (aR3 is k n ns ops rb s)] [] (if (rb) = true then (if (((List.length (Ap ops) : Nat) : Int) == 0) = true then (if (k == 7) = true then ((pB ((Av (Val.mk k n s is ns)) == 0), [])) else ((pB false, []))) else ((pB false, []))) else (if (Bt (Val.mk k n s is ns)) = true then (if (decide (((List.length (Ap ops) : Nat) : Int) < 1)) = true then ((pB false, [])) else (if (decide (((List.length (Ap ops) : Nat) : Int) > 16)) = true then ((pB false, [])) else (if (List.all ops B0) = true then ((pB true, [])) else ((pB false, []))))) else ((pB false, [])))) := by
 by_cases k1 : (rb) = true
 ·refine Ak k1 ?_
  by_cases k2 : (((List.length (Ap ops) : Nat) : Int) == 0) = true
  ·refine Ak k2 ?_
   by_cases k3 : (k == 7) = true
   ·refine Ak k3 ?_
    exact
     rO [(4, .b true), (5, .b true), (1, .b true), (1, .b true), (1, .b true), (1, .b true), (1, .b true), (1, .b true), (1, .b true), (0, oC (w1 k1 k2 k3)), (0, .b true), (1, .b true)] [_, _, _, _, _, _, _, _, _, _, _, _] (by kernel_rfl) ⟨cI k1, cI k2, cI k2, cI k2, cI k2, cI k2, cI k3, cI k3, cI k3, (w1 k1 k2 k3), cI k3, cI k3, trivial⟩
   ·refine Al k3 ?_
    replace k3 := Bool.eq_false_iff.2 k3
    exact
     rO [(4, .b true), (5, .b true), (1, .b true), (1, .b true), (1, .b true), (1, .b true), (1, .b false), (0, .b false), (0, .b false), (0, .b false), (0, .b false)] [_, _, _, _, _, _, _, _, _, _, _] (by kernel_rfl) ⟨cI k1, cI k2, cI k2, cI k2, cI k2, cI k2, cI k3, cI k3, cI k3, cI k3, cI k3, trivial⟩
  ·refine Al k2 ?_
   replace k2 := Bool.eq_false_iff.2 k2
   exact
    rO [(4, .b true), (5, .b false), (0, .b false), (0, .b false), (0, .b false), (0, .b false)] [_, _, _, _, _, _] (by kernel_rfl) ⟨cI k1, cI k2, cI k2, cI k2, cI k2, cI k2, trivial⟩
 ·refine Al k1 ?_
  replace k1 := Bool.eq_false_iff.2 k1
  by_cases k2 : (Bt (Val.mk k n s is ns)) = true
  ·refine Ak k2 ?_
   by_cases k3 : (decide (((List.length (Ap ops) : Nat) : Int) < 1)) = true
   ·refine Ak k3 ?_
    exact
     rO [(4, .b false), (2, oC (w2 k1)), (2, .b false), (1, .b false), (1, .b false), (1, .b false), (1, .b false), (1, .b true), (0, .b true), (0, .b true), (0, .b true), (0, .b true)] [_, _, _, _, _, _, _, _, _, _, _, _] (by kernel_rfl) ⟨cI k1, (w2 k1), (cI (Ae k2)), (cI (Ae k2)), (cI (Ae k2)), (cI (Ae k2)), (cI (Ae k2)), cI k3, cI k3, cI k3, cI k3, cI k3, trivial⟩
   ·refine Al k3 ?_
    replace k3 := Bool.eq_false_iff.2 k3
    by_cases k4 : (decide (((List.length (Ap ops) : Nat) : Int) > 16)) = true
    ·refine Ak k4 ?_
     exact
      rO [(4, .b false), (2, oC (w2 k1)), (2, .b false), (1, .b false), (1, .b false), (1, .b false), (1, .b false), (1, .b false), (1, .b false), (1, .b false), (1, .b false), (1, .b false), (0, .b true)] [_, _, _, _, _, _, _, _, _, _, _, _, _] (by kernel_rfl) ⟨cI k1, (w2 k1), (cI (Ae k2)), (cI (Ae k2)), (cI (Ae k2)), (cI (Ae k2)), (cI (Ae k2)), cI k3, cI k3, cI k3, cI k3, cI k3, cI k4, trivial⟩
    ·refine Al k4 ?_
     replace k4 := Bool.eq_false_iff.2 k4
     by_cases k5 : (List.all ops B0) = true
     ·refine Ak k5 ?_
      exact
       rO [(4, .b false), (2, oC (w2 k1)), (2, .b false), (1, .b false), (1, .b false), (1, .b false), (1, .b false), (1, .b false), (1, .b false), (1, .b false), (1, .b false), (1, .b false), (0, .b false), (1, oL (w3 k1 k2 k3 k4 k5))] [_, _, _, _, _, _, _, _, _, _, _, _, _, _] (by kernel_rfl) ⟨cI k1, (w2 k1), (cI (Ae k2)), (cI (Ae k2)), (cI (Ae k2)), (cI (Ae k2)), (cI (Ae k2)), cI k3, cI k3, cI k3, cI k3, cI k3, cI k4, (w3 k1 k2 k3 k4 k5), trivial⟩
     ·refine Al k5 ?_
      replace k5 := Bool.eq_false_iff.2 k5
      exact
       rO [(4, .b false), (2, oC (w2 k1)), (2, .b false), (1, .b false), (1, .b false), (1, .b false), (1, .b false), (1, .b false), (1, .b false), (1, .b false), (1, .b false), (1, .b false), (0, .b false), (1, oL (w4 k1 k2 k3 k4 k5))] [_, _, _, _, _, _, _, _, _, _, _, _, _, _] (by kernel_rfl) ⟨cI k1, (w2 k1), (cI (Ae k2)), (cI (Ae k2)), (cI (Ae k2)), (cI (Ae k2)), (cI (Ae k2)), cI k3, cI k3, cI k3, cI k3, cI k3, cI k4, (w4 k1 k2 k3 k4 k5), trivial⟩
  ·refine Al k2 ?_
   replace k2 := Bool.eq_false_iff.2 k2
   exact
    rO [(4, .b false), (2, oC (w2 k1)), (2, .b true), (0, .b true), (0, .b true), (0, .b true), (0, .b true)] [_, _, _, _, _, _, _] (by kernel_rfl) ⟨cI k1, (w2 k1), (cI (Ae k2)), (cI (Ae k2)), (cI (Ae k2)), (cI (Ae k2)), (cI (Ae k2)), trivial⟩
theorem rCkA_yy {l : List Pt} {i : Nat} (c1 : (decide ((i : Int) < ((List.length (Ah l) : Nat) : Int))) = true) (h2 : i < List.length l) (h3 : 0 < List.length (α := BY) (List.getD (α := Pt) l i [])) (c4 : ((List.getD (α := BY) (List.getD (α := Pt) l i []) 0 []) == [95, 105, 100]) = true) :
  LoopN lp 0 (Ac lf8 0) (tl 0 68 [(5, .p (.sl (Ah l))), (6, pI (i : Int))]) [] (.ret, (tl 0 68 [(2, pI 70)]), []) :=
 have q1 : OpE [] (.indexAddr 1 (.const (.p (.sl (Ah l)))) (.const (pI (i : Int)))) (.pin [.sl (Ab (List.getD (α := Pt) l i []))] 0) := (Ao rfl rfl (Br h2) rfl)
 have q2 : OpE [] (.indexAddr 1 (.const (pN (List.getD (α := Pt) l i []))) (.const (pI 0))) (.pin [.str (List.getD (α := BY) (List.getD (α := Pt) l i []) 0 [])] 0) := (Ao rfl rfl (A1 h3) rfl)
 lX [(4, .b true), (2, oO q1), (1, oO q2), (2, .b true)] [_, _, _, _] (by kernel_rfl) (by kernel_rfl) ⟨cI c1, q1, q2, cI c4, trivial⟩
theorem rCkA_yn {l : List Pt} {i : Nat} (c1 : (decide ((i : Int) < ((List.length (Ah l) : Nat) : Int))) = true) (h2 : i < List.length l) (h3 : 0 < List.length (α := BY) (List.getD (α := Pt) l i [])) (c4 : ((List.getD (α := BY) (List.getD (α := Pt) l i []) 0 []) == [95, 105, 100]) = false) {r : RL} (hr : LoopN lp 0 (Ac lf8 0) (tl 0 68 [(5, .p (.sl (Ah l))), (6, pI (IntKind.wrap .i64 ((i : Int) + 1)))]) [] r) :
  LoopN lp 0 (Ac lf8 0) (tl 0 68 [(5, .p (.sl (Ah l))), (6, pI (i : Int))]) [] r :=
 have q1 : OpE [] (.indexAddr 1 (.const (.p (.sl (Ah l)))) (.const (pI (i : Int)))) (.pin [.sl (Ab (List.getD (α := Pt) l i []))] 0) := (Ao rfl rfl (Br h2) rfl)
 have q2 : OpE [] (.indexAddr 1 (.const (pN (List.getD (α := Pt) l i []))) (.const (pI 0))) (.pin [.str (List.getD (α := BY) (List.getD (α := Pt) l i []) 0 [])] 0) := (Ao rfl rfl (A1 h3) rfl)
 lO [(4, .b true), (2, oO q1), (1, oO q2), (2, .b false)] [_, _, _, _] (by kernel_rfl) ⟨cI c1, q1, q2, cI c4, trivial⟩ hr
theorem rCkA_n {l : List Pt} {i : Nat} (c1 : (decide ((i : Int) < ((List.length (Ah l) : Nat) : Int))) = false) :
  LoopN lp 0 (Ac lf8 0) (tl 0 68 [(5, .p (.sl (Ah l))), (6, pI (i : Int))]) [] (.exit 0, (tl 0 68 [(5, .p (.sl (Ah l)))]), []) :=
 lX [(4, .b false)] [_] (by kernel_rfl) (by kernel_rfl) ⟨cI c1, trivial⟩
theorem rCkJ_yy {l : List Pt} {i j : Nat} (c1 : (decide ((j : Int) < (i : Int))) = true) (h2 : i < List.length l) (h3 : j < List.length l) (h4 : Runs lp 30 [pN (List.getD (α := Pt) l i []), pN (List.getD (α := Pt) l j [])] [] (pB (List.isPrefixOf (List.getD (α := Pt) l i []) (List.getD (α := Pt) l j [])), [])) (c5 : (List.isPrefixOf (List.getD (α := Pt) l i []) (List.getD (α := Pt) l j [])) = true) :
  LoopN lp 0 (Ac lf8 2) (tl 0 68 [(5, .p (.sl (Ah l))), (7, pI (i : Int)), (8, pI (j : Int))]) [] (.ret, (tl 0 68 [(2, pI 71)]), []) :=
 have q1 : OpE [] (.indexAddr 1 (.const (.p (.sl (Ah l)))) (.const (pI (i : Int)))) (.pin [.sl (Ab (List.getD (α := Pt) l i []))] 0) := (Ao rfl rfl (Br h2) rfl)
 have q2 : OpE [] (.indexAddr 1 (.const (.p (.sl (Ah l)))) (.const (pI (j : Int)))) (.pin [.sl (Ab (List.getD (α := Pt) l j []))] 0) := (Ao rfl rfl (Br h3) rfl)
 lX [(3, .b true), (2, oO q1), (3, oO q2), (1, oC h4), (1, .b true), (0, .b true), (0, .b true), (0, .b true), (0, .b true), (0, .b true), (0, .b true), (0, .b true), (0, .b true), (0, .b true)] [_, _, _, _, _, _, _, _, _, _, _, _, _, _] (by kernel_rfl) (by kernel_rfl) ⟨cI c1, q1, q2, h4, cI c5, cI c5, cI c5, cI c5, cI c5, cI c5, cI c5, cI c5, cI c5, cI c5, trivial⟩
theorem Zg {l : List Pt} {i j : Nat} (c1 : (decide ((j : Int) < (i : Int))) = true) (h2 : i < List.length l) (h3 : j < List.length l) (h4 : Runs lp 30 [pN (List.getD (α := Pt) l i []), pN (List.getD (α := Pt) l j [])] [] (pB (List.isPrefixOf (List.getD (α := Pt) l i []) (List.getD (α := Pt) l j [])), [])) (c5 : (List.isPrefixOf (List.getD (α := Pt) l i []) (List.getD (α := Pt) l j [])) = false) (h6 : Runs lp 30 [pN (List.getD (α := Pt) l j []), pN (List.getD (α := Pt) l i [])] [] (pB (List.isPrefixOf (List.getD (α := Pt) l j []) (List.getD (α := Pt) l i [])), [])) (c7 : (List.isPrefixOf (List.getD (α := Pt) l j []) (List.getD (α := Pt) l i [])) = true) :
  LoopN lp 0 (Ac lf8 2) (tl 0 68 [(5, .p (.sl (Ah l))), (7, pI (i : Int)), (8, pI (j : Int))]) [] (.ret, (tl 0 68 [(2, pI 71)]), []) :=
 have q1 : OpE [] (.indexAddr 1 (.const (.p (.sl (Ah l)))) (.const (pI (i : Int)))) (.pin [.sl (Ab (List.getD (α := Pt) l i []))] 0) := (Ao rfl rfl (Br h2) rfl)
 have q2 : OpE [] (.indexAddr 1 (.const (.p (.sl (Ah l)))) (.const (pI (j : Int)))) (.pin [.sl (Ab (List.getD (α := Pt) l j []))] 0) := (Ao rfl rfl (Br h3) rfl)
 have q3 : OpE [] (.indexAddr 1 (.const (.p (.sl (Ah l)))) (.const (pI (j : Int)))) (.pin [.sl (Ab (List.getD (α := Pt) l j []))] 0) := (Ao rfl rfl (Br h3) rfl)
 have q4 : OpE [] (.indexAddr 1 (.const (.p (.sl (Ah l)))) (.const (pI (i : Int)))) (.pin [.sl (Ab (List.getD (α := Pt) l i []))] 0) := (Ao rfl rfl (Br h2) rfl)
 lX [(3, .b true), (2, oO q1), (3, oO q2), (1, oC h4), (1, .b false), (1, .b false), (1, .b false), (0, oO q3), (0, .b false), (1, .b false), (1, .b false), (1, .b false), (0, oO q4), (0, .b false), (1, .b false), (0, oC h6), (0, .b false), (0, .b true)] [_, _, _, _, _, _, _, _, _, _, _, _, _, _, _, _, _, _] (by kernel_rfl) (by kernel_rfl) ⟨cI c1, q1, q2, h4, cI c5, cI c5, cI c5, q3, cI c5, cI c5, cI c5, cI c5, q4, cI c5, cI c5, h6, cI c5, cI c7, trivial⟩
theorem Zh {l : List Pt} {i j : Nat} (c1 : (decide ((j : Int) < (i : Int))) = true) (h2 : i < List.length l) (h3 : j < List.length l) (h4 : Runs lp 30 [pN (List.getD (α := Pt) l i []), pN (List.getD (α := Pt) l j [])] [] (pB (List.isPrefixOf (List.getD (α := Pt) l i []) (List.getD (α := Pt) l j [])), [])) (c5 : (List.isPrefixOf (List.getD (α := Pt) l i []) (List.getD (α := Pt) l j [])) = false) (h6 : Runs lp 30 [pN (List.getD (α := Pt) l j []), pN (List.getD (α := Pt) l i [])] [] (pB (List.isPrefixOf (List.getD (α := Pt) l j []) (List.getD (α := Pt) l i [])), [])) (c7 : (List.isPrefixOf (List.getD (α := Pt) l j []) (List.getD (α := Pt) l i [])) = false) {r : RL} (hr : LoopN lp 0 (Ac lf8 2) (tl 0 68 [(5, .p (.sl (Ah l))), (7, pI (i : Int)), (8, pI (IntKind.wrap .i64 ((j : Int) + 1)))]) [] r) :
  LoopN lp 0 (Ac lf8 2) (tl 0 68 [(5, .p (.sl (Ah l))), (7, pI (i : Int)), (8, pI (j : Int))]) [] r :=
 have q1 : OpE [] (.indexAddr 1 (.const (.p (.sl (Ah l)))) (.const (pI (i : Int)))) (.pin [.sl (Ab (List.getD (α := Pt) l i []))] 0) := (Ao rfl rfl (Br h2) rfl)
 have q2 : OpE [] (.indexAddr 1 (.const (.p (.sl (Ah l)))) (.const (pI (j : Int)))) (.pin [.sl (Ab (List.getD (α := Pt) l j []))] 0) := (Ao rfl rfl (Br h3) rfl)
 have q3 : OpE [] (.indexAddr 1 (.const (.p (.sl (Ah l)))) (.const (pI (j : Int)))) (.pin [.sl (Ab (List.getD (α := Pt) l j []))] 0) := (Ao rfl rfl (Br h3) rfl)
 have q4 : OpE [] (.indexAddr 1 (.const (.p (.sl (Ah l)))) (.const (pI (i : Int)))) (.pin [.sl (Ab (List.getD (α := Pt) l i []))] 0) := (Ao rfl rfl (Br h2) rfl)
 lO [(3, .b true), (2, oO q1), (3, oO q2), (1, oC h4), (1, .b false), (1, .b false), (1, .b false), (0, oO q3), (0, .b false), (1, .b false), (1, .b false), (1, .b false), (0, oO q4), (0, .b false), (1, .b false), (0, oC h6), (0, .b false), (0, .b false)] [_, _, _, _, _, _, _, _, _, _, _, _, _, _, _, _, _, _] (by kernel_rfl) ⟨cI c1, q1, q2, h4, cI c5, cI c5, cI c5, q3, cI c5, cI c5, cI c5, cI c5, q4, cI c5, cI c5, h6, cI c5, cI c7, trivial⟩ hr
theorem rCkJ_n {l : List Pt} {i j : Nat} (c1 : (decide ((j : Int) < (i : Int))) = false) :
  LoopN lp 0 (Ac lf8 2) (tl 0 68 [(5, .p (.sl (Ah l))), (7, pI (i : Int)), (8, pI (j : Int))]) [] (.exit 4, (tl 0 68 [(5, .p (.sl (Ah l))), (7, pI (i : Int))]), []) :=
 lX [(3, .b false)] [_] (by kernel_rfl) (by kernel_rfl) ⟨cI c1, trivial⟩
theorem rCkI_yy {l : List Pt} {i : Nat} {metB : Bool} (c1 : (decide ((i : Int) < ((List.length (Ah l) : Nat) : Int))) = true) (c2 : (metB) = true) (h3 : LoopN lp 0 (Ac lf8 2) (tl 0 68 [(5, .p (.sl (Ah l))), (7, pI (i : Int)), (8, pI 0)]) [] (.ret, (tl 0 68 [(2, pI 71)]), [])) :
  LoopN lp 0 (Ac lf8 1) (tl 0 68 [(5, .p (.sl (Ah l))), (7, pI (i : Int))]) [] (.ret, (tl 0 68 [(2, pI 71)]), []) :=
 lX [(4, .b true), (1, oL h3)] [_, _] (by kernel_rfl) (by kernel_rfl) ⟨cI c1, h3, trivial⟩
theorem rCkI_yn {l : List Pt} {i : Nat} {metB : Bool} (c1 : (decide ((i : Int) < ((List.length (Ah l) : Nat) : Int))) = true) (c2 : (metB) = false) (h3 : LoopN lp 0 (Ac lf8 2) (tl 0 68 [(5, .p (.sl (Ah l))), (7, pI (i : Int)), (8, pI 0)]) [] (.exit 4, (tl 0 68 [(5, .p (.sl (Ah l))), (7, pI (i : Int))]), [])) {r : RL} (hr : LoopN lp 0 (Ac lf8 1) (tl 0 68 [(5, .p (.sl (Ah l))), (7, pI (IntKind.wrap .i64 ((i : Int) + 1)))]) [] r) :
  LoopN lp 0 (Ac lf8 1) (tl 0 68 [(5, .p (.sl (Ah l))), (7, pI (i : Int))]) [] r :=
 lO [(4, .b true), (1, oL h3)] [_, _] (by kernel_rfl) ⟨cI c1, h3, trivial⟩ hr
theorem rCkI_n {l : List Pt} {i : Nat} (c1 : (decide ((i : Int) < ((List.length (Ah l) : Nat) : Int))) = false) :
  LoopN lp 0 (Ac lf8 1) (tl 0 68 [(5, .p (.sl (Ah l))), (7, pI (i : Int))]) [] (.exit 2, (tl 0 68 []), []) :=
 lX [(4, .b false)] [_] (by kernel_rfl) (by kernel_rfl) ⟨cI c1, trivial⟩
theorem rCk0 {rb : Bool} {k n : Int} {s : BY} {is : List Val} {ns : BL} {ops : List OpS} {l : List Pt} {kz nz : Int} {sz : BY} {isz : List Val} {nsz : BL} (w1 : Runs lp 27 [.agg (aR3 is k n ns ops rb s)] [] (pB (Ci rb (Val.mk k n s is ns) ops), [])) (w2 : (Ci rb (Val.mk k n s is ns) ops) = true → (rb) = true → (List.contains ns ([95, 105, 100] : BY)) = true → Runs lp 28 [.agg (aR7 is k n ns s), .p (.sl [[.str [95, 105, 100]]])] [] (.tup [.agg [pI kz, pI nz, pT sz, pV isz, pN nsz], pB true], [])) (w3 : (Ci rb (Val.mk k n s is ns) ops) = true → (rb) = true → (List.contains ns ([95, 105, 100] : BY)) = false → Runs lp 28 [.agg (aR7 is k n ns s), .p (.sl [[.str [95, 105, 100]]])] [] (.tup [.agg [pI 0, pI 0, pT [], .p (.sl []), .p (.sl [])], pB false], [])) (w4 : (Ci rb (Val.mk k n s is ns) ops) = true → (rb) = false → Runs lp 29 [.agg (aR3 is k n ns ops rb s)] [] (.p (.sl (Ah l)), [])) (w5 : (Ci rb (Val.mk k n s is ns) ops) = true → (rb) = false → (List.any l (fun q => List.getD q 0 [] == [95, 105, 100])) = true → LoopN lp 0 (Ac lf8 0) (tl 0 68 [(5, .p (.sl (Ah l))), (6, pI 0)]) [] (.ret, (tl 0 68 [(2, pI 70)]), [])) (w6 : (Ci rb (Val.mk k n s is ns) ops) = true → (rb) = false → (List.any l (fun q => List.getD q 0 [] == [95, 105, 100])) = false → LoopN lp 0 (Ac lf8 0) (tl 0 68 [(5, .p (.sl (Ah l))), (6, pI 0)]) [] (.exit 0, (tl 0 68 [(5, .p (.sl (Ah l)))]), [])) (w7 : (Ci rb (Val.mk k n s is ns) ops) = true → (rb) = false → (List.any l (fun q => List.getD q 0 [] == [95, 105, 100])) = false → (Df [] l) = true → LoopN lp 0 (Ac lf8 1) (tl 0 68 [(5, .p (.sl (Ah l))), (7, pI 0)]) [] (.ret, (tl 0 68 [(2, pI 71)]), [])) (w8 : (Ci rb (Val.mk k n s is ns) ops) = true → (rb) = false → (List.any l (fun q => List.getD q 0 [] == [95, 105, 100])) = false → (Df [] l) = false → LoopN lp 0 (Ac lf8 1) (tl 0 68 [(5, .p (.sl (Ah l))), (7, pI 0)]) [] (.exit 2, (tl 0 68 []), [])) :
  Runs lp 8 [.agg (aR3 is k n ns ops rb s)] [] (if (Ci rb (Val.mk k n s is ns) ops) = true then (if (rb) = true then (if (List.contains ns ([95, 105, 100] : BY)) = true then ((pI 70, [])) else ((pI 0, []))) else (if (List.any l (fun q => List.getD q 0 [] == [95, 105, 100])) = true then ((pI 70, [])) else (if (Df [] l) = true then ((pI 71, [])) else ((pI 0, []))))) else ((pI 72, []))) := by
 by_cases k1 : (Ci rb (Val.mk k n s is ns) ops) = true
 ·refine Ak k1 ?_
  by_cases k2 : (rb) = true
  ·refine Ak k2 ?_
   by_cases k3 : (List.contains ns ([95, 105, 100] : BY)) = true
   ·refine Ak k3 ?_
    exact
     rO [(3, oC w1), (1, .b false), (2, .b true), (3, oC (w2 k1 k2 k3))] [_, _, _, _] (by kernel_rfl) ⟨w1, (cI (Ae k1)), cI k2, (w2 k1 k2 k3), trivial⟩
   ·refine Al k3 ?_
    replace k3 := Bool.eq_false_iff.2 k3
    exact
     rO [(3, oC w1), (1, .b false), (2, .b true), (3, oC (w3 k1 k2 k3))] [_, _, _, _] (by kernel_rfl) ⟨w1, (cI (Ae k1)), cI k2, (w3 k1 k2 k3), trivial⟩
  ·refine Al k2 ?_
   replace k2 := Bool.eq_false_iff.2 k2
   by_cases k3 : (List.any l (fun q => List.getD q 0 [] == [95, 105, 100])) = true
   ·refine Ak k3 ?_
    exact
     rO [(3, oC w1), (1, .b false), (2, .b false), (1, oC (w4 k1 k2)), (2, oL (w5 k1 k2 k3))] [_, _, _, _, _] (by kernel_rfl) ⟨w1, (cI (Ae k1)), cI k2, (w4 k1 k2), (w5 k1 k2 k3), trivial⟩
   ·refine Al k3 ?_
    replace k3 := Bool.eq_false_iff.2 k3
    by_cases k4 : (Df [] l) = true
    ·refine Ak k4 ?_
     exact
      rO [(3, oC w1), (1, .b false), (2, .b false), (1, oC (w4 k1 k2)), (2, oL (w6 k1 k2 k3)), (1, oL (w7 k1 k2 k3 k4))] [_, _, _, _, _, _] (by kernel_rfl) ⟨w1, (cI (Ae k1)), cI k2, (w4 k1 k2), (w6 k1 k2 k3), (w7 k1 k2 k3 k4), trivial⟩
    ·refine Al k4 ?_
     replace k4 := Bool.eq_false_iff.2 k4
     exact
      rO [(3, oC w1), (1, .b false), (2, .b false), (1, oC (w4 k1 k2)), (2, oL (w6 k1 k2 k3)), (1, oL (w8 k1 k2 k3 k4))] [_, _, _, _, _, _] (by kernel_rfl) ⟨w1, (cI (Ae k1)), cI k2, (w4 k1 k2), (w6 k1 k2 k3), (w8 k1 k2 k3 k4), trivial⟩
 ·refine Al k1 ?_
  replace k1 := Bool.eq_false_iff.2 k1
  exact
   rO [(3, oC w1), (1, .b true)] [_, _] (by kernel_rfl) ⟨w1, (cI (Ae k1)), trivial⟩
end Go.Proofs.YtegboccilfofmaaGreat
