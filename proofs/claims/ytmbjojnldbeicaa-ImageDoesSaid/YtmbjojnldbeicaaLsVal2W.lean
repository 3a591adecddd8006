import Derived.Test.YtmbjojnldbeicaaLsAb
import Derived.Test.YtmbjojnldbeicaaLsVal1
set_option linter.unusedVariables false
set_option linter.unusedSimpArgs false
set_option maxRecDepth 100000
namespace Go.Proofs.Ytmbjojnldbeicaa
open Go Go.LS
theorem vDepR_y {is : List Val} {i : Nat} {m : Int} (ke ne : Int) (se : BY) (ise : List Val) (nse : BL) (c1 : (decide ((i : Int) < ((List.length (Ad is) : Nat) : Int))) = true) (h2 : is[i]? = some (Val.mk ke ne se ise nse)) (h3 : Runs lp 53 [.agg [pI ke, pI ne, pT se, pV ise, pN nse]] [] (pI (Bg (Val.mk ke ne se ise nse)), [])) {r : RL} (hr : LoopN lp 0 (Ae R1 0) (tl 0 20 [(3, pI (if (Bg (Val.mk ke ne se ise nse)) > m then (Bg (Val.mk ke ne se ise nse)) else m)), (7, pV is), (8, pI ((List.length (Ad is) : Nat) : Int)), (9, pI (IntKind.wrap .i64 ((i : Int) + 1)))]) [] r) :
  LoopN lp 0 (Ae R1 0) (tl 0 20 [(3, pI m), (7, pV is), (8, pI ((List.length (Ad is) : Nat) : Int)), (9, pI (i : Int))]) [] r :=
 have q1 : OpE [] (.indexAddr 5 (.const (pV is)) (.const (pI (i : Int)))) (.pin [.int .i64 ke, .int .i64 ne, .str se, .sl (Ad ise), .sl (Ak nse)] 0) := (At rfl rfl (Ca h2) rfl)
 lO [(1, .b true), (0, oO q1), (5, oC h3)] [_, _, _] (by kernel_rfl) ⟨cI c1, q1, h3, trivial⟩ hr
theorem vDepR_n {is : List Val} {i : Nat} {m : Int} (c1 : (decide ((i : Int) < ((List.length (Ad is) : Nat) : Int))) = false) :
  LoopN lp 0 (Ae R1 0) (tl 0 20 [(3, pI m), (7, pV is), (8, pI ((List.length (Ad is) : Nat) : Int)), (9, pI (i : Int))]) [] (.exit 0, (tl 0 20 [(3, pI m)]), []) :=
 lX [(1, .b false)] [_] (by kernel_rfl) (by kernel_rfl) ⟨cI c1, trivial⟩
theorem vDep0 {k n : Int} {s : BY} {is : List Val} {ns : BL} (w1 : LoopN lp 0 (Ae R1 0) (tl 0 20 [(3, pI 0), (7, pV is), (8, pI ((List.length (Ad is) : Nat) : Int)), (9, pI 0)]) [] (.exit 0, (tl 0 20 [(3, pI (Cc is))]), [])) :
  Runs lp 53 [.agg (aR1 is k n ns s)] [] ((pI (IntKind.wrap .i64 ((Cc is) + 1)), [])) := by
 exact
  rO [(7, oL w1)] [_] (by kernel_rfl) ⟨w1, trivial⟩
theorem rDepR_yy {k n : Int} {s : BY} {is : List Val} {ns : BL} {i : Nat} {m : Int} (ke ne : Int) (se : BY) (ise : List Val) (nse : BL) (c1 : (decide ((i : Int) < ((List.length (Ad is) : Nat) : Int))) = true) (h2 : is[i]? = some (Val.mk ke ne se ise nse)) (h3 : Runs lp 50 [.agg [pI ke, pI ne, pT se, pV ise, pN nse]] [] (pI (Bg (Val.mk ke ne se ise nse)), [])) (c4 : (decide ((Bg (Val.mk ke ne se ise nse)) > m)) = true) {r : RL} (hr : LoopN lp 0 (Ae Ow 0) (tl 0 25 [(1, P00), (3, pI (Bg (Val.mk ke ne se ise nse))), (4, pI (IntKind.wrap .i64 ((i : Int) + 1)))]) [.row [(aR1 is k n ns s)]] r) :
  LoopN lp 0 (Ae Ow 0) (tl 0 25 [(1, P00), (3, pI m), (4, pI (i : Int))]) [.row [(aR1 is k n ns s)]] r :=
 have q1 : OpE [.row [(aR1 is k n ns s)]] (.indexAddr 5 (.const (pV is)) (.const (pI (i : Int)))) (.pin [.int .i64 ke, .int .i64 ne, .str se, .sl (Ad ise), .sl (Ak nse)] 0) := (At rfl rfl (Ca h2) rfl)
 lO [(5, .b true), (3, oO q1), (1, oC h3), (4, .b true)] [_, _, _, _] (by kernel_rfl) ⟨cI c1, q1, h3, cI c4, trivial⟩ hr
theorem rDepR_yn {k n : Int} {s : BY} {is : List Val} {ns : BL} {i : Nat} {m : Int} (ke ne : Int) (se : BY) (ise : List Val) (nse : BL) (c1 : (decide ((i : Int) < ((List.length (Ad is) : Nat) : Int))) = true) (h2 : is[i]? = some (Val.mk ke ne se ise nse)) (h3 : Runs lp 50 [.agg [pI ke, pI ne, pT se, pV ise, pN nse]] [] (pI (Bg (Val.mk ke ne se ise nse)), [])) (c4 : (decide ((Bg (Val.mk ke ne se ise nse)) > m)) = false) {r : RL} (hr : LoopN lp 0 (Ae Ow 0) (tl 0 25 [(1, P00), (3, pI m), (4, pI (IntKind.wrap .i64 ((i : Int) + 1)))]) [.row [(aR1 is k n ns s)]] r) :
  LoopN lp 0 (Ae Ow 0) (tl 0 25 [(1, P00), (3, pI m), (4, pI (i : Int))]) [.row [(aR1 is k n ns s)]] r :=
 have q1 : OpE [.row [(aR1 is k n ns s)]] (.indexAddr 5 (.const (pV is)) (.const (pI (i : Int)))) (.pin [.int .i64 ke, .int .i64 ne, .str se, .sl (Ad ise), .sl (Ak nse)] 0) := (At rfl rfl (Ca h2) rfl)
 lO [(5, .b true), (3, oO q1), (1, oC h3), (4, .b false)] [_, _, _, _] (by kernel_rfl) ⟨cI c1, q1, h3, cI c4, trivial⟩ hr
theorem rDepR_n {k n : Int} {s : BY} {is : List Val} {ns : BL} {i : Nat} {m : Int} (c1 : (decide ((i : Int) < ((List.length (Ad is) : Nat) : Int))) = false) :
  LoopN lp 0 (Ae Ow 0) (tl 0 25 [(1, P00), (3, pI m), (4, pI (i : Int))]) [.row [(aR1 is k n ns s)]] (.exit 0, (tl 0 25 [(3, pI m)]), [.row [(aR1 is k n ns s)]]) :=
 lX [(5, .b false)] [_] (by kernel_rfl) (by kernel_rfl) ⟨cI c1, trivial⟩
theorem rDep0 {k n : Int} {s : BY} {is : List Val} {ns : BL} (w1 : LoopN lp 0 (Ae Ow 0) (tl 0 25 [(1, P00), (3, pI 0), (4, pI 0)]) [.row [(aR1 is k n ns s)]] (.exit 0, (tl 0 25 [(3, pI (Cc is))]), [.row [(aR1 is k n ns s)]])) :
  Runs lp 50 [.agg (aR1 is k n ns s)] [] ((pI (IntKind.wrap .i64 ((Cc is) + 1)), [])) := by
 exact
  rO [(4, oL w1)] [_] (by kernel_rfl) ⟨w1, trivial⟩
theorem vCount0 {j : Nat} (w1 : Runs lp 36 [pI (j : Int)] [] (.tup [.sl (bs (Ab j)) 0 (List.length (Ab j)), pI 0], [.spare 1 (List.length (Ab j))])) :
  Runs lp 75 [pI (j : Int)] [] ((pI ((List.length (bs (Ab j)) : Nat) : Int), [])) := by
 exact
  rO [(2, oC w1)] [_] (by kernel_rfl) ⟨w1, trivial⟩
theorem vText0 {s : BY} (w1 : Runs lp 75 [pI ((List.length s : Nat) : Int)] [] (pI (C8 (List.length s)), [])) :
  Runs lp 74 [pT s] [] ((pI (IntKind.wrap .i64 ((C8 (List.length s)) + ((List.length s : Nat) : Int))), [])) := by
 exact
  rO [(3, oC w1)] [_] (by kernel_rfl) ⟨w1, trivial⟩
theorem vSizI_y {k n : Int} {s : BY} {is : List Val} {ns : BL} {i : Nat} {m : Int} (ke ne : Int) (se : BY) (ise : List Val) (nse : BL) (c1 : (decide ((i : Int) < ((List.length (Ad is) : Nat) : Int))) = true) (h2 : is[i]? = some (Val.mk ke ne se ise nse)) (h3 : Runs lp 54 [.agg [pI ke, pI ne, pT se, pV ise, pN nse]] [] (pI (B8 (Val.mk ke ne se ise nse)), [])) {r : RL} (hr : LoopN lp 0 (Ae Ld 0) (tl 0 58 [(1, P00), (3, pI (IntKind.wrap .i64 (m + (B8 (Val.mk ke ne se ise nse))))), (34, pV is), (35, pI ((List.length (Ad is) : Nat) : Int)), (36, pI (IntKind.wrap .i64 ((i : Int) + 1)))]) [.row [(aR1 is k n ns s)]] r) :
  LoopN lp 0 (Ae Ld 0) (tl 0 58 [(1, P00), (3, pI m), (34, pV is), (35, pI ((List.length (Ad is) : Nat) : Int)), (36, pI (i : Int))]) [.row [(aR1 is k n ns s)]] r :=
 have q1 : OpE [.row [(aR1 is k n ns s)]] (.indexAddr 5 (.const (pV is)) (.const (pI (i : Int)))) (.pin [.int .i64 ke, .int .i64 ne, .str se, .sl (Ad ise), .sl (Ak nse)] 0) := (At rfl rfl (Ca h2) rfl)
 lO [(1, .b true), (0, oO q1), (5, oC h3)] [_, _, _] (by kernel_rfl) ⟨cI c1, q1, h3, trivial⟩ hr
theorem vSizI_n {k n : Int} {s : BY} {is : List Val} {ns : BL} {i : Nat} {m : Int} (c1 : (decide ((i : Int) < ((List.length (Ad is) : Nat) : Int))) = false) :
  LoopN lp 0 (Ae Ld 0) (tl 0 58 [(1, P00), (3, pI m), (34, pV is), (35, pI ((List.length (Ad is) : Nat) : Int)), (36, pI (i : Int))]) [.row [(aR1 is k n ns s)]] (.exit 1, (tl 0 58 [(1, P00), (3, pI m)]), [.row [(aR1 is k n ns s)]]) :=
 lX [(1, .b false)] [_] (by kernel_rfl) (by kernel_rfl) ⟨cI c1, trivial⟩
theorem vSizN_y {ns : BL} {i : Nat} {m : Int} (c1 : (decide ((i : Int) < ((List.length (Ak ns) : Nat) : Int))) = true) (h2 : i < List.length ns) (h3 : Runs lp 74 [pT (List.getD (α := BY) ns i [])] [] (pI (IntKind.wrap .i64 (Cs (List.getD (α := BY) ns i []))), [])) {r : RL} (hr : LoopN lp 0 (Ae Ld 1) (tl 0 58 [(3, pI (IntKind.wrap .i64 (m + (IntKind.wrap .i64 (Cs (List.getD (α := BY) ns i [])))))), (46, pN ns), (47, pI ((List.length (Ak ns) : Nat) : Int)), (48, pI (IntKind.wrap .i64 ((i : Int) + 1)))]) [] r) :
  LoopN lp 0 (Ae Ld 1) (tl 0 58 [(3, pI m), (46, pN ns), (47, pI ((List.length (Ak ns) : Nat) : Int)), (48, pI (i : Int))]) [] r :=
 have q1 : OpE [] (.indexAddr 1 (.const (pN ns)) (.const (pI (i : Int)))) (.pin [.str (List.getD (α := BY) ns i [])] 0) := (At rfl rfl (Cn h2) rfl)
 lO [(1, .b true), (0, oO q1), (4, oC h3)] [_, _, _] (by kernel_rfl) ⟨cI c1, q1, h3, trivial⟩ hr
theorem vSizN_n {ns : BL} {i : Nat} {m : Int} (c1 : (decide ((i : Int) < ((List.length (Ak ns) : Nat) : Int))) = false) :
  LoopN lp 0 (Ae Ld 1) (tl 0 58 [(3, pI m), (46, pN ns), (47, pI ((List.length (Ak ns) : Nat) : Int)), (48, pI (i : Int))]) [] (.exit 3, (tl 0 58 [(3, pI m)]), []) :=
 lX [(1, .b false)] [_] (by kernel_rfl) (by kernel_rfl) ⟨cI c1, trivial⟩
theorem vSiz0 {k n : Int} {s : BY} {is : List Val} {ns : BL} {m1 m2 : Int} (w1 : (k == 1) = false → (k == 2) = false → (k == 3) = true → Runs lp 73 [pI n] [] (.sl (bs (Ab (zz n))) 0 (List.length (Ab (zz n))), [.spare 1 (List.length (Ab (zz n)))])) (w2 : (k == 1) = false → (k == 2) = false → (k == 3) = false → (k == 4) = true → Runs lp 74 [pT s] [] (pI (IntKind.wrap .i64 (Cs s)), [])) (w3 : (k == 1) = false → (k == 2) = false → (k == 3) = false → (k == 4) = false → (k == 5) = true → Runs lp 74 [pT s] [] (pI (IntKind.wrap .i64 (Cs s)), [])) (w4 : (k == 1) = false → (k == 2) = false → (k == 3) = false → (k == 4) = false → (k == 5) = false → Runs lp 75 [pI ((List.length (Ad is) : Nat) : Int)] [] (pI (C8 (List.length (Ad is))), [])) (w5 : (k == 1) = false → (k == 2) = false → (k == 3) = false → (k == 4) = false → (k == 5) = false → LoopN lp 0 (Ae Ld 0) (tl 0 58 [(1, P00), (3, pI (IntKind.wrap .i64 (1 + (C8 (List.length (Ad is)))))), (34, pV is), (35, pI ((List.length (Ad is) : Nat) : Int)), (36, pI 0)]) [.row [(aR1 is k n ns s)]] (.exit 1, (tl 0 58 [(1, P00), (3, pI m1)]), [.row [(aR1 is k n ns s)]])) (w6 : (k == 1) = false → (k == 2) = false → (k == 3) = false → (k == 4) = false → (k == 5) = false → LoopN lp 0 (Ae Ld 1) (tl 0 58 [(3, pI m1), (46, pN ns), (47, pI ((List.length (Ak ns) : Nat) : Int)), (48, pI 0)]) [] (.exit 3, (tl 0 58 [(3, pI m2)]), [])) :
  Runs lp 54 [.agg (aR1 is k n ns s)] [] (if (k == 1) = true then ((pI 1, [])) else (if (k == 2) = true then ((pI 2, [])) else (if (k == 3) = true then ((pI (IntKind.wrap .i64 (1 + ((List.length (bs (Ab (zz n))) : Nat) : Int))), [])) else (if (k == 4) = true then ((pI (IntKind.wrap .i64 (1 + (IntKind.wrap .i64 (Cs s)))), [])) else (if (k == 5) = true then ((pI (IntKind.wrap .i64 (1 + (IntKind.wrap .i64 (Cs s)))), [])) else ((pI m2, []))))))) := by
 by_cases k1 : (k == 1) = true
 ·refine Aw k1 ?_
  exact
   rO [(6, .b true)] [_] (by kernel_rfl) ⟨cI k1, trivial⟩
 ·refine Ax k1 ?_
  replace k1 := Bool.eq_false_iff.2 k1
  by_cases k2 : (k == 2) = true
  ·refine Aw k2 ?_
   exact
    rO [(6, .b false), (2, .b true)] [_, _] (by kernel_rfl) ⟨cI k1, cI k2, trivial⟩
  ·refine Ax k2 ?_
   replace k2 := Bool.eq_false_iff.2 k2
   by_cases k3 : (k == 3) = true
   ·refine Aw k3 ?_
    exact
     rO [(6, .b false), (2, .b false), (2, .b true), (2, oC (w1 k1 k2 k3))] [_, _, _, _] (by kernel_rfl) ⟨cI k1, cI k2, cI k3, (w1 k1 k2 k3), trivial⟩
   ·refine Ax k3 ?_
    replace k3 := Bool.eq_false_iff.2 k3
    by_cases k4 : (k == 4) = true
    ·refine Aw k4 ?_
     exact
      rO [(6, .b false), (2, .b false), (2, .b false), (2, .b true), (0, .b true), (2, oC (w2 k1 k2 k3 k4))] [_, _, _, _, _, _] (by kernel_rfl) ⟨cI k1, cI k2, cI k3, cI k4, cI k4, (w2 k1 k2 k3 k4), trivial⟩
    ·refine Ax k4 ?_
     replace k4 := Bool.eq_false_iff.2 k4
     by_cases k5 : (k == 5) = true
     ·refine Aw k5 ?_
      exact
       rO [(6, .b false), (2, .b false), (2, .b false), (2, .b false), (2, .b true), (2, oC (w3 k1 k2 k3 k4 k5))] [_, _, _, _, _, _] (by kernel_rfl) ⟨cI k1, cI k2, cI k3, cI k4, cI k5, (w3 k1 k2 k3 k4 k5), trivial⟩
     ·refine Ax k5 ?_
      replace k5 := Bool.eq_false_iff.2 k5
      exact
       rO [(6, .b false), (2, .b false), (2, .b false), (2, .b false), (2, .b false), (3, oC (w4 k1 k2 k3 k4 k5)), (6, oL (w5 k1 k2 k3 k4 k5)), (4, oL (w6 k1 k2 k3 k4 k5))] [_, _, _, _, _, _, _, _] (by kernel_rfl) ⟨cI k1, cI k2, cI k3, cI k4, cI k5, (w4 k1 k2 k3 k4 k5), (w5 k1 k2 k3 k4 k5), (w6 k1 k2 k3 k4 k5), trivial⟩
theorem rSizR_yy {k n : Int} {s : BY} {is : List Val} {ns : BL} {i : Nat} {m : Int} (ke ne : Int) (se : BY) (ise : List Val) (nse : BL) (c1 : (decide ((i : Int) < ((List.length (Ad is) : Nat) : Int))) = true) (h2 : is[i]? = some (Val.mk ke ne se ise nse)) (h3 : Runs lp 51 [.agg [pI ke, pI ne, pT se, pV ise, pN nse]] [] (pI (B8 (Val.mk ke ne se ise nse)), [])) (c4 : (k == 7) = true) (h5 : i < List.length ns) (h6 : Runs lp 65 [pT (List.getD (α := BY) ns i [])] [] (.sl (bs (Ab (List.length (List.getD (α := BY) ns i [])) ++ (List.getD (α := BY) ns i []))) 0 (List.length (Ab (List.length (List.getD (α := BY) ns i [])) ++ (List.getD (α := BY) ns i []))), [.spare 1 (List.length (Ab (List.length (List.getD (α := BY) ns i [])) ++ (List.getD (α := BY) ns i [])))])) {r : RL} (hr : LoopN lp 0 (Ae Lc 0) (tl 0 62 [(1, P00), (3, pI (IntKind.wrap .i64 ((IntKind.wrap .i64 (m + (B8 (Val.mk ke ne se ise nse)))) + ((List.length (bs (Ab (List.length (List.getD (α := BY) ns i [])) ++ (List.getD (α := BY) ns i []))) : Nat) : Int)))), (4, pI (IntKind.wrap .i64 ((i : Int) + 1)))]) [.row [(aR1 is k n ns s)]] r) :
  LoopN lp 0 (Ae Lc 0) (tl 0 62 [(1, P00), (3, pI m), (4, pI (i : Int))]) [.row [(aR1 is k n ns s)]] r :=
 have q1 : OpE [.row [(aR1 is k n ns s)]] (.indexAddr 5 (.const (pV is)) (.const (pI (i : Int)))) (.pin [.int .i64 ke, .int .i64 ne, .str se, .sl (Ad ise), .sl (Ak nse)] 0) := (At rfl rfl (Ca h2) rfl)
 have q2 : OpE [.row [(aR1 is k n ns s)]] (.indexAddr 1 (.const (pN ns)) (.const (pI (i : Int)))) (.pin [.str (List.getD (α := BY) ns i [])] 0) := (At rfl rfl (Cn h5) rfl)
 lO [(5, .b true), (4, oO q1), (1, oC h3), (5, .b true), (4, oO q2), (1, oC h6)] [_, _, _, _, _, _] (by kernel_rfl) ⟨cI c1, q1, h3, cI c4, q2, h6, trivial⟩ hr
theorem rSizR_yn {k n : Int} {s : BY} {is : List Val} {ns : BL} {i : Nat} {m : Int} (ke ne : Int) (se : BY) (ise : List Val) (nse : BL) (c1 : (decide ((i : Int) < ((List.length (Ad is) : Nat) : Int))) = true) (h2 : is[i]? = some (Val.mk ke ne se ise nse)) (h3 : Runs lp 51 [.agg [pI ke, pI ne, pT se, pV ise, pN nse]] [] (pI (B8 (Val.mk ke ne se ise nse)), [])) (c4 : (k == 7) = false) {r : RL} (hr : LoopN lp 0 (Ae Lc 0) (tl 0 62 [(1, P00), (3, pI (IntKind.wrap .i64 (m + (B8 (Val.mk ke ne se ise nse))))), (4, pI (IntKind.wrap .i64 ((i : Int) + 1)))]) [.row [(aR1 is k n ns s)]] r) :
  LoopN lp 0 (Ae Lc 0) (tl 0 62 [(1, P00), (3, pI m), (4, pI (i : Int))]) [.row [(aR1 is k n ns s)]] r :=
 have q1 : OpE [.row [(aR1 is k n ns s)]] (.indexAddr 5 (.const (pV is)) (.const (pI (i : Int)))) (.pin [.int .i64 ke, .int .i64 ne, .str se, .sl (Ad ise), .sl (Ak nse)] 0) := (At rfl rfl (Ca h2) rfl)
 lO [(5, .b true), (4, oO q1), (1, oC h3), (5, .b false)] [_, _, _, _] (by kernel_rfl) ⟨cI c1, q1, h3, cI c4, trivial⟩ hr
theorem W0 {k n : Int} {s : BY} {is : List Val} {ns : BL} {i : Nat} {m : Int} (c1 : (decide ((i : Int) < ((List.length (Ad is) : Nat) : Int))) = false) :
  LoopN lp 0 (Ae Lc 0) (tl 0 62 [(1, P00), (3, pI m), (4, pI (i : Int))]) [.row [(aR1 is k n ns s)]] (.exit 1, (tl 0 62 [(3, pI m)]), [.row [(aR1 is k n ns s)]]) :=
 lX [(5, .b false)] [_] (by kernel_rfl) (by kernel_rfl) ⟨cI c1, trivial⟩
theorem rSiz0 {k n : Int} {s : BY} {is : List Val} {ns : BL} {m1 : Int} (w1 : (k == 2) = false → (k == 3) = true → Runs lp 64 [pI n] [] (.sl (bs (Ab (zz n))) 0 (List.length (Ab (zz n))), [.spare 1 (List.length (Ab (zz n)))])) (w2 : (k == 2) = false → (k == 3) = false → (k == 4) = true → Runs lp 65 [pT s] [] (.sl (bs (Ab (List.length s) ++ s)) 0 (List.length (Ab (List.length s) ++ s)), [.spare 1 (List.length (Ab (List.length s) ++ s))])) (w3 : (k == 2) = false → (k == 3) = false → (k == 4) = false → (k == 5) = true → Runs lp 65 [pT s] [] (.sl (bs (Ab (List.length s) ++ s)) 0 (List.length (Ab (List.length s) ++ s)), [.spare 1 (List.length (Ab (List.length s) ++ s))])) (w4 : (k == 2) = false → (k == 3) = false → (k == 4) = false → (k == 5) = false → (k == 6) = true → Runs lp 43 [pI ((List.length (Ad is) : Nat) : Int)] [] (.sl (bs (Ab (List.length (Ad is)))) 0 (List.length (Ab (List.length (Ad is)))), [.spare 1 (List.length (Ab (List.length (Ad is))))])) (w5 : (k == 2) = false → (k == 3) = false → (k == 4) = false → (k == 5) = false → (k == 6) = true → LoopN lp 0 (Ae Lc 0) (tl 0 62 [(1, P00), (3, pI (IntKind.wrap .i64 (1 + ((List.length (bs (Ab (List.length (Ad is)))) : Nat) : Int)))), (4, pI 0)]) [.row [(aR1 is k n ns s)]] (.exit 1, (tl 0 62 [(3, pI m1)]), [.row [(aR1 is k n ns s)]])) (w6 : (k == 2) = false → (k == 3) = false → (k == 4) = false → (k == 5) = false → (k == 6) = false → (k == 7) = true → Runs lp 43 [pI ((List.length (Ad is) : Nat) : Int)] [] (.sl (bs (Ab (List.length (Ad is)))) 0 (List.length (Ab (List.length (Ad is)))), [.spare 1 (List.length (Ab (List.length (Ad is))))])) (w7 : (k == 2) = false → (k == 3) = false → (k == 4) = false → (k == 5) = false → (k == 6) = false → (k == 7) = true → LoopN lp 0 (Ae Lc 0) (tl 0 62 [(1, P00), (3, pI (IntKind.wrap .i64 (1 + ((List.length (bs (Ab (List.length (Ad is)))) : Nat) : Int)))), (4, pI 0)]) [.row [(aR1 is k n ns s)]] (.exit 1, (tl 0 62 [(3, pI m1)]), [.row [(aR1 is k n ns s)]])) (w8 : (k == 2) = false → (k == 3) = false → (k == 4) = false → (k == 5) = false → (k == 6) = false → (k == 7) = false → LoopN lp 0 (Ae Lc 0) (tl 0 62 [(1, P00), (3, pI 1), (4, pI 0)]) [.row [(aR1 is k n ns s)]] (.exit 1, (tl 0 62 [(3, pI m1)]), [.row [(aR1 is k n ns s)]])) :
  Runs lp 51 [.agg (aR1 is k n ns s)] [] (if (k == 2) = true then ((pI 2, [])) else (if (k == 3) = true then ((pI (IntKind.wrap .i64 (1 + ((List.length (bs (Ab (zz n))) : Nat) : Int))), [])) else (if (k == 4) = true then ((pI (IntKind.wrap .i64 (1 + ((List.length (bs (Ab (List.length s) ++ s)) : Nat) : Int))), [])) else (if (k == 5) = true then ((pI (IntKind.wrap .i64 (1 + ((List.length (bs (Ab (List.length s) ++ s)) : Nat) : Int))), [])) else (if (k == 6) = true then ((pI m1, [])) else (if (k == 7) = true then ((pI m1, [])) else ((pI m1, [])))))))) := by
 by_cases k1 : (k == 2) = true
 ·refine Aw k1 ?_
  exact
   rO [(7, .b true)] [_] (by kernel_rfl) ⟨cI k1, trivial⟩
 ·refine Ax k1 ?_
  replace k1 := Bool.eq_false_iff.2 k1
  by_cases k2 : (k == 3) = true
  ·refine Aw k2 ?_
   exact
    rO [(7, .b false), (2, .b true), (2, oC (w1 k1 k2))] [_, _, _] (by kernel_rfl) ⟨cI k1, cI k2, (w1 k1 k2), trivial⟩
  ·refine Ax k2 ?_
   replace k2 := Bool.eq_false_iff.2 k2
   by_cases k3 : (k == 4) = true
   ·refine Aw k3 ?_
    exact
     rO [(7, .b false), (2, .b false), (2, .b true), (0, .b true), (2, oC (w2 k1 k2 k3))] [_, _, _, _, _] (by kernel_rfl) ⟨cI k1, cI k2, cI k3, cI k3, (w2 k1 k2 k3), trivial⟩
   ·refine Ax k3 ?_
    replace k3 := Bool.eq_false_iff.2 k3
    by_cases k4 : (k == 5) = true
    ·refine Aw k4 ?_
     exact
      rO [(7, .b false), (2, .b false), (2, .b false), (2, .b true), (2, oC (w3 k1 k2 k3 k4))] [_, _, _, _, _] (by kernel_rfl) ⟨cI k1, cI k2, cI k3, cI k4, (w3 k1 k2 k3 k4), trivial⟩
    ·refine Ax k4 ?_
     replace k4 := Bool.eq_false_iff.2 k4
     by_cases k5 : (k == 6) = true
     ·refine Aw k5 ?_
      exact
       rO [(7, .b false), (2, .b false), (2, .b false), (2, .b false), (2, .b true), (0, .b true), (4, oC (w4 k1 k2 k3 k4 k5)), (4, oL (w5 k1 k2 k3 k4 k5))] [_, _, _, _, _, _, _, _] (by kernel_rfl) ⟨cI k1, cI k2, cI k3, cI k4, cI k5, cI k5, (w4 k1 k2 k3 k4 k5), (w5 k1 k2 k3 k4 k5), trivial⟩
     ·refine Ax k5 ?_
      replace k5 := Bool.eq_false_iff.2 k5
      by_cases k6 : (k == 7) = true
      ·refine Aw k6 ?_
       exact
        rO [(7, .b false), (2, .b false), (2, .b false), (2, .b false), (2, .b false), (2, .b true), (4, oC (w6 k1 k2 k3 k4 k5 k6)), (4, oL (w7 k1 k2 k3 k4 k5 k6))] [_, _, _, _, _, _, _, _] (by kernel_rfl) ⟨cI k1, cI k2, cI k3, cI k4, cI k5, cI k6, (w6 k1 k2 k3 k4 k5 k6), (w7 k1 k2 k3 k4 k5 k6), trivial⟩
      ·refine Ax k6 ?_
       replace k6 := Bool.eq_false_iff.2 k6
       exact
        rO [(7, .b false), (2, .b false), (2, .b false), (2, .b false), (2, .b false), (2, .b false), (1, oL (w8 k1 k2 k3 k4 k5 k6))] [_, _, _, _, _, _, _] (by kernel_rfl) ⟨cI k1, cI k2, cI k3, cI k4, cI k5, cI k6, (w8 k1 k2 k3 k4 k5 k6), trivial⟩
theorem vCheck0 {k n : Int} {s : BY} {is : List Val} {ns : BL} (w1 : Runs lp 52 [.agg (aR1 is k n ns s)] [] (pB (Ce (Val.mk k n s is ns)), [])) (w2 : (Ce (Val.mk k n s is ns)) = true → Runs lp 53 [.agg (aR1 is k n ns s)] [] (pI (Bg (Val.mk k n s is ns)), [])) (w3 : (Ce (Val.mk k n s is ns)) = true → (decide ((Bg (Val.mk k n s is ns)) > 8)) = false → Runs lp 54 [.agg (aR1 is k n ns s)] [] (pI (B8 (Val.mk k n s is ns)), [])) :
  Runs lp 33 [.agg (aR1 is k n ns s)] [] (if (Ce (Val.mk k n s is ns)) = true then (if (decide ((Bg (Val.mk k n s is ns)) > 8)) = true then ((pI 21, [])) else (if (decide ((B8 (Val.mk k n s is ns)) > 4096)) = true then ((pI 22, [])) else ((pI 0, [])))) else ((pI 20, []))) := by
 by_cases k1 : (Ce (Val.mk k n s is ns)) = true
 ·refine Aw k1 ?_
  by_cases k2 : (decide ((Bg (Val.mk k n s is ns)) > 8)) = true
  ·refine Aw k2 ?_
   exact
    rO [(3, oC w1), (2, .b false), (1, oC (w2 k1)), (2, .b true)] [_, _, _, _] (by kernel_rfl) ⟨w1, (cI (Ah k1)), (w2 k1), cI k2, trivial⟩
  ·refine Ax k2 ?_
   replace k2 := Bool.eq_false_iff.2 k2
   by_cases k3 : (decide ((B8 (Val.mk k n s is ns)) > 4096)) = true
   ·refine Aw k3 ?_
    exact
     rO [(3, oC w1), (2, .b false), (1, oC (w2 k1)), (2, .b false), (1, oC (w3 k1 k2)), (2, .b true)] [_, _, _, _, _, _] (by kernel_rfl) ⟨w1, (cI (Ah k1)), (w2 k1), cI k2, (w3 k1 k2), cI k3, trivial⟩
   ·refine Ax k3 ?_
    replace k3 := Bool.eq_false_iff.2 k3
    exact
     rO [(3, oC w1), (2, .b false), (1, oC (w2 k1)), (2, .b false), (1, oC (w3 k1 k2)), (2, .b false)] [_, _, _, _, _, _] (by kernel_rfl) ⟨w1, (cI (Ah k1)), (w2 k1), cI k2, (w3 k1 k2), cI k3, trivial⟩
 ·refine Ax k1 ?_
  replace k1 := Bool.eq_false_iff.2 k1
  exact
   rO [(3, oC w1), (2, .b true)] [_, _] (by kernel_rfl) ⟨w1, (cI (Ah k1)), trivial⟩
theorem rCheck0 {k n : Int} {s : BY} {is : List Val} {ns : BL} (w1 : Runs lp 49 [.agg (aR1 is k n ns s)] [] (pB (Ce (Val.mk k n s is ns)), [])) (w2 : (Ce (Val.mk k n s is ns)) = true → Runs lp 50 [.agg (aR1 is k n ns s)] [] (pI (Bg (Val.mk k n s is ns)), [])) (w3 : (Ce (Val.mk k n s is ns)) = true → (decide ((Bg (Val.mk k n s is ns)) > 8)) = false → Runs lp 51 [.agg (aR1 is k n ns s)] [] (pI (B8 (Val.mk k n s is ns)), [])) :
  Runs lp 26 [.agg (aR1 is k n ns s)] [] (if (Ce (Val.mk k n s is ns)) = true then (if (decide ((Bg (Val.mk k n s is ns)) > 8)) = true then ((pI 21, [])) else (if (decide ((B8 (Val.mk k n s is ns)) > 4096)) = true then ((pI 22, [])) else ((pI 0, [])))) else ((pI 20, []))) := by
 by_cases k1 : (Ce (Val.mk k n s is ns)) = true
 ·refine Aw k1 ?_
  by_cases k2 : (decide ((Bg (Val.mk k n s is ns)) > 8)) = true
  ·refine Aw k2 ?_
   exact
    rO [(3, oC w1), (2, .b false), (1, oC (w2 k1)), (2, .b true)] [_, _, _, _] (by kernel_rfl) ⟨w1, (cI (Ah k1)), (w2 k1), cI k2, trivial⟩
  ·refine Ax k2 ?_
   replace k2 := Bool.eq_false_iff.2 k2
   by_cases k3 : (decide ((B8 (Val.mk k n s is ns)) > 4096)) = true
   ·refine Aw k3 ?_
    exact
     rO [(3, oC w1), (2, .b false), (1, oC (w2 k1)), (2, .b false), (1, oC (w3 k1 k2)), (2, .b true)] [_, _, _, _, _, _] (by kernel_rfl) ⟨w1, (cI (Ah k1)), (w2 k1), cI k2, (w3 k1 k2), cI k3, trivial⟩
   ·refine Ax k3 ?_
    replace k3 := Bool.eq_false_iff.2 k3
    exact
     rO [(3, oC w1), (2, .b false), (1, oC (w2 k1)), (2, .b false), (1, oC (w3 k1 k2)), (2, .b false)] [_, _, _, _, _, _] (by kernel_rfl) ⟨w1, (cI (Ah k1)), (w2 k1), cI k2, (w3 k1 k2), cI k3, trivial⟩
 ·refine Ax k1 ?_
  replace k1 := Bool.eq_false_iff.2 k1
  exact
   rO [(3, oC w1), (2, .b true)] [_, _] (by kernel_rfl) ⟨w1, (cI (Ah k1)), trivial⟩
theorem rNodR_yy {k n : Int} {s : BY} {is : List Val} {ns : BL} {i : Nat} {m d : Int} (ke ne : Int) (se : BY) (ise : List Val) (nse : BL) (c1 : (decide ((i : Int) < ((List.length (Ad is) : Nat) : Int))) = true) (c2 : (decide (m < 65536)) = true) (h3 : is[i]? = some (Val.mk ke ne se ise nse)) (h4 : Runs lp 31 [.agg [pI ke, pI ne, pT se, pV ise, pN nse], pI (IntKind.wrap .i64 (d + 1))] [] (pI (Df (IntKind.wrap .i64 (d + 1)) (Val.mk ke ne se ise nse)), [])) {r : RL} (hr : LoopN lp 0 (Ae Qb 0) (tl 0 35 [(1, pI d), (2, P00), (5, pI (IntKind.wrap .i64 (m + (Df (IntKind.wrap .i64 (d + 1)) (Val.mk ke ne se ise nse))))), (6, pI (IntKind.wrap .i64 ((i : Int) + 1)))]) [.row [(aR1 is k n ns s)]] r) :
  LoopN lp 0 (Ae Qb 0) (tl 0 35 [(1, pI d), (2, P00), (5, pI m), (6, pI (i : Int))]) [.row [(aR1 is k n ns s)]] r :=
 have q1 : OpE [.row [(aR1 is k n ns s)]] (.indexAddr 5 (.const (pV is)) (.const (pI (i : Int)))) (.pin [.int .i64 ke, .int .i64 ne, .str se, .sl (Ad ise), .sl (Ak nse)] 0) := (At rfl rfl (Ca h3) rfl)
 lO [(6, .b true), (1, .b true), (1, .b true), (0, .b true), (4, oO q1), (3, oC h4)] [_, _, _, _, _, _] (by kernel_rfl) ⟨cI c1, cI c1, cI c1, cI c2, q1, h4, trivial⟩ hr
theorem rNodR_yn {k n : Int} {s : BY} {is : List Val} {ns : BL} {i : Nat} {m d : Int} (c1 : (decide ((i : Int) < ((List.length (Ad is) : Nat) : Int))) = true) (c2 : (decide (m < 65536)) = false) :
  LoopN lp 0 (Ae Qb 0) (tl 0 35 [(1, pI d), (2, P00), (5, pI m), (6, pI (i : Int))]) [.row [(aR1 is k n ns s)]] (.exit 0, (tl 0 35 [(5, pI m)]), [.row [(aR1 is k n ns s)]]) :=
 lX [(6, .b true), (1, .b true), (1, .b true), (0, .b false)] [_, _, _, _] (by kernel_rfl) (by kernel_rfl) ⟨cI c1, cI c1, cI c1, cI c2, trivial⟩
theorem rNodR_n {k n : Int} {s : BY} {is : List Val} {ns : BL} {i : Nat} {m d : Int} (c1 : (decide ((i : Int) < ((List.length (Ad is) : Nat) : Int))) = false) :
  LoopN lp 0 (Ae Qb 0) (tl 0 35 [(1, pI d), (2, P00), (5, pI m), (6, pI (i : Int))]) [.row [(aR1 is k n ns s)]] (.exit 0, (tl 0 35 [(5, pI m)]), [.row [(aR1 is k n ns s)]]) :=
 lX [(6, .b false), (0, .b false), (0, .b false)] [_, _, _] (by kernel_rfl) (by kernel_rfl) ⟨cI c1, cI c1, cI c1, trivial⟩
theorem rNod0 {k n : Int} {s : BY} {is : List Val} {ns : BL} {d m1 : Int} (w1 : (decide (d > 40)) = false → LoopN lp 0 (Ae Qb 0) (tl 0 35 [(1, pI d), (2, P00), (5, pI (IntKind.wrap .i64 (1 + ((List.length (Ak ns) : Nat) : Int)))), (6, pI 0)]) [.row [(aR1 is k n ns s)]] (.exit 0, (tl 0 35 [(5, pI m1)]), [.row [(aR1 is k n ns s)]])) :
  Runs lp 31 [.agg (aR1 is k n ns s), pI d] [] (if (decide (d > 40)) = true then ((pI 1048576, [])) else ((pI m1, []))) := by
 by_cases k1 : (decide (d > 40)) = true
 ·refine Aw k1 ?_
  exact
   rO [(4, .b true)] [_] (by kernel_rfl) ⟨cI k1, trivial⟩
 ·refine Ax k1 ?_
  replace k1 := Bool.eq_false_iff.2 k1
  exact
   rO [(4, .b false), (6, oL (w1 k1))] [_, _] (by kernel_rfl) ⟨cI k1, (w1 k1), trivial⟩
theorem rLarge0 {k n : Int} {s : BY} {is : List Val} {ns : BL} (w1 : Runs lp 31 [.agg (aR1 is k n ns s), pI 0] [] (pI (Df 0 (Val.mk k n s is ns)), [])) :
  Runs lp 11 [.agg (aR1 is k n ns s)] [] ((pB (decide ((Df 0 (Val.mk k n s is ns)) > 3000)), [])) := by
 exact
  rO [(3, oC w1)] [_] (by kernel_rfl) ⟨w1, trivial⟩
end Go.Proofs.Ytmbjojnldbeicaa
