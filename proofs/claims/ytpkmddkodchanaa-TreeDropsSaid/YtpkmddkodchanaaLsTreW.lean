import Derived.Test.YtpkmddkodchanaaLsAb
import Derived.Test.YtpkmddkodchanaaLsIdx
import Derived.Test.YtpkmddkodchanaaLsVal3
import Derived.Test.YtpkmddkodchanaaLsG5
set_option linter.unusedVariables false
set_option linter.unusedSimpArgs false
set_option maxRecDepth 100000
namespace Go.Proofs.Ytpkmddkodchanaa
open Go Go.LS
theorem Vf {s : BY} {ns : BL} {i : Nat} (c1 : (decide ((i : Int) < ((List.length (Ab ns) : Nat) : Int))) = true) (h2 : i < List.length ns) (c3 : (s == (List.getD (α := BY) ns i [])) = true) :
  LoopN lp 0 (Aj Li 0) (tl 0 19 [(0, pN ns), (1, pT s), (7, pI ((List.length (Ab ns) : Nat) : Int)), (8, pI (i : Int))]) [] (.ret, (tl 0 19 [(4, pI (i : Int))]), []) :=
 have q1 : OpE [] (.indexAddr 1 (.const (pN ns)) (.const (pI (i : Int)))) (.pin [.str (List.getD (α := BY) ns i [])] 0) := (Av rfl rfl (A7 h2) rfl)
 lX [(1, .b true), (5, oO q1), (2, .b true)] [_, _, _] (by kernel_rfl) (by kernel_rfl) ⟨cI c1, q1, cI c3, trivial⟩
theorem Qv {s : BY} {ns : BL} {i : Nat} (c1 : (decide ((i : Int) < ((List.length (Ab ns) : Nat) : Int))) = true) (h2 : i < List.length ns) (c3 : (s == (List.getD (α := BY) ns i [])) = false) {r : RL} (hr : LoopN lp 0 (Aj Li 0) (tl 0 19 [(0, pN ns), (1, pT s), (7, pI ((List.length (Ab ns) : Nat) : Int)), (8, pI (IntKind.wrap .i64 ((i : Int) + 1)))]) [] r) :
  LoopN lp 0 (Aj Li 0) (tl 0 19 [(0, pN ns), (1, pT s), (7, pI ((List.length (Ab ns) : Nat) : Int)), (8, pI (i : Int))]) [] r :=
 have q1 : OpE [] (.indexAddr 1 (.const (pN ns)) (.const (pI (i : Int)))) (.pin [.str (List.getD (α := BY) ns i [])] 0) := (Av rfl rfl (A7 h2) rfl)
 lO [(1, .b true), (5, oO q1), (2, .b false)] [_, _, _] (by kernel_rfl) ⟨cI c1, q1, cI c3, trivial⟩ hr
theorem sIxR_n {s : BY} {ns : BL} {i : Nat} (c1 : (decide ((i : Int) < ((List.length (Ab ns) : Nat) : Int))) = false) :
  LoopN lp 0 (Aj Li 0) (tl 0 19 [(0, pN ns), (1, pT s), (7, pI ((List.length (Ab ns) : Nat) : Int)), (8, pI (i : Int))]) [] (.exit 0, (tl 0 19 []), []) :=
 lX [(1, .b false)] [_] (by kernel_rfl) (by kernel_rfl) ⟨cI c1, trivial⟩
theorem sIx0 {s : BY} {ns : BL} {i : Nat} (w1 : (List.contains ns s) = true → LoopN lp 0 (Aj Li 0) (tl 0 19 [(0, pN ns), (1, pT s), (7, pI ((List.length (Ab ns) : Nat) : Int)), (8, pI 0)]) [] (.ret, (tl 0 19 [(4, pI (i : Int))]), [])) (w2 : (List.contains ns s) = false → LoopN lp 0 (Aj Li 0) (tl 0 19 [(0, pN ns), (1, pT s), (7, pI ((List.length (Ab ns) : Nat) : Int)), (8, pI 0)]) [] (.exit 0, (tl 0 19 []), [])) :
  Runs lp 44 [pN ns, pT s] [] (if (List.contains ns s) = true then ((pI (i : Int), [])) else ((pI (-1), []))) := by
 by_cases k1 : (List.contains ns s) = true
 ·refine Ao k1 ?_
  exact
   rO [(4, oL (w1 k1))] [_] (by kernel_rfl) ⟨(w1 k1), trivial⟩
 ·refine Ap k1 ?_
  replace k1 := Bool.eq_false_iff.2 k1
  exact
   rO [(4, oL (w2 k1))] [_] (by kernel_rfl) ⟨(w2 k1), trivial⟩
theorem tPl0 {k n : Int} {s : BY} {is : List Val} {ns : BL} {st : BY} (w1 : (k == 7) = true → Runs lp 44 [pN ns, pT st] [] (pI (F2 st ns 0), [])) (w2 : (k == 7) = false → (k == 6) = true → Runs lp 45 [pT st] [] (.tup [pI (Option.getD (C5 st) 0), pB (Option.isSome (C5 st))], [])) :
  Runs lp 28 [.agg (aR8 is k n ns s), pT st] [] (if (k == 7) = true then ((pI (F2 st ns 0), [])) else (if (k == 6) = true then (if (Option.isSome (C5 st)) = true then (if (decide ((Option.getD (C5 st) 0) < ((List.length (Ac is) : Nat) : Int))) = true then ((pI (Option.getD (C5 st) 0), [])) else ((pI (-1), []))) else ((pI (-1), []))) else ((pI (-1), [])))) := by
 by_cases k1 : (k == 7) = true
 ·refine Ao k1 ?_
  exact
   rO [(6, .b true), (3, oC (w1 k1))] [_, _] (by kernel_rfl) ⟨cI k1, (w1 k1), trivial⟩
 ·refine Ap k1 ?_
  replace k1 := Bool.eq_false_iff.2 k1
  by_cases k2 : (k == 6) = true
  ·refine Ao k2 ?_
   by_cases k3 : (Option.isSome (C5 st)) = true
   ·refine Ao k3 ?_
    by_cases k4 : (decide ((Option.getD (C5 st) 0) < ((List.length (Ac is) : Nat) : Int))) = true
    ·refine Ao k4 ?_
     exact
      rO [(6, .b false), (2, .b true), (1, oC (w2 k1 k2)), (7, .b true), (1, .b true), (1, .b true), (1, .b true), (1, .b true), (1, .b true), (0, .b true)] [_, _, _, _, _, _, _, _, _, _] (by kernel_rfl) ⟨cI k1, cI k2, (w2 k1 k2), cI k3, cI k3, cI k3, cI k3, cI k3, cI k3, cI k4, trivial⟩
    ·refine Ap k4 ?_
     replace k4 := Bool.eq_false_iff.2 k4
     exact
      rO [(6, .b false), (2, .b true), (1, oC (w2 k1 k2)), (7, .b true), (1, .b true), (1, .b true), (1, .b true), (1, .b true), (1, .b true), (0, .b false)] [_, _, _, _, _, _, _, _, _, _] (by kernel_rfl) ⟨cI k1, cI k2, (w2 k1 k2), cI k3, cI k3, cI k3, cI k3, cI k3, cI k3, cI k4, trivial⟩
   ·refine Ap k3 ?_
    replace k3 := Bool.eq_false_iff.2 k3
    exact
     rO [(6, .b false), (2, .b true), (1, oC (w2 k1 k2)), (7, .b false), (0, .b false), (0, .b false), (0, .b false), (0, .b false), (0, .b false)] [_, _, _, _, _, _, _, _, _] (by kernel_rfl) ⟨cI k1, cI k2, (w2 k1 k2), cI k3, cI k3, cI k3, cI k3, cI k3, cI k3, trivial⟩
  ·refine Ap k2 ?_
   replace k2 := Bool.eq_false_iff.2 k2
   exact
    rO [(6, .b false), (2, .b false)] [_, _] (by kernel_rfl) ⟨cI k1, cI k2, trivial⟩
theorem Vg {k n : Int} {s : BY} {is : List Val} {ns : BL} {st : BY} {i : Nat} (c1 : (decide ((i : Int) < ((List.length (Ab ns) : Nat) : Int))) = true) (h2 : i < List.length ns) (c3 : ((List.getD (α := BY) ns i []) == st) = true) :
  LoopN lp 0 (Aj Lh 0) (tl 0 36 [(1, pT st), (2, P00), (6, pI (i : Int))]) [.row (aR1 is k n ns s)] (.ret, (tl 0 36 [(4, pI (i : Int))]), [.row (aR1 is k n ns s)]) :=
 have q1 : OpE [.row (aR1 is k n ns s)] (.indexAddr 1 (.const (pN ns)) (.const (pI (i : Int)))) (.pin [.str (List.getD (α := BY) ns i [])] 0) := (Av rfl rfl (A7 h2) rfl)
 lX [(5, .b true), (3, oO q1), (3, .b true)] [_, _, _] (by kernel_rfl) (by kernel_rfl) ⟨cI c1, q1, cI c3, trivial⟩
theorem Qw {k n : Int} {s : BY} {is : List Val} {ns : BL} {st : BY} {i : Nat} (c1 : (decide ((i : Int) < ((List.length (Ab ns) : Nat) : Int))) = true) (h2 : i < List.length ns) (c3 : ((List.getD (α := BY) ns i []) == st) = false) {r : RL} (hr : LoopN lp 0 (Aj Lh 0) (tl 0 36 [(1, pT st), (2, P00), (6, pI (IntKind.wrap .i64 ((i : Int) + 1)))]) [.row (aR1 is k n ns s)] r) :
  LoopN lp 0 (Aj Lh 0) (tl 0 36 [(1, pT st), (2, P00), (6, pI (i : Int))]) [.row (aR1 is k n ns s)] r :=
 have q1 : OpE [.row (aR1 is k n ns s)] (.indexAddr 1 (.const (pN ns)) (.const (pI (i : Int)))) (.pin [.str (List.getD (α := BY) ns i [])] 0) := (Av rfl rfl (A7 h2) rfl)
 lO [(5, .b true), (3, oO q1), (3, .b false)] [_, _, _] (by kernel_rfl) ⟨cI c1, q1, cI c3, trivial⟩ hr
theorem rPlR_n {k n : Int} {s : BY} {is : List Val} {ns : BL} {st : BY} {i : Nat} (c1 : (decide ((i : Int) < ((List.length (Ab ns) : Nat) : Int))) = false) :
  LoopN lp 0 (Aj Lh 0) (tl 0 36 [(1, pT st), (2, P00), (6, pI (i : Int))]) [.row (aR1 is k n ns s)] (.exit 0, (tl 0 36 []), [.row (aR1 is k n ns s)]) :=
 lX [(5, .b false)] [_] (by kernel_rfl) (by kernel_rfl) ⟨cI c1, trivial⟩
theorem rPl0 {k n : Int} {s : BY} {is : List Val} {ns : BL} {st : BY} {i : Nat} (w1 : (k == 6) = true → Runs lp 38 [pT st] [] (pI (Option.getD (C5 st) (-1)), [])) (w2 : (k == 6) = false → (k == 7) = true → (List.contains ns st) = true → LoopN lp 0 (Aj Lh 0) (tl 0 36 [(1, pT st), (2, P00), (6, pI 0)]) [.row (aR1 is k n ns s)] (.ret, (tl 0 36 [(4, pI (i : Int))]), [.row (aR1 is k n ns s)])) (w3 : (k == 6) = false → (k == 7) = true → (List.contains ns st) = false → LoopN lp 0 (Aj Lh 0) (tl 0 36 [(1, pT st), (2, P00), (6, pI 0)]) [.row (aR1 is k n ns s)] (.exit 0, (tl 0 36 []), [.row (aR1 is k n ns s)])) :
  Runs lp 31 [.agg (aR8 is k n ns s), pT st] [] (if (k == 6) = true then (if (decide ((Option.getD (C5 st) (-1)) < ((List.length (Ac is) : Nat) : Int))) = true then ((pI (Option.getD (C5 st) (-1)), [])) else ((pI (-1), []))) else (if (k == 7) = true then (if (List.contains ns st) = true then ((pI (i : Int), [])) else ((pI (-1), []))) else ((pI (-1), [])))) := by
 by_cases k1 : (k == 6) = true
 ·refine Ao k1 ?_
  by_cases k2 : (decide ((Option.getD (C5 st) (-1)) < ((List.length (Ac is) : Nat) : Int))) = true
  ·refine Ao k2 ?_
   exact
    rO [(5, .b true), (1, oC (w1 k1)), (6, .b true)] [_, _, _] (by kernel_rfl) ⟨cI k1, (w1 k1), cI k2, trivial⟩
  ·refine Ap k2 ?_
   replace k2 := Bool.eq_false_iff.2 k2
   exact
    rO [(5, .b true), (1, oC (w1 k1)), (6, .b false)] [_, _, _] (by kernel_rfl) ⟨cI k1, (w1 k1), cI k2, trivial⟩
 ·refine Ap k1 ?_
  replace k1 := Bool.eq_false_iff.2 k1
  by_cases k2 : (k == 7) = true
  ·refine Ao k2 ?_
   by_cases k3 : (List.contains ns st) = true
   ·refine Ao k3 ?_
    exact
     rO [(5, .b false), (3, .b true), (1, oL (w2 k1 k2 k3))] [_, _, _] (by kernel_rfl) ⟨cI k1, cI k2, (w2 k1 k2 k3), trivial⟩
   ·refine Ap k3 ?_
    replace k3 := Bool.eq_false_iff.2 k3
    exact
     rO [(5, .b false), (3, .b true), (1, oL (w3 k1 k2 k3))] [_, _, _] (by kernel_rfl) ⟨cI k1, cI k2, (w3 k1 k2 k3), trivial⟩
  ·refine Ap k2 ?_
   replace k2 := Bool.eq_false_iff.2 k2
   exact
    rO [(5, .b false), (3, .b false)] [_, _] (by kernel_rfl) ⟨cI k1, cI k2, trivial⟩
end Go.Proofs.Ytpkmddkodchanaa
