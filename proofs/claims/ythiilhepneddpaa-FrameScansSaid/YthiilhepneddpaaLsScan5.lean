/- Frames that are put: ways, printed by symex.py. -/
import Derived.Test.YthiilhepneddpaaLsScan4
set_option linter.unusedVariables false
set_option maxRecDepth 100000
namespace Go.Proofs.Ythiilhepneddpaa
open Go Go.LS


theorem ef_get {A : List (List UInt8)} {i : Nat} (h : i < A.length) : (ef A)[i]? = some [.sl (bs (List.getD A i []))] := by simp [ef, h]

/- decide ((i : Int) < ((List.length (ef A) : Nat) : Int)) -/
theorem sameR_y {A : List (List UInt8)} {i p q : Nat} (c1 : (decide ((i : Int) < ((List.length (ef A) : Nat) : Int))) = true) (h2 : i < List.length A) {r : LOut × List LV × List LObj} (hr : LoopAt lp 2 (loopNo lf15 0).1 (loopNo lf15 0).2 (tl 0 28 [(0, (.p (.sl (ef A)))), (1, (.p (.sl (ef A)))), (5, (.p (.int .i64 (IntKind.wrap .i64 ((i : Int) + 1)))))]) [.spare 1 p, .spare 1 q] r) :
    LoopAt lp 2 (loopNo lf15 0).1 (loopNo lf15 0).2 (tl 0 28 [(0, (.p (.sl (ef A)))), (1, (.p (.sl (ef A)))), (5, (.p (.int .i64 (i : Int))))]) [.spare 1 p, .spare 1 q] r :=
  .on (N := 100) (os := [(4, .b true), (2, .op (.pin [(.sl (bs (List.getD A i [])))] 0) [.spare 1 p, .spare 1 q]), (1, .op (.p (.str (List.getD A i []))) [.spare 1 p, .spare 1 q]), (2, .op (.pin [(.sl (bs (List.getD A i [])))] 0) [.spare 1 p, .spare 1 q]), (1, .op (.p (.str (List.getD A i []))) [.spare 1 p, .spare 1 q]), (1, .b false)])
    (ps := [(LV.p (PV.bool (decide ((i : Int) < ((List.length (ef A) : Nat) : Int)))) = .p (.bool true)), (opStep noCall [] [.spare 1 p, .spare 1 q] (.indexAddr 1 (.const (.p (.sl (ef A)))) (.const (.p (.int .i64 (i : Int))))) = some ((.pin [(.sl (bs (List.getD A i [])))] 0), [.spare 1 p, .spare 1 q])), (opStep noCall [] [.spare 1 p, .spare 1 q] (.cv .b2s (.const (.p (.sl (bs (List.getD A i [])))))) = some ((.p (.str (List.getD A i []))), [.spare 1 p, .spare 1 q])), (opStep noCall [] [.spare 1 p, .spare 1 q] (.indexAddr 1 (.const (.p (.sl (ef A)))) (.const (.p (.int .i64 (i : Int))))) = some ((.pin [(.sl (bs (List.getD A i [])))] 0), [.spare 1 p, .spare 1 q])), (opStep noCall [] [.spare 1 p, .spare 1 q] (.cv .b2s (.const (.p (.sl (bs (List.getD A i [])))))) = some ((.p (.str (List.getD A i []))), [.spare 1 p, .spare 1 q])), (LV.p (PV.bool (!((List.getD A i []) == (List.getD A i [])))) = .p (.bool false))])
    (by kernel_rfl) ⟨(congrArg (fun b => LV.p (PV.bool b)) c1), (opIs_idxE rfl rfl (ef_get h2) rfl), (opIs_b2s rfl), (opIs_idxE rfl rfl (ef_get h2) rfl), (opIs_b2s rfl), (congrArg (fun b => LV.p (PV.bool b)) (by simp)), trivial⟩ hr

/- not decide ((i : Int) < ((List.length (ef A) : Nat) : Int)) -/
theorem sameR_n {A : List (List UInt8)} {i p q : Nat} (c1 : (decide ((i : Int) < ((List.length (ef A) : Nat) : Int))) = false) :
    LoopAt lp 2 (loopNo lf15 0).1 (loopNo lf15 0).2 (tl 0 28 [(0, (.p (.sl (ef A)))), (1, (.p (.sl (ef A)))), (5, (.p (.int .i64 (i : Int))))]) [.spare 1 p, .spare 1 q] ((.exit 0), (tl 0 28 []), [.spare 1 p, .spare 1 q]) :=
  .out (N := 100) (os := [(4, .b false)])
    (ps := [(LV.p (PV.bool (decide ((i : Int) < ((List.length (ef A) : Nat) : Int)))) = .p (.bool false))])
    (by kernel_rfl) (by kernel_rfl) ⟨(congrArg (fun b => LV.p (PV.bool b)) c1), trivial⟩

theorem sameR {A : List (List UInt8)} {i p q : Nat} (w1 : (decide ((i : Int) < ((List.length (ef A) : Nat) : Int))) = true → i < List.length A) {r : LOut × List LV × List LObj} (hr : if (decide ((i : Int) < ((List.length (ef A) : Nat) : Int))) = true then (LoopAt lp 2 (loopNo lf15 0).1 (loopNo lf15 0).2 (tl 0 28 [(0, (.p (.sl (ef A)))), (1, (.p (.sl (ef A)))), (5, (.p (.int .i64 (IntKind.wrap .i64 ((i : Int) + 1)))))]) [.spare 1 p, .spare 1 q] r) else (r = ((.exit 0), (tl 0 28 []), [.spare 1 p, .spare 1 q]))) :
    LoopAt lp 2 (loopNo lf15 0).1 (loopNo lf15 0).2 (tl 0 28 [(0, (.p (.sl (ef A)))), (1, (.p (.sl (ef A)))), (5, (.p (.int .i64 (i : Int))))]) [.spare 1 p, .spare 1 q] r := by
  by_cases k1 : (decide ((i : Int) < ((List.length (ef A) : Nat) : Int))) = true
  · replace hr := iteP hr k1
    exact sameR_y (A := A) (i := i) (p := p) (q := q) k1 (w1 k1) hr
  · replace hr := iteN hr k1
    replace k1 := Bool.eq_false_iff.2 k1
    subst hr; exact sameR_n (A := A) (i := i) (p := p) (q := q) k1

theorem same_fn {A : List (List UInt8)} {p q : Nat} (h1 : LoopAt lp 2 (loopNo lf15 0).1 (loopNo lf15 0).2 (tl 0 28 [(0, (.p (.sl (ef A)))), (1, (.p (.sl (ef A)))), (5, (.p (.int .i64 0)))]) [.spare 1 p, .spare 1 q] ((.exit 0), (tl 0 28 []), [.spare 1 p, .spare 1 q])) :
    Runs lp 15 [(.sl (ef A) 0 p), (.sl (ef A) 1 q)] [.spare 1 p, .spare 1 q] ((.p (.bool true)), [.spare 1 p, .spare 1 q]) :=
  runO_sound (N := 100) (os := [(6, .b false), (1, .lp (.exit 0) (tl 0 28 []) [.spare 1 p, .spare 1 q])])
    (ps := [(LV.p (PV.bool (((List.length (ef A) : Nat) : Int) != ((List.length (ef A) : Nat) : Int))) = .p (.bool false)), (LoopAt lp 2 (loopNo lf15 0).1 (loopNo lf15 0).2 (tl 0 28 [(0, (.p (.sl (ef A)))), (1, (.p (.sl (ef A)))), (5, (.p (.int .i64 0)))]) [.spare 1 p, .spare 1 q] ((.exit 0), (tl 0 28 []), [.spare 1 p, .spare 1 q]))])
    (by kernel_rfl) ⟨(congrArg (fun b => LV.p (PV.bool b)) (by simp)), h1, trivial⟩


theorem same_loop {A : List (List UInt8)} {p q : Nat} (hA : A.length ≤ 1000000) : ∀ (n i : Nat), n + i = A.length →
    LoopAt lp 2 (loopNo lf15 0).1 (loopNo lf15 0).2 (tl 0 28 [(0, .p (.sl (ef A))), (1, .p (.sl (ef A))), (5, .p (.int .i64 (i : Int)))]) [.spare 1 p, .spare 1 q] (.exit 0, tl 0 28 [], [.spare 1 p, .spare 1 q]) := by
  intro n
  induction n with
  | zero => intro i h; exact sameR_n (by rw [ef_len]; simp; omega)
  | succ n ih =>
    intro i h
    refine sameR_y (by rw [ef_len]; simp; omega) (by omega) ?_
    rw [wrap_i64 (by omega) (by omega)]
    exact ih (i + 1) (by omega)
theorem vSame {A : List (List UInt8)} {p q : Nat} (hA : A.length ≤ 1000000) : Runs lp 15 [.sl (ef A) 0 p, .sl (ef A) 1 q] [.spare 1 p, .spare 1 q] (.p (.bool true), [.spare 1 p, .spare 1 q]) :=
  same_fn (same_loop hA A.length 0 rfl)
theorem vSame0 : Runs lp 15 [.tight [], .tight []] [] (.p (.bool true), []) := ⟨50, by kernel_rfl⟩
theorem vScan_t : Runs lp 13 [.tight []] [] (.tup [.tight [], .p (.int .i64 0)], []) := ⟨200, by kernel_rfl⟩
theorem scanF_len : ∀ (n : Nat) (b : List UInt8), (scanF n b).1.length ≤ b.length
  | 0, b => by simp [scanF]
  | n + 1, b => by
    rw [scanF]
    split
    · rename_i h
      have h1 := nend_le h
      have h2 := scanF_len n (b.drop (nend b + 4))
      rw [List.length_drop] at h2
      simp; omega
    · simp

theorem fscan_y {b : List UInt8} (c1 : (decide (((List.length (bs b) : Nat) : Int) > 5000)) = true) :
    Runs lp 5 [(.p (.sl (bs b)))] [] ((.p (.bool true)), []) :=
  runO_sound (N := 100) (os := [(4, .b true), (0, .call (.p (.bool true)) [])])
    (ps := [(LV.p (PV.bool (decide (((List.length (bs b) : Nat) : Int) > 5000))) = .p (.bool true)), (Runs lp 7 [] [] ((.p (.bool true)), []))])
    (by kernel_rfl) ⟨(congrArg (fun b => LV.p (PV.bool b)) c1), lives_runs, trivial⟩

theorem fscan_ny {b : List UInt8} (c1 : (decide (((List.length (bs b) : Nat) : Int) > 5000)) = false) (h2 : List.length (α := UInt8) [] + List.length (α := UInt8) b ≤ 200000000000000) (h3 : b ≠ []) (h4 : List.length (α := UInt8) b ≤ 1000000) (c5 : (nok b) = true) (h6 : List.length (scan b).1 ≤ 1000000) :
    Runs lp 5 [(.p (.sl (bs b)))] [] ((.p (.bool (((scan b).2 : Int) == ((scan b).2 : Int)))), []) :=
  runO_sound (N := 100) (os := [(4, .b false), (2, .op (.sl (bs (([] : List UInt8) ++ b)) 0 (List.length (([] : List UInt8) ++ b))) [.spare 1 (List.length (([] : List UInt8) ++ b))]), (0, .call (.tup [(.sl (ef (scan b).1) 1 (List.length (ef (scan b).1))), (.p (.int .i64 ((scan b).2 : Int)))]) [.spare 1 (List.length (([] : List UInt8) ++ b)), .spare 1 (List.length (ef (scan b).1))]), (6, .call (.tup [(.sl (ef (scan b).1) 0 (List.length (ef (scan b).1))), (.p (.int .i64 ((scan b).2 : Int)))]) [.spare 1 (List.length (ef (scan b).1))]), (5, .call (.p (.bool true)) []), (6, .call (.p (.bool true)) [.spare 1 (List.length (ef (scan b).1)), .spare 1 (List.length (ef (scan b).1))])])
    (ps := [(LV.p (PV.bool (decide (((List.length (bs b) : Nat) : Int) > 5000))) = .p (.bool false)), (opStep noCall [] [] (.append false 1 1 (.const (.tight [])) (.const (.p (.sl (bs b))))) = some ((.sl (bs (([] : List UInt8) ++ b)) 0 (List.length (([] : List UInt8) ++ b))), [.spare 1 (List.length (([] : List UInt8) ++ b))])), (Runs lp 13 [(.sl (bs (([] : List UInt8) ++ b)) 0 (List.length (([] : List UInt8) ++ b)))] [.spare 1 (List.length (([] : List UInt8) ++ b))] ((.tup [(.sl (ef (scan b).1) 1 (List.length (ef (scan b).1))), (.p (.int .i64 ((scan b).2 : Int)))]), [.spare 1 (List.length (([] : List UInt8) ++ b)), .spare 1 (List.length (ef (scan b).1))])), (Runs lp 14 [(.p (.sl (bs b)))] [] ((.tup [(.sl (ef (scan b).1) 0 (List.length (ef (scan b).1))), (.p (.int .i64 ((scan b).2 : Int)))]), [.spare 1 (List.length (ef (scan b).1))])), (Runs lp 7 [] [] ((.p (.bool true)), [])), (Runs lp 15 [(.sl (ef (scan b).1) 0 (List.length (ef (scan b).1))), (.sl (ef (scan b).1) 1 (List.length (ef (scan b).1)))] [.spare 1 (List.length (ef (scan b).1)), .spare 1 (List.length (ef (scan b).1))] ((.p (.bool true)), [.spare 1 (List.length (ef (scan b).1)), .spare 1 (List.length (ef (scan b).1))]))])
    (by kernel_rfl) ⟨(congrArg (fun b => LV.p (PV.bool b)) c1), (opIs_appT rfl rfl rfl h3 h2), (vScanS (b := b) h4 c5), (rScan (b := b) h4 c5), lives_runs, (vSame (A := (scan b).1) h6), trivial⟩

theorem fscan_nn {b : List UInt8} (c1 : (decide (((List.length (bs b) : Nat) : Int) > 5000)) = false) (h2 : List.length (α := UInt8) [] + List.length (α := UInt8) b ≤ 200000000000000) (h3 : b ≠ []) (h4 : List.length (α := UInt8) b ≤ 1000000) (c5 : (nok b) = false) :
    Runs lp 5 [(.p (.sl (bs b)))] [] ((.p (.bool true)), []) :=
  runO_sound (N := 100) (os := [(4, .b false), (2, .op (.sl (bs (([] : List UInt8) ++ b)) 0 (List.length (([] : List UInt8) ++ b))) [.spare 1 (List.length (([] : List UInt8) ++ b))]), (0, .call (.tup [(.tight []), (.p (.int .i64 0))]) [.spare 1 (List.length (([] : List UInt8) ++ b))]), (6, .call (.tup [(.tight []), (.p (.int .i64 0))]) []), (5, .call (.p (.bool true)) []), (6, .call (.p (.bool true)) [])])
    (ps := [(LV.p (PV.bool (decide (((List.length (bs b) : Nat) : Int) > 5000))) = .p (.bool false)), (opStep noCall [] [] (.append false 1 1 (.const (.tight [])) (.const (.p (.sl (bs b))))) = some ((.sl (bs (([] : List UInt8) ++ b)) 0 (List.length (([] : List UInt8) ++ b))), [.spare 1 (List.length (([] : List UInt8) ++ b))])), (Runs lp 13 [(.sl (bs (([] : List UInt8) ++ b)) 0 (List.length (([] : List UInt8) ++ b)))] [.spare 1 (List.length (([] : List UInt8) ++ b))] ((.tup [(.tight []), (.p (.int .i64 0))]), [.spare 1 (List.length (([] : List UInt8) ++ b))])), (Runs lp 14 [(.p (.sl (bs b)))] [] ((.tup [(.tight []), (.p (.int .i64 0))]), [])), (Runs lp 7 [] [] ((.p (.bool true)), [])), (Runs lp 15 [(.tight []), (.tight [])] [] ((.p (.bool true)), []))])
    (by kernel_rfl) ⟨(congrArg (fun b => LV.p (PV.bool b)) c1), (opIs_appT rfl rfl rfl h3 h2), (vScanS0 (b := b) h4 c5), (rScan0 (b := b) h4 c5), lives_runs, vSame0, trivial⟩

theorem fscan {b : List UInt8} (w1 : (decide (((List.length (bs b) : Nat) : Int) > 5000)) = false → List.length (α := UInt8) [] + List.length (α := UInt8) b ≤ 200000000000000) (w2 : (decide (((List.length (bs b) : Nat) : Int) > 5000)) = false → b ≠ []) (w3 : (decide (((List.length (bs b) : Nat) : Int) > 5000)) = false → List.length (α := UInt8) b ≤ 1000000) (w4 : (decide (((List.length (bs b) : Nat) : Int) > 5000)) = false → (nok b) = true → List.length (scan b).1 ≤ 1000000) (w5 : (decide (((List.length (bs b) : Nat) : Int) > 5000)) = false → List.length (α := UInt8) [] + List.length (α := UInt8) b ≤ 200000000000000) (w6 : (decide (((List.length (bs b) : Nat) : Int) > 5000)) = false → b ≠ []) (w7 : (decide (((List.length (bs b) : Nat) : Int) > 5000)) = false → List.length (α := UInt8) b ≤ 1000000) :
    Runs lp 5 [(.p (.sl (bs b)))] [] (if (decide (((List.length (bs b) : Nat) : Int) > 5000)) = true then (((.p (.bool true)), [])) else (if (nok b) = true then (((.p (.bool (((scan b).2 : Int) == ((scan b).2 : Int)))), [])) else (((.p (.bool true)), [])))) := by
  by_cases k1 : (decide (((List.length (bs b) : Nat) : Int) > 5000)) = true
  · refine iteRP k1 ?_
    exact fscan_y (b := b) k1
  · refine iteRN k1 ?_
    replace k1 := Bool.eq_false_iff.2 k1
    by_cases k2 : (nok b) = true
    · refine iteRP k2 ?_
      exact fscan_ny (b := b) k1 (w1 k1) (w2 k1) (w3 k1) k2 (w4 k1 k2)
    · refine iteRN k2 ?_
      replace k2 := Bool.eq_false_iff.2 k2
      exact fscan_nn (b := b) k1 (w5 k1) (w6 k1) (w7 k1) k2

theorem fscan0  (h1 : List.length (α := UInt8) [] ≤ 1000000) (c2 : (nok []) = false) :
    Runs lp 5 [(.p (.sl []))] [] ((.p (.bool true)), []) :=
  runO_sound (N := 100) (os := [(8, .call (.tup [(.tight []), (.p (.int .i64 0))]) []), (6, .call (.tup [(.tight []), (.p (.int .i64 0))]) []), (5, .call (.p (.bool true)) []), (6, .call (.p (.bool true)) [])])
    (ps := [(Runs lp 13 [(.tight [])] [] ((.tup [(.tight []), (.p (.int .i64 0))]), [])), (Runs lp 14 [(.p (.sl []))] [] ((.tup [(.tight []), (.p (.int .i64 0))]), [])), (Runs lp 7 [] [] ((.p (.bool true)), [])), (Runs lp 15 [(.tight []), (.tight [])] [] ((.p (.bool true)), []))])
    (by kernel_rfl) ⟨vScan_t, (rScan0 (b := []) h1 c2), lives_runs, vSame0, trivial⟩

end Go.Proofs.Ythiilhepneddpaa
