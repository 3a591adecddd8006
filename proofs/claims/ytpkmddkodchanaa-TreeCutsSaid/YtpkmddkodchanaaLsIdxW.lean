import Derived.Test.YtpkmddkodchanaaLsPth
import Derived.Test.YtpkmddkodchanaaLsG6
set_option linter.unusedVariables false
set_option linter.unusedSimpArgs false
set_option maxRecDepth 100000
namespace Go.Proofs.Ytpkmddkodchanaa
open Go Go.LS
theorem pIxR_yyy {s : List UInt8} {i : Nat} {n : Int} (c1 : (decide (i < List.length (α := UInt8) s)) = true) (c2 : (decide ((List.getD (α := UInt8) s i 0).toNat < 128)) = true) (c3 : (decide (((List.getD (α := UInt8) s i 0).toNat : Int) < 48)) = true) :
    LoopN lp 0 (loopNo lf45 0) (tl 0 43 [(4, .p (.int .i64 n)), (26, .it 0)]) [.siter s i] (.ret, (tl 0 43 [(2, .p (.int .i64 0)), (3, .p (.bool false))]), [.siter s (i + 1)]) :=
  have q1 : OpW [.siter s i] (.next (.const (.it 0))) (.tup [.p (.bool true), .p (.int .i64 (i : Int)), .p (.int .i32 ((List.getD (α := UInt8) s i 0).toNat : Int))]) [.siter s (i + 1)] := (opIs_nextA rfl (of_decide_eq_true c1) (of_decide_eq_true c2))
  LoopAt.out (N := 100) (os := [(0, oO q1), (7, .b true), (0, .b true), (0, .b true)]) (ps := [_, _, _, _]) (by kernel_rfl) (by kernel_rfl) ⟨q1, cI c3, cI c3, cI c3, trivial⟩
theorem pIxR_yyny {s : List UInt8} {i : Nat} {n : Int} (c1 : (decide (i < List.length (α := UInt8) s)) = true) (c2 : (decide ((List.getD (α := UInt8) s i 0).toNat < 128)) = true) (c3 : (decide (((List.getD (α := UInt8) s i 0).toNat : Int) < 48)) = false) (c4 : (decide (((List.getD (α := UInt8) s i 0).toNat : Int) > 57)) = true) :
    LoopN lp 0 (loopNo lf45 0) (tl 0 43 [(4, .p (.int .i64 n)), (26, .it 0)]) [.siter s i] (.ret, (tl 0 43 [(2, .p (.int .i64 0)), (3, .p (.bool false))]), [.siter s (i + 1)]) :=
  have q1 : OpW [.siter s i] (.next (.const (.it 0))) (.tup [.p (.bool true), .p (.int .i64 (i : Int)), .p (.int .i32 ((List.getD (α := UInt8) s i 0).toNat : Int))]) [.siter s (i + 1)] := (opIs_nextA rfl (of_decide_eq_true c1) (of_decide_eq_true c2))
  LoopAt.out (N := 100) (os := [(0, oO q1), (7, .b false), (1, .b false), (1, .b false), (0, .b true)]) (ps := [_, _, _, _, _]) (by kernel_rfl) (by kernel_rfl) ⟨q1, cI c3, cI c3, cI c3, cI c4, trivial⟩
theorem pIxR_yynn {s : List UInt8} {i : Nat} {n : Int} (c1 : (decide (i < List.length (α := UInt8) s)) = true) (c2 : (decide ((List.getD (α := UInt8) s i 0).toNat < 128)) = true) (c3 : (decide (((List.getD (α := UInt8) s i 0).toNat : Int) < 48)) = false) (c4 : (decide (((List.getD (α := UInt8) s i 0).toNat : Int) > 57)) = false) {r : LOut × List LV × List LObj} (hr : LoopN lp 0 (loopNo lf45 0) (tl 0 43 [(4, .p (.int .i64 (IntKind.wrap .i64 ((IntKind.wrap .i64 (10 * n)) + (IntKind.wrap .i64 (IntKind.wrap .i32 (((List.getD (α := UInt8) s i 0).toNat : Int) - 48))))))), (26, .it 0)]) [.siter s (i + 1)] r) :
    LoopN lp 0 (loopNo lf45 0) (tl 0 43 [(4, .p (.int .i64 n)), (26, .it 0)]) [.siter s i] r :=
  have q1 : OpW [.siter s i] (.next (.const (.it 0))) (.tup [.p (.bool true), .p (.int .i64 (i : Int)), .p (.int .i32 ((List.getD (α := UInt8) s i 0).toNat : Int))]) [.siter s (i + 1)] := (opIs_nextA rfl (of_decide_eq_true c1) (of_decide_eq_true c2))
  LoopAt.on (N := 100) (os := [(0, oO q1), (7, .b false), (1, .b false), (1, .b false), (0, .b false)]) (ps := [_, _, _, _, _]) (by kernel_rfl) ⟨q1, cI c3, cI c3, cI c3, cI c4, trivial⟩ hr
theorem pIxR_ynny {s : List UInt8} {i : Nat} {n : Int} (c1 : (decide (i < List.length (α := UInt8) s)) = true) (c2 : (decide ((List.getD (α := UInt8) s i 0).toNat < 128)) = false) (c3 : (decide (((Utf8.decode ⟨s.toArray⟩ i).1 : Int) < 48)) = false) (c4 : (decide (((Utf8.decode ⟨s.toArray⟩ i).1 : Int) > 57)) = true) :
    LoopN lp 0 (loopNo lf45 0) (tl 0 43 [(4, .p (.int .i64 n)), (26, .it 0)]) [.siter s i] (.ret, (tl 0 43 [(2, .p (.int .i64 0)), (3, .p (.bool false))]), [.siter s (i + (Utf8.decode ⟨s.toArray⟩ i).2)]) :=
  have q1 : OpW [.siter s i] (.next (.const (.it 0))) (.tup [.p (.bool true), .p (.int .i64 (i : Int)), .p (.int .i32 ((Utf8.decode ⟨s.toArray⟩ i).1 : Int))]) [.siter s (i + (Utf8.decode ⟨s.toArray⟩ i).2)] := (opIs_nextH rfl (of_decide_eq_true c1))
  LoopAt.out (N := 100) (os := [(0, oO q1), (7, .b false), (1, .b false), (1, .b false), (0, .b true)]) (ps := [_, _, _, _, _]) (by kernel_rfl) (by kernel_rfl) ⟨q1, cI c3, cI c3, cI c3, cI c4, trivial⟩
theorem pIxR_n {s : List UInt8} {i : Nat} {n : Int} (c1 : (decide (i < List.length (α := UInt8) s)) = false) :
    LoopN lp 0 (loopNo lf45 0) (tl 0 43 [(4, .p (.int .i64 n)), (26, .it 0)]) [.siter s i] (.exit 0, (tl 0 43 [(4, .p (.int .i64 n))]), [.siter s i]) :=
  have q1 : OpW [.siter s i] (.next (.const (.it 0))) (.tup [.p (.bool false)]) [.siter s i] := (opIs_nextE rfl (of_decide_eq_false c1))
  LoopAt.out (N := 100) (os := [(0, oO q1)]) (ps := [_]) (by kernel_rfl) (by kernel_rfl) ⟨q1, trivial⟩
theorem rIxR_yy {s : List UInt8} {i : Nat} {n : Int} (c1 : (decide ((i : Int) < ((List.length s : Nat) : Int))) = true) (h2 : (i : Nat) < List.length (α := UInt8) s) (c3 : (decide (((List.getD (α := UInt8) s i 0).toNat : Int) < 48)) = true) :
    LoopN lp 0 (loopNo lf38 0) (tl 0 48 [(0, .p (.str s)), (3, .p (.int .i64 n)), (4, .p (.int .i64 (i : Int)))]) [] (.ret, (tl 0 48 [(2, .p (.int .i64 (-1)))]), []) :=
  have q1 : OpW [] (.index (.const (.p (.str s))) (.const (.p (.int .i64 (i : Int))))) (.p (.int .u8 ((List.getD (α := UInt8) s i 0).toNat : Int))) [] := (opIs_sidxD h2)
  LoopAt.out (N := 100) (os := [(4, .b true), (2, oO q1), (2, .b true), (0, .b true), (0, .b true), (0, .b true), (0, .b true)]) (ps := [_, _, _, _, _, _, _]) (by kernel_rfl) (by kernel_rfl) ⟨cI c1, q1, cI c3, cI c3, cI c3, cI c3, cI c3, trivial⟩
theorem rIxR_yny {s : List UInt8} {i : Nat} {n : Int} (c1 : (decide ((i : Int) < ((List.length s : Nat) : Int))) = true) (h2 : (i : Nat) < List.length (α := UInt8) s) (c3 : (decide (((List.getD (α := UInt8) s i 0).toNat : Int) < 48)) = false) (c4 : (decide (((List.getD (α := UInt8) s i 0).toNat : Int) > 57)) = true) :
    LoopN lp 0 (loopNo lf38 0) (tl 0 48 [(0, .p (.str s)), (3, .p (.int .i64 n)), (4, .p (.int .i64 (i : Int)))]) [] (.ret, (tl 0 48 [(2, .p (.int .i64 (-1)))]), []) :=
  have q1 : OpW [] (.index (.const (.p (.str s))) (.const (.p (.int .i64 (i : Int))))) (.p (.int .u8 ((List.getD (α := UInt8) s i 0).toNat : Int))) [] := (opIs_sidxD h2)
  have q2 : OpW [] (.index (.const (.p (.str s))) (.const (.p (.int .i64 (i : Int))))) (.p (.int .u8 ((List.getD (α := UInt8) s i 0).toNat : Int))) [] := (opIs_sidxD h2)
  LoopAt.out (N := 100) (os := [(4, .b true), (2, oO q1), (2, .b false), (1, .b false), (1, .b false), (0, oO q2), (0, .b false), (1, .b false), (0, .b true)]) (ps := [_, _, _, _, _, _, _, _, _]) (by kernel_rfl) (by kernel_rfl) ⟨cI c1, q1, cI c3, cI c3, cI c3, q2, cI c3, cI c3, cI c4, trivial⟩
theorem rIxR_ynn {s : List UInt8} {i : Nat} {n : Int} (c1 : (decide ((i : Int) < ((List.length s : Nat) : Int))) = true) (h2 : (i : Nat) < List.length (α := UInt8) s) (c3 : (decide (((List.getD (α := UInt8) s i 0).toNat : Int) < 48)) = false) (c4 : (decide (((List.getD (α := UInt8) s i 0).toNat : Int) > 57)) = false) {r : LOut × List LV × List LObj} (hr : LoopN lp 0 (loopNo lf38 0) (tl 0 48 [(0, .p (.str s)), (3, .p (.int .i64 (IntKind.wrap .i64 ((IntKind.wrap .i64 (10 * n)) + (IntKind.wrap .i64 (IntKind.wrap .u8 (((List.getD (α := UInt8) s i 0).toNat : Int) - 48))))))), (4, .p (.int .i64 (IntKind.wrap .i64 ((i : Int) + 1))))]) [] r) :
    LoopN lp 0 (loopNo lf38 0) (tl 0 48 [(0, .p (.str s)), (3, .p (.int .i64 n)), (4, .p (.int .i64 (i : Int)))]) [] r :=
  have q1 : OpW [] (.index (.const (.p (.str s))) (.const (.p (.int .i64 (i : Int))))) (.p (.int .u8 ((List.getD (α := UInt8) s i 0).toNat : Int))) [] := (opIs_sidxD h2)
  have q2 : OpW [] (.index (.const (.p (.str s))) (.const (.p (.int .i64 (i : Int))))) (.p (.int .u8 ((List.getD (α := UInt8) s i 0).toNat : Int))) [] := (opIs_sidxD h2)
  have q3 : OpW [] (.index (.const (.p (.str s))) (.const (.p (.int .i64 (i : Int))))) (.p (.int .u8 ((List.getD (α := UInt8) s i 0).toNat : Int))) [] := (opIs_sidxD h2)
  LoopAt.on (N := 100) (os := [(4, .b true), (2, oO q1), (2, .b false), (1, .b false), (1, .b false), (0, oO q2), (0, .b false), (1, .b false), (0, .b false), (4, oO q3)]) (ps := [_, _, _, _, _, _, _, _, _, _]) (by kernel_rfl) ⟨cI c1, q1, cI c3, cI c3, cI c3, q2, cI c3, cI c3, cI c4, q3, trivial⟩ hr
theorem rIxR_n {s : List UInt8} {i : Nat} {n : Int} (c1 : (decide ((i : Int) < ((List.length s : Nat) : Int))) = false) :
    LoopN lp 0 (loopNo lf38 0) (tl 0 48 [(0, .p (.str s)), (3, .p (.int .i64 n)), (4, .p (.int .i64 (i : Int)))]) [] (.exit 0, (tl 0 48 [(3, .p (.int .i64 n))]), []) :=
  LoopAt.out (N := 100) (os := [(4, .b false)]) (ps := [_]) (by kernel_rfl) (by kernel_rfl) ⟨cI c1, trivial⟩
theorem pIx0 {s : List UInt8} {i : Nat} {n : Int} {bb : Bool} (w1 : (decide (((List.length s : Nat) : Int) < 1)) = false → (decide (((List.length s : Nat) : Int) > 3)) = false → (decide (((List.length s : Nat) : Int) > 1)) = true → (0 : Nat) < List.length (α := UInt8) s) (w2 : (decide (((List.length s : Nat) : Int) < 1)) = false → (decide (((List.length s : Nat) : Int) > 3)) = false → (decide (((List.length s : Nat) : Int) > 1)) = true → (((List.getD (α := UInt8) s 0 0).toNat : Int) == 48) = false → (bb) = true → LoopN lp 0 (loopNo lf45 0) (tl 0 43 [(4, .p (.int .i64 0)), (26, .it 0)]) [.siter s 0] (.exit 0, (tl 0 43 [(4, .p (.int .i64 n))]), [.siter s i])) (w3 : (decide (((List.length s : Nat) : Int) < 1)) = false → (decide (((List.length s : Nat) : Int) > 3)) = false → (decide (((List.length s : Nat) : Int) > 1)) = true → (((List.getD (α := UInt8) s 0 0).toNat : Int) == 48) = false → (bb) = false → LoopN lp 0 (loopNo lf45 0) (tl 0 43 [(4, .p (.int .i64 0)), (26, .it 0)]) [.siter s 0] (.ret, (tl 0 43 [(2, .p (.int .i64 0)), (3, .p (.bool false))]), [.siter s i])) (w4 : (decide (((List.length s : Nat) : Int) < 1)) = false → (decide (((List.length s : Nat) : Int) > 3)) = false → (decide (((List.length s : Nat) : Int) > 1)) = false → (bb) = true → LoopN lp 0 (loopNo lf45 0) (tl 0 43 [(4, .p (.int .i64 0)), (26, .it 0)]) [.siter s 0] (.exit 0, (tl 0 43 [(4, .p (.int .i64 n))]), [.siter s i])) (w5 : (decide (((List.length s : Nat) : Int) < 1)) = false → (decide (((List.length s : Nat) : Int) > 3)) = false → (decide (((List.length s : Nat) : Int) > 1)) = false → (bb) = false → LoopN lp 0 (loopNo lf45 0) (tl 0 43 [(4, .p (.int .i64 0)), (26, .it 0)]) [.siter s 0] (.ret, (tl 0 43 [(2, .p (.int .i64 0)), (3, .p (.bool false))]), [.siter s i])) :
    Runs lp 45 [.p (.str s)] [] (if (decide (((List.length s : Nat) : Int) < 1)) = true then ((.tup [.p (.int .i64 0), .p (.bool false)], [])) else (if (decide (((List.length s : Nat) : Int) > 3)) = true then ((.tup [.p (.int .i64 0), .p (.bool false)], [])) else (if (decide (((List.length s : Nat) : Int) > 1)) = true then (if (((List.getD (α := UInt8) s 0 0).toNat : Int) == 48) = true then ((.tup [.p (.int .i64 0), .p (.bool false)], [])) else (if (bb) = true then ((.tup [.p (.int .i64 n), .p (.bool true)], [])) else ((.tup [.p (.int .i64 0), .p (.bool false)], [])))) else (if (bb) = true then ((.tup [.p (.int .i64 n), .p (.bool true)], [])) else ((.tup [.p (.int .i64 0), .p (.bool false)], [])))))) := by
  by_cases k1 : (decide (((List.length s : Nat) : Int) < 1)) = true
  · refine iteRP k1 ?_
    exact
      runO_sound (N := 100) (os := [(6, .b true), (0, .b true), (0, .b true), (0, .b true)]) (ps := [_, _, _, _]) (by kernel_rfl) ⟨cI k1, cI k1, cI k1, cI k1, trivial⟩
  · refine iteRN k1 ?_
    replace k1 := Bool.eq_false_iff.2 k1
    by_cases k2 : (decide (((List.length s : Nat) : Int) > 3)) = true
    · refine iteRP k2 ?_
      exact
        runO_sound (N := 100) (os := [(6, .b false), (1, .b false), (1, .b false), (1, .b false), (1, .b true), (0, .b true), (0, .b true), (0, .b true), (3, .b true), (0, .b true)]) (ps := [_, _, _, _, _, _, _, _, _, _]) (by kernel_rfl) ⟨cI k1, cI k1, cI k1, cI k1, cI k2, cI k2, cI k2, cI k2, cI k2, cI k2, trivial⟩
    · refine iteRN k2 ?_
      replace k2 := Bool.eq_false_iff.2 k2
      by_cases k3 : (decide (((List.length s : Nat) : Int) > 1)) = true
      · refine iteRP k3 ?_
        by_cases k4 : (((List.getD (α := UInt8) s 0 0).toNat : Int) == 48) = true
        · refine iteRP k4 ?_
          exact
            have q1 : OpW [] (.index (.const (.p (.str s))) (.const (.p (.int .i64 0)))) (.p (.int .u8 ((List.getD (α := UInt8) s 0 0).toNat : Int))) [] := (opIs_sidxD (w1 k1 k2 k3))
            runO_sound (N := 100) (os := [(6, .b false), (1, .b false), (1, .b false), (1, .b false), (1, .b false), (1, .b false), (1, .b false), (1, .b false), (1, .b true), (1, .b true), (0, oO q1), (0, .b true), (1, .b false), (0, .b true), (0, .b false), (0, .b true)]) (ps := [_, _, _, _, _, _, _, _, _, _, _, _, _, _, _, _]) (by kernel_rfl) ⟨cI k1, cI k1, cI k1, cI k1, cI k2, cI k2, cI k2, cI k2, cI k3, cI k3, q1, cI k3, cI k2, cI k3, cI k2, cI k4, trivial⟩
        · refine iteRN k4 ?_
          replace k4 := Bool.eq_false_iff.2 k4
          by_cases k5 : (bb) = true
          · refine iteRP k5 ?_
            exact
              have q1 : OpW [] (.index (.const (.p (.str s))) (.const (.p (.int .i64 0)))) (.p (.int .u8 ((List.getD (α := UInt8) s 0 0).toNat : Int))) [] := (opIs_sidxD (w1 k1 k2 k3))
              runO_sound (N := 100) (os := [(6, .b false), (1, .b false), (1, .b false), (1, .b false), (1, .b false), (1, .b false), (1, .b false), (1, .b false), (1, .b true), (1, .b true), (0, oO q1), (0, .b true), (1, .b false), (0, .b true), (0, .b false), (0, .b false), (3, oL (w2 k1 k2 k3 k4 k5))]) (ps := [_, _, _, _, _, _, _, _, _, _, _, _, _, _, _, _, _]) (by kernel_rfl) ⟨cI k1, cI k1, cI k1, cI k1, cI k2, cI k2, cI k2, cI k2, cI k3, cI k3, q1, cI k3, cI k2, cI k3, cI k2, cI k4, (w2 k1 k2 k3 k4 k5), trivial⟩
          · refine iteRN k5 ?_
            replace k5 := Bool.eq_false_iff.2 k5
            exact
              have q1 : OpW [] (.index (.const (.p (.str s))) (.const (.p (.int .i64 0)))) (.p (.int .u8 ((List.getD (α := UInt8) s 0 0).toNat : Int))) [] := (opIs_sidxD (w1 k1 k2 k3))
              runO_sound (N := 100) (os := [(6, .b false), (1, .b false), (1, .b false), (1, .b false), (1, .b false), (1, .b false), (1, .b false), (1, .b false), (1, .b true), (1, .b true), (0, oO q1), (0, .b true), (1, .b false), (0, .b true), (0, .b false), (0, .b false), (3, oL (w3 k1 k2 k3 k4 k5))]) (ps := [_, _, _, _, _, _, _, _, _, _, _, _, _, _, _, _, _]) (by kernel_rfl) ⟨cI k1, cI k1, cI k1, cI k1, cI k2, cI k2, cI k2, cI k2, cI k3, cI k3, q1, cI k3, cI k2, cI k3, cI k2, cI k4, (w3 k1 k2 k3 k4 k5), trivial⟩
      · refine iteRN k3 ?_
        replace k3 := Bool.eq_false_iff.2 k3
        by_cases k4 : (bb) = true
        · refine iteRP k4 ?_
          exact
            runO_sound (N := 100) (os := [(6, .b false), (1, .b false), (1, .b false), (1, .b false), (1, .b false), (1, .b false), (1, .b false), (1, .b false), (1, .b false), (0, .b false), (0, .b false), (0, .b false), (0, .b false), (0, .b false), (4, oL (w4 k1 k2 k3 k4))]) (ps := [_, _, _, _, _, _, _, _, _, _, _, _, _, _, _]) (by kernel_rfl) ⟨cI k1, cI k1, cI k1, cI k1, cI k2, cI k2, cI k2, cI k2, cI k3, cI k3, cI k3, cI k2, cI k3, cI k2, (w4 k1 k2 k3 k4), trivial⟩
        · refine iteRN k4 ?_
          replace k4 := Bool.eq_false_iff.2 k4
          exact
            runO_sound (N := 100) (os := [(6, .b false), (1, .b false), (1, .b false), (1, .b false), (1, .b false), (1, .b false), (1, .b false), (1, .b false), (1, .b false), (0, .b false), (0, .b false), (0, .b false), (0, .b false), (0, .b false), (4, oL (w5 k1 k2 k3 k4))]) (ps := [_, _, _, _, _, _, _, _, _, _, _, _, _, _, _]) (by kernel_rfl) ⟨cI k1, cI k1, cI k1, cI k1, cI k2, cI k2, cI k2, cI k2, cI k3, cI k3, cI k3, cI k2, cI k3, cI k2, (w5 k1 k2 k3 k4), trivial⟩
theorem rIx0 {s : List UInt8} {n : Int} {bb : Bool} (w1 : (decide (((List.length s : Nat) : Int) < 1)) = false → (decide (((List.length s : Nat) : Int) > 3)) = false → (0 : Nat) < List.length (α := UInt8) s) (w2 : (decide (((List.length s : Nat) : Int) < 1)) = false → (decide (((List.length s : Nat) : Int) > 3)) = false → (((List.getD (α := UInt8) s 0 0).toNat : Int) == 48) = true → (decide (((List.length s : Nat) : Int) > 1)) = false → (bb) = true → LoopN lp 0 (loopNo lf38 0) (tl 0 48 [(0, .p (.str s)), (3, .p (.int .i64 0)), (4, .p (.int .i64 0))]) [] (.exit 0, (tl 0 48 [(3, .p (.int .i64 n))]), [])) (w3 : (decide (((List.length s : Nat) : Int) < 1)) = false → (decide (((List.length s : Nat) : Int) > 3)) = false → (((List.getD (α := UInt8) s 0 0).toNat : Int) == 48) = true → (decide (((List.length s : Nat) : Int) > 1)) = false → (bb) = false → LoopN lp 0 (loopNo lf38 0) (tl 0 48 [(0, .p (.str s)), (3, .p (.int .i64 0)), (4, .p (.int .i64 0))]) [] (.ret, (tl 0 48 [(2, .p (.int .i64 (-1)))]), [])) (w4 : (decide (((List.length s : Nat) : Int) < 1)) = false → (decide (((List.length s : Nat) : Int) > 3)) = false → (((List.getD (α := UInt8) s 0 0).toNat : Int) == 48) = false → (bb) = true → LoopN lp 0 (loopNo lf38 0) (tl 0 48 [(0, .p (.str s)), (3, .p (.int .i64 0)), (4, .p (.int .i64 0))]) [] (.exit 0, (tl 0 48 [(3, .p (.int .i64 n))]), [])) (w5 : (decide (((List.length s : Nat) : Int) < 1)) = false → (decide (((List.length s : Nat) : Int) > 3)) = false → (((List.getD (α := UInt8) s 0 0).toNat : Int) == 48) = false → (bb) = false → LoopN lp 0 (loopNo lf38 0) (tl 0 48 [(0, .p (.str s)), (3, .p (.int .i64 0)), (4, .p (.int .i64 0))]) [] (.ret, (tl 0 48 [(2, .p (.int .i64 (-1)))]), [])) :
    Runs lp 38 [.p (.str s)] [] (if (decide (((List.length s : Nat) : Int) < 1)) = true then ((.p (.int .i64 (-1)), [])) else (if (decide (((List.length s : Nat) : Int) > 3)) = true then ((.p (.int .i64 (-1)), [])) else (if (((List.getD (α := UInt8) s 0 0).toNat : Int) == 48) = true then (if (decide (((List.length s : Nat) : Int) > 1)) = true then ((.p (.int .i64 (-1)), [])) else (if (bb) = true then ((.p (.int .i64 n), [])) else ((.p (.int .i64 (-1)), [])))) else (if (bb) = true then ((.p (.int .i64 n), [])) else ((.p (.int .i64 (-1)), [])))))) := by
  by_cases k1 : (decide (((List.length s : Nat) : Int) < 1)) = true
  · refine iteRP k1 ?_
    exact
      runO_sound (N := 100) (os := [(5, .b true), (0, .b true), (0, .b true), (0, .b true)]) (ps := [_, _, _, _]) (by kernel_rfl) ⟨cI k1, cI k1, cI k1, cI k1, trivial⟩
  · refine iteRN k1 ?_
    replace k1 := Bool.eq_false_iff.2 k1
    by_cases k2 : (decide (((List.length s : Nat) : Int) > 3)) = true
    · refine iteRP k2 ?_
      exact
        runO_sound (N := 100) (os := [(5, .b false), (1, .b false), (1, .b false), (1, .b false), (1, .b true), (0, .b true), (0, .b true), (0, .b true), (3, .b true), (0, .b true)]) (ps := [_, _, _, _, _, _, _, _, _, _]) (by kernel_rfl) ⟨cI k1, cI k1, cI k1, cI k1, cI k2, cI k2, cI k2, cI k2, cI k2, cI k2, trivial⟩
    · refine iteRN k2 ?_
      replace k2 := Bool.eq_false_iff.2 k2
      by_cases k3 : (((List.getD (α := UInt8) s 0 0).toNat : Int) == 48) = true
      · refine iteRP k3 ?_
        by_cases k4 : (decide (((List.length s : Nat) : Int) > 1)) = true
        · refine iteRP k4 ?_
          exact
            have q1 : OpW [] (.index (.const (.p (.str s))) (.const (.p (.int .i64 0)))) (.p (.int .u8 ((List.getD (α := UInt8) s 0 0).toNat : Int))) [] := (opIs_sidxD (w1 k1 k2))
            runO_sound (N := 100) (os := [(5, .b false), (1, .b false), (1, .b false), (1, .b false), (1, .b false), (1, .b false), (0, oO q1), (0, .b false), (1, .b false), (1, .b true), (1, .b true), (1, .b true), (1, .b false), (0, .b true), (0, .b false), (0, .b true)]) (ps := [_, _, _, _, _, _, _, _, _, _, _, _, _, _, _, _]) (by kernel_rfl) ⟨cI k1, cI k1, cI k1, cI k1, cI k2, cI k2, q1, cI k2, cI k2, cI k3, cI k3, cI k3, cI k2, cI k3, cI k2, cI k4, trivial⟩
        · refine iteRN k4 ?_
          replace k4 := Bool.eq_false_iff.2 k4
          by_cases k5 : (bb) = true
          · refine iteRP k5 ?_
            exact
              have q1 : OpW [] (.index (.const (.p (.str s))) (.const (.p (.int .i64 0)))) (.p (.int .u8 ((List.getD (α := UInt8) s 0 0).toNat : Int))) [] := (opIs_sidxD (w1 k1 k2))
              runO_sound (N := 100) (os := [(5, .b false), (1, .b false), (1, .b false), (1, .b false), (1, .b false), (1, .b false), (0, oO q1), (0, .b false), (1, .b false), (1, .b true), (1, .b true), (1, .b true), (1, .b false), (0, .b true), (0, .b false), (0, .b false), (2, oL (w2 k1 k2 k3 k4 k5))]) (ps := [_, _, _, _, _, _, _, _, _, _, _, _, _, _, _, _, _]) (by kernel_rfl) ⟨cI k1, cI k1, cI k1, cI k1, cI k2, cI k2, q1, cI k2, cI k2, cI k3, cI k3, cI k3, cI k2, cI k3, cI k2, cI k4, (w2 k1 k2 k3 k4 k5), trivial⟩
          · refine iteRN k5 ?_
            replace k5 := Bool.eq_false_iff.2 k5
            exact
              have q1 : OpW [] (.index (.const (.p (.str s))) (.const (.p (.int .i64 0)))) (.p (.int .u8 ((List.getD (α := UInt8) s 0 0).toNat : Int))) [] := (opIs_sidxD (w1 k1 k2))
              runO_sound (N := 100) (os := [(5, .b false), (1, .b false), (1, .b false), (1, .b false), (1, .b false), (1, .b false), (0, oO q1), (0, .b false), (1, .b false), (1, .b true), (1, .b true), (1, .b true), (1, .b false), (0, .b true), (0, .b false), (0, .b false), (2, oL (w3 k1 k2 k3 k4 k5))]) (ps := [_, _, _, _, _, _, _, _, _, _, _, _, _, _, _, _, _]) (by kernel_rfl) ⟨cI k1, cI k1, cI k1, cI k1, cI k2, cI k2, q1, cI k2, cI k2, cI k3, cI k3, cI k3, cI k2, cI k3, cI k2, cI k4, (w3 k1 k2 k3 k4 k5), trivial⟩
      · refine iteRN k3 ?_
        replace k3 := Bool.eq_false_iff.2 k3
        by_cases k4 : (bb) = true
        · refine iteRP k4 ?_
          exact
            have q1 : OpW [] (.index (.const (.p (.str s))) (.const (.p (.int .i64 0)))) (.p (.int .u8 ((List.getD (α := UInt8) s 0 0).toNat : Int))) [] := (opIs_sidxD (w1 k1 k2))
            runO_sound (N := 100) (os := [(5, .b false), (1, .b false), (1, .b false), (1, .b false), (1, .b false), (1, .b false), (0, oO q1), (0, .b false), (1, .b false), (1, .b false), (0, .b false), (0, .b false), (0, .b false), (0, .b false), (0, .b false), (3, oL (w4 k1 k2 k3 k4))]) (ps := [_, _, _, _, _, _, _, _, _, _, _, _, _, _, _, _]) (by kernel_rfl) ⟨cI k1, cI k1, cI k1, cI k1, cI k2, cI k2, q1, cI k2, cI k2, cI k3, cI k3, cI k3, cI k2, cI k3, cI k2, (w4 k1 k2 k3 k4), trivial⟩
        · refine iteRN k4 ?_
          replace k4 := Bool.eq_false_iff.2 k4
          exact
            have q1 : OpW [] (.index (.const (.p (.str s))) (.const (.p (.int .i64 0)))) (.p (.int .u8 ((List.getD (α := UInt8) s 0 0).toNat : Int))) [] := (opIs_sidxD (w1 k1 k2))
            runO_sound (N := 100) (os := [(5, .b false), (1, .b false), (1, .b false), (1, .b false), (1, .b false), (1, .b false), (0, oO q1), (0, .b false), (1, .b false), (1, .b false), (0, .b false), (0, .b false), (0, .b false), (0, .b false), (0, .b false), (3, oL (w5 k1 k2 k3 k4))]) (ps := [_, _, _, _, _, _, _, _, _, _, _, _, _, _, _, _]) (by kernel_rfl) ⟨cI k1, cI k1, cI k1, cI k1, cI k2, cI k2, q1, cI k2, cI k2, cI k3, cI k3, cI k3, cI k2, cI k3, cI k2, (w5 k1 k2 k3 k4), trivial⟩
end Go.Proofs.Ytpkmddkodchanaa
