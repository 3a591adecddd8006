import Derived.Test.YtmbjojnldbeicaaLsF
import Derived.Test.YtmbjojnldbeicaaLsG5
import Derived.Test.YtmbjojnldbeicaaLsG6
set_option linter.unusedVariables false
set_option maxRecDepth 100000
namespace Go.Proofs.Ytmbjojnldbeicaa
open Go Go.LS
theorem vIndexByte (s : List UInt8) (c : Int) : Runs lp 91 [.p (.str s), .p (.int .u8 c)] [] (.p (.int .i64 (Lib.indexByte s c.toNat.toUInt8)), []) := ⟨1, rfl⟩
theorem vIdxDot {s : List UInt8}  :
    Runs lp 90 [.p (.str s), .p (.str [46])] [] (if ([46] == s) = true then ((.p (.int .i64 0), [])) else ((.p (.int .i64 (Lib.indexByte s (Int.toNat 46).toUInt8)), []))) := by
  by_cases k1 : ([46] == s) = true
  · refine iteRP k1 ?_
    exact
      runO_sound (N := 100) (os := [(15, .b true)]) (ps := [_]) (by kernel_rfl) ⟨cI k1, trivial⟩
  · refine iteRN k1 ?_
    replace k1 := Bool.eq_false_iff.2 k1
    exact
      have q1 : Runs lp 91 [.p (.str s), .p (.int .u8 46)] [] (.p (.int .i64 (Lib.indexByte s (Int.toNat 46).toUInt8)), []) := (vIndexByte s 46)
      runO_sound (N := 100) (os := [(15, .b false), (7, oC q1)]) (ps := [_, _]) (by kernel_rfl) ⟨cI k1, q1, trivial⟩
theorem vIndexDot {s : List UInt8}  :
    Runs lp 89 [.p (.str s), .p (.str [46])] [] (if ([46] == s) = true then ((.p (.int .i64 0), [])) else ((.p (.int .i64 (Lib.indexByte s (Int.toNat 46).toUInt8)), []))) := by
  by_cases k1 : ([46] == s) = true
  · refine iteRP k1 ?_
    exact
      have q1 : Runs lp 90 [.p (.str s), .p (.str [46])] [] (.p (.int .i64 0), []) := (iteT (vIdxDot (s := s) ) k1)
      runO_sound (N := 100) (os := [(3, oC q1)]) (ps := [_]) (by kernel_rfl) ⟨q1, trivial⟩
  · refine iteRN k1 ?_
    replace k1 := Bool.eq_false_iff.2 k1
    exact
      have q1 : Runs lp 90 [.p (.str s), .p (.str [46])] [] (.p (.int .i64 (Lib.indexByte s (Int.toNat 46).toUInt8)), []) := (iteF (vIdxDot (s := s) ) k1)
      runO_sound (N := 100) (os := [(3, oC q1)]) (ps := [_]) (by kernel_rfl) ⟨q1, trivial⟩
theorem vHasDot {s : List UInt8}  :
    Runs lp 87 [.p (.str s), .p (.str [46])] [] (if ([46] == s) = true then ((.p (.bool true), [])) else ((.p (.bool (decide ((Lib.indexByte s (Int.toNat 46).toUInt8) ≥ 0))), []))) := by
  by_cases k1 : ([46] == s) = true
  · refine iteRP k1 ?_
    exact
      have q1 : Runs lp 89 [.p (.str s), .p (.str [46])] [] (.p (.int .i64 0), []) := (iteT (vIndexDot (s := s) ) k1)
      runO_sound (N := 100) (os := [(3, oC q1)]) (ps := [_]) (by kernel_rfl) ⟨q1, trivial⟩
  · refine iteRN k1 ?_
    replace k1 := Bool.eq_false_iff.2 k1
    exact
      have q1 : Runs lp 89 [.p (.str s), .p (.str [46])] [] (.p (.int .i64 (Lib.indexByte s (Int.toNat 46).toUInt8)), []) := (iteF (vIndexDot (s := s) ) k1)
      runO_sound (N := 100) (os := [(3, oC q1)]) (ps := [_]) (by kernel_rfl) ⟨q1, trivial⟩
theorem vPreD {s : List UInt8} (w1 : (decide (((List.length s : Nat) : Int) ≥ 1)) = true → 0 ≤ (1 : Int)) (w2 : (decide (((List.length s : Nat) : Int) ≥ 1)) = true → (1 : Int) ≤ (List.length (α := UInt8) s : Int)) :
    Runs lp 88 [.p (.str s), .p (.str [36])] [] (if (decide (((List.length s : Nat) : Int) ≥ 1)) = true then ((.p (.bool ((List.take (Int.toNat (1 : Int)) s) == [36])), [])) else ((.p (.bool false), []))) := by
  by_cases k1 : (decide (((List.length s : Nat) : Int) ≥ 1)) = true
  · refine iteRP k1 ?_
    exact
      have q1 : OpW [] (.sslice (.const (.p (.str s))) none (some (.const (.p (.int .i64 1)))) none) (.p (.str (List.take (Int.toNat (1 : Int)) s))) [] := (opIs_sliceStrT (w1 k1) (w2 k1))
      runO_sound (N := 100) (os := [(7, .b true), (1, .b true), (1, .b true), (1, .b true), (0, oO q1), (0, .b true), (1, .b true), (1, .b true)]) (ps := [_, _, _, _, _, _, _, _]) (by kernel_rfl) ⟨cI k1, cI k1, cI k1, cI k1, q1, cI k1, cI k1, cI k1, trivial⟩
  · refine iteRN k1 ?_
    replace k1 := Bool.eq_false_iff.2 k1
    exact
      runO_sound (N := 100) (os := [(7, .b false), (0, .b false), (0, .b false), (0, .b false), (0, .b false), (0, .b false), (0, .b false)]) (ps := [_, _, _, _, _, _, _]) (by kernel_rfl) ⟨cI k1, cI k1, cI k1, cI k1, cI k1, cI k1, cI k1, trivial⟩
theorem vHasD {s : List UInt8} (w1 : (decide (((List.length s : Nat) : Int) ≥ 1)) = true → 0 ≤ (1 : Int)) (w2 : (decide (((List.length s : Nat) : Int) ≥ 1)) = true → (1 : Int) ≤ (List.length (α := UInt8) s : Int)) :
    Runs lp 86 [.p (.str s), .p (.str [36])] [] (if (decide (((List.length s : Nat) : Int) ≥ 1)) = true then ((.p (.bool ((List.take (Int.toNat (1 : Int)) s) == [36])), [])) else ((.p (.bool false), []))) := by
  by_cases k1 : (decide (((List.length s : Nat) : Int) ≥ 1)) = true
  · refine iteRP k1 ?_
    exact
      have q1 : Runs lp 88 [.p (.str s), .p (.str [36])] [] (.p (.bool ((List.take (Int.toNat (1 : Int)) s) == [36])), []) := (iteT (vPreD (s := s) (fun _ => (w1 k1)) (fun _ => (w2 k1))) k1)
      runO_sound (N := 100) (os := [(3, oC q1)]) (ps := [_]) (by kernel_rfl) ⟨q1, trivial⟩
  · refine iteRN k1 ?_
    replace k1 := Bool.eq_false_iff.2 k1
    exact
      have q1 : Runs lp 88 [.p (.str s), .p (.str [36])] [] (.p (.bool false), []) := (iteF (vPreD (s := s) (fun z => by rw [k1] at z; cases z) (fun z => by rw [k1] at z; cases z)) k1)
      runO_sound (N := 100) (os := [(3, oC q1)]) (ps := [_]) (by kernel_rfl) ⟨q1, trivial⟩
theorem vName0 {s : List UInt8} (w1 : (decide (((List.length s : Nat) : Int) ≥ 1)) = true → (decide (((List.length s : Nat) : Int) ≤ 32)) = true → 0 ≤ (1 : Int)) (w2 : (decide (((List.length s : Nat) : Int) ≥ 1)) = true → (decide (((List.length s : Nat) : Int) ≤ 32)) = true → (1 : Int) ≤ (List.length (α := UInt8) s : Int)) :
    Runs lp 81 [.p (.str s)] [] (if (decide (((List.length s : Nat) : Int) ≥ 1)) = true then (if (decide (((List.length s : Nat) : Int) ≤ 32)) = true then (if ((List.take (Int.toNat (1 : Int)) s) == [36]) = true then ((.p (.bool false), [])) else (if ([46] == s) = true then ((.p (.bool false), [])) else ((.p (.bool (!(decide ((Lib.indexByte s (Int.toNat 46).toUInt8) ≥ 0)))), [])))) else ((.p (.bool false), []))) else ((.p (.bool false), []))) := by
  by_cases k1 : (decide (((List.length s : Nat) : Int) ≥ 1)) = true
  · refine iteRP k1 ?_
    by_cases k2 : (decide (((List.length s : Nat) : Int) ≤ 32)) = true
    · refine iteRP k2 ?_
      by_cases k3 : ((List.take (Int.toNat (1 : Int)) s) == [36]) = true
      · refine iteRP k3 ?_
        exact
          have q1 : Runs lp 86 [.p (.str s), .p (.str [36])] [] (.p (.bool ((List.take (Int.toNat (1 : Int)) s) == [36])), []) := (iteT (vHasD (s := s) (fun _ => (w1 k1 k2)) (fun _ => (w2 k1 k2))) k1)
          runO_sound (N := 100) (os := [(5, .b true), (1, .b true), (1, .b true), (1, .b true), (1, .b true), (1, .b true), (0, oC q1), (0, .b true), (1, .b true), (1, .b false), (0, .b false), (0, .b false), (0, .b false)]) (ps := [_, _, _, _, _, _, _, _, _, _, _, _, _]) (by kernel_rfl) ⟨cI k1, cI k1, cI k1, cI k1, cI k2, cI k2, q1, cI k2, cI k2, (cI (notI k3)), (cI (notI k3)), (cI (notI k3)), (cI (notI k3)), trivial⟩
      · refine iteRN k3 ?_
        replace k3 := Bool.eq_false_iff.2 k3
        by_cases k4 : ([46] == s) = true
        · refine iteRP k4 ?_
          exact
            have q1 : Runs lp 86 [.p (.str s), .p (.str [36])] [] (.p (.bool ((List.take (Int.toNat (1 : Int)) s) == [36])), []) := (iteT (vHasD (s := s) (fun _ => (w1 k1 k2)) (fun _ => (w2 k1 k2))) k1)
            have q2 : Runs lp 87 [.p (.str s), .p (.str [46])] [] (.p (.bool true), []) := (iteT (vHasDot (s := s) ) k4)
            runO_sound (N := 100) (os := [(5, .b true), (1, .b true), (1, .b true), (1, .b true), (1, .b true), (1, .b true), (0, oC q1), (0, .b true), (1, .b true), (1, .b true), (1, .b true), (0, oC q2), (0, .b true), (1, .b true)]) (ps := [_, _, _, _, _, _, _, _, _, _, _, _, _, _]) (by kernel_rfl) ⟨cI k1, cI k1, cI k1, cI k1, cI k2, cI k2, q1, cI k2, cI k2, (cI (notI k3)), (cI (notI k3)), q2, (cI (notI k3)), (cI (notI k3)), trivial⟩
        · refine iteRN k4 ?_
          replace k4 := Bool.eq_false_iff.2 k4
          exact
            have q1 : Runs lp 86 [.p (.str s), .p (.str [36])] [] (.p (.bool ((List.take (Int.toNat (1 : Int)) s) == [36])), []) := (iteT (vHasD (s := s) (fun _ => (w1 k1 k2)) (fun _ => (w2 k1 k2))) k1)
            have q2 : Runs lp 87 [.p (.str s), .p (.str [46])] [] (.p (.bool (decide ((Lib.indexByte s (Int.toNat 46).toUInt8) ≥ 0))), []) := (iteF (vHasDot (s := s) ) k4)
            runO_sound (N := 100) (os := [(5, .b true), (1, .b true), (1, .b true), (1, .b true), (1, .b true), (1, .b true), (0, oC q1), (0, .b true), (1, .b true), (1, .b true), (1, .b true), (0, oC q2), (0, .b true), (1, .b true)]) (ps := [_, _, _, _, _, _, _, _, _, _, _, _, _, _]) (by kernel_rfl) ⟨cI k1, cI k1, cI k1, cI k1, cI k2, cI k2, q1, cI k2, cI k2, (cI (notI k3)), (cI (notI k3)), q2, (cI (notI k3)), (cI (notI k3)), trivial⟩
    · refine iteRN k2 ?_
      replace k2 := Bool.eq_false_iff.2 k2
      exact
        runO_sound (N := 100) (os := [(5, .b true), (1, .b true), (1, .b true), (1, .b true), (1, .b false), (0, .b false), (0, .b false), (0, .b false)]) (ps := [_, _, _, _, _, _, _, _]) (by kernel_rfl) ⟨cI k1, cI k1, cI k1, cI k1, cI k2, cI k2, cI k2, cI k2, trivial⟩
  · refine iteRN k1 ?_
    replace k1 := Bool.eq_false_iff.2 k1
    exact
      runO_sound (N := 100) (os := [(5, .b false), (0, .b false), (0, .b false), (0, .b false)]) (ps := [_, _, _, _]) (by kernel_rfl) ⟨cI k1, cI k1, cI k1, cI k1, trivial⟩
theorem rNameR_yy {s : List UInt8} {i : Nat} (c1 : (decide ((i : Int) < ((List.length s : Nat) : Int))) = true) (h2 : (i : Nat) < List.length (α := UInt8) s) (c3 : (((List.getD (α := UInt8) s i 0).toNat : Int) == 46) = true) :
    LoopN lp 0 (loopNo lf68 0) (tl 0 27 [(0, .p (.str s)), (3, .p (.int .i64 (i : Int)))]) [] (.ret, (tl 0 27 [(2, .p (.bool false))]), []) :=
  have q1 : OpW [] (.index (.const (.p (.str s))) (.const (.p (.int .i64 (i : Int))))) (.p (.int .u8 ((List.getD (α := UInt8) s i 0).toNat : Int))) [] := (opIs_sidxD h2)
  LoopAt.out (N := 100) (os := [(4, .b true), (2, oO q1), (1, .b true)]) (ps := [_, _, _]) (by kernel_rfl) (by kernel_rfl) ⟨cI c1, q1, cI c3, trivial⟩
theorem rNameR_yn {s : List UInt8} {i : Nat} (c1 : (decide ((i : Int) < ((List.length s : Nat) : Int))) = true) (h2 : (i : Nat) < List.length (α := UInt8) s) (c3 : (((List.getD (α := UInt8) s i 0).toNat : Int) == 46) = false) {r : LOut × List LV × List LObj} (hr : LoopN lp 0 (loopNo lf68 0) (tl 0 27 [(0, .p (.str s)), (3, .p (.int .i64 (IntKind.wrap .i64 ((i : Int) + 1))))]) [] r) :
    LoopN lp 0 (loopNo lf68 0) (tl 0 27 [(0, .p (.str s)), (3, .p (.int .i64 (i : Int)))]) [] r :=
  have q1 : OpW [] (.index (.const (.p (.str s))) (.const (.p (.int .i64 (i : Int))))) (.p (.int .u8 ((List.getD (α := UInt8) s i 0).toNat : Int))) [] := (opIs_sidxD h2)
  LoopAt.on (N := 100) (os := [(4, .b true), (2, oO q1), (1, .b false)]) (ps := [_, _, _]) (by kernel_rfl) ⟨cI c1, q1, cI c3, trivial⟩ hr
theorem rNameR_n {s : List UInt8} {i : Nat} (c1 : (decide ((i : Int) < ((List.length s : Nat) : Int))) = false) :
    LoopN lp 0 (loopNo lf68 0) (tl 0 27 [(0, .p (.str s)), (3, .p (.int .i64 (i : Int)))]) [] (.exit 0, (tl 0 27 [(0, .p (.str s))]), []) :=
  LoopAt.out (N := 100) (os := [(4, .b false)]) (ps := [_]) (by kernel_rfl) (by kernel_rfl) ⟨cI c1, trivial⟩
theorem rName0_y {s : List UInt8} {hasDot : Bool} (c1 : (hasDot) = true) (h2 : LoopN lp 0 (loopNo lf68 0) (tl 0 27 [(0, .p (.str s)), (3, .p (.int .i64 0))]) [] (.ret, (tl 0 27 [(2, .p (.bool false))]), [])) :
    Runs lp 68 [.p (.str s)] [] (.p (.bool false), []) :=
  runO_sound (N := 100) (os := [(2, oL h2)]) (ps := [_]) (by kernel_rfl) ⟨h2, trivial⟩
theorem rName0_nyy {s : List UInt8} {hasDot : Bool} (c1 : (hasDot) = false) (h2 : LoopN lp 0 (loopNo lf68 0) (tl 0 27 [(0, .p (.str s)), (3, .p (.int .i64 0))]) [] (.exit 0, (tl 0 27 [(0, .p (.str s))]), [])) (c3 : (decide (((List.length s : Nat) : Int) ≥ 1)) = true) (c4 : (decide (((List.length s : Nat) : Int) ≤ 32)) = true) (h5 : (0 : Nat) < List.length (α := UInt8) s) :
    Runs lp 68 [.p (.str s)] [] (.p (.bool (((List.getD (α := UInt8) s 0 0).toNat : Int) != 36)), []) :=
  have q1 : OpW [] (.index (.const (.p (.str s))) (.const (.p (.int .i64 0)))) (.p (.int .u8 ((List.getD (α := UInt8) s 0 0).toNat : Int))) [] := (opIs_sidxD h5)
  runO_sound (N := 100) (os := [(2, oL h2), (4, .b true), (1, .b true), (1, .b true), (1, .b true), (1, .b true), (1, .b true), (0, oO q1), (0, .b true), (1, .b true)]) (ps := [_, _, _, _, _, _, _, _, _, _]) (by kernel_rfl) ⟨h2, cI c3, cI c3, cI c3, cI c3, cI c4, cI c4, q1, cI c4, cI c4, trivial⟩
theorem rName0_nyn {s : List UInt8} {hasDot : Bool} (c1 : (hasDot) = false) (h2 : LoopN lp 0 (loopNo lf68 0) (tl 0 27 [(0, .p (.str s)), (3, .p (.int .i64 0))]) [] (.exit 0, (tl 0 27 [(0, .p (.str s))]), [])) (c3 : (decide (((List.length s : Nat) : Int) ≥ 1)) = true) (c4 : (decide (((List.length s : Nat) : Int) ≤ 32)) = false) :
    Runs lp 68 [.p (.str s)] [] (.p (.bool false), []) :=
  runO_sound (N := 100) (os := [(2, oL h2), (4, .b true), (1, .b true), (1, .b true), (1, .b true), (1, .b false), (0, .b false), (0, .b false), (0, .b false)]) (ps := [_, _, _, _, _, _, _, _, _]) (by kernel_rfl) ⟨h2, cI c3, cI c3, cI c3, cI c3, cI c4, cI c4, cI c4, cI c4, trivial⟩
theorem rName0_nn {s : List UInt8} {hasDot : Bool} (c1 : (hasDot) = false) (h2 : LoopN lp 0 (loopNo lf68 0) (tl 0 27 [(0, .p (.str s)), (3, .p (.int .i64 0))]) [] (.exit 0, (tl 0 27 [(0, .p (.str s))]), [])) (c3 : (decide (((List.length s : Nat) : Int) ≥ 1)) = false) :
    Runs lp 68 [.p (.str s)] [] (.p (.bool false), []) :=
  runO_sound (N := 100) (os := [(2, oL h2), (4, .b false), (0, .b false), (0, .b false), (0, .b false)]) (ps := [_, _, _, _, _]) (by kernel_rfl) ⟨h2, cI c3, cI c3, cI c3, cI c3, trivial⟩
end Go.Proofs.Ytmbjojnldbeicaa
