/- Ways of the readers over what the groups come to: printed by rd3.py. -/
import Derived.Test.YthiilhepneddpaaLsRd2
set_option linter.unusedVariables false
set_option maxRecDepth 100000
namespace Go.Proofs.Ythiilhepneddpaa
open Go Go.LS

theorem take_b {L : List UInt8} {n : Nat} {r : Bool}  :
    Runs lp 35 [(.ptr 0 0 0), (.p (.int .i64 (n : Int))), (.p (.bool r))] [.row [[(.p (.sl (bs L))), (.p (.bool true))]]] ((.p (.bool false)), [.row [[(.p (.sl (bs L))), (.p (.bool true))]]]) :=
  runO_sound (N := 100) (os := [(2, .call (.p (.bool true)) [.row [[(.p (.sl (bs L))), (.p (.bool true))]]]), (10, .call (.tup []) [.row [[(.p (.sl (bs L))), (.p (.bool true))]]])])
    (ps := [(Runs lp 30 [(.ptr 0 0 0)] [.row [[(.p (.sl (bs L))), (.p (.bool true))]]] ((.p (.bool true)), [.row [[(.p (.sl (bs L))), (.p (.bool true))]]])), (Runs lp 37 [(.ptr 0 0 0)] [.row [[(.p (.sl (bs L))), (.p (.bool true))]]] ((.tup []), [.row [[(.p (.sl (bs L))), (.p (.bool true))]]]))])
    (by kernel_rfl) ⟨(vbad (L := L) (bad := true)), (vspoil (L := L) (bad := true)), trivial⟩

theorem take_o_y {L : List UInt8} {n : Nat} {r : Bool} (c1 : ((n : Int) == 0) = true) :
    Runs lp 35 [(.ptr 0 0 0), (.p (.int .i64 (n : Int))), (.p (.bool r))] [.row [[(.p (.sl (bs L))), (.p (.bool false))]]] ((.p (.bool false)), [.row [[(.p (.sl (bs L))), (.p (.bool true))]]]) :=
  runO_sound (N := 100) (os := [(2, .call (.p (.bool false)) [.row [[(.p (.sl (bs L))), (.p (.bool false))]]]), (7, .b true), (0, .b true), (0, .b true), (2, .call (.tup []) [.row [[(.p (.sl (bs L))), (.p (.bool true))]]])])
    (ps := [(Runs lp 30 [(.ptr 0 0 0)] [.row [[(.p (.sl (bs L))), (.p (.bool false))]]] ((.p (.bool false)), [.row [[(.p (.sl (bs L))), (.p (.bool false))]]])), (LV.p (PV.bool ((n : Int) == 0)) = .p (.bool true)), (LV.p (PV.bool ((n : Int) == 0)) = .p (.bool true)), (LV.p (PV.bool ((n : Int) == 0)) = .p (.bool true)), (Runs lp 37 [(.ptr 0 0 0)] [.row [[(.p (.sl (bs L))), (.p (.bool false))]]] ((.tup []), [.row [[(.p (.sl (bs L))), (.p (.bool true))]]]))])
    (by kernel_rfl) ⟨(vbad (L := L) (bad := false)), (congrArg (fun b => LV.p (PV.bool b)) c1), (congrArg (fun b => LV.p (PV.bool b)) c1), (congrArg (fun b => LV.p (PV.bool b)) c1), (vspoil (L := L) (bad := false)), trivial⟩

theorem take_o_ny {L : List UInt8} {n : Nat} {r : Bool} (c1 : ((n : Int) == 0) = false) (c2 : (!r) = true) :
    Runs lp 35 [(.ptr 0 0 0), (.p (.int .i64 (n : Int))), (.p (.bool r))] [.row [[(.p (.sl (bs L))), (.p (.bool false))]]] ((.p (.bool false)), [.row [[(.p (.sl (bs L))), (.p (.bool true))]]]) :=
  runO_sound (N := 100) (os := [(2, .call (.p (.bool false)) [.row [[(.p (.sl (bs L))), (.p (.bool false))]]]), (7, .b false), (1, .b false), (1, .b false), (0, .b true), (1, .call (.tup []) [.row [[(.p (.sl (bs L))), (.p (.bool true))]]])])
    (ps := [(Runs lp 30 [(.ptr 0 0 0)] [.row [[(.p (.sl (bs L))), (.p (.bool false))]]] ((.p (.bool false)), [.row [[(.p (.sl (bs L))), (.p (.bool false))]]])), (LV.p (PV.bool ((n : Int) == 0)) = .p (.bool false)), (LV.p (PV.bool ((n : Int) == 0)) = .p (.bool false)), (LV.p (PV.bool ((n : Int) == 0)) = .p (.bool false)), (LV.p (PV.bool !r) = .p (.bool true)), (Runs lp 37 [(.ptr 0 0 0)] [.row [[(.p (.sl (bs L))), (.p (.bool false))]]] ((.tup []), [.row [[(.p (.sl (bs L))), (.p (.bool true))]]]))])
    (by kernel_rfl) ⟨(vbad (L := L) (bad := false)), (congrArg (fun b => LV.p (PV.bool b)) c1), (congrArg (fun b => LV.p (PV.bool b)) c1), (congrArg (fun b => LV.p (PV.bool b)) c1), (congrArg (fun b => LV.p (PV.bool b)) c2), (vspoil (L := L) (bad := false)), trivial⟩

theorem take_o_nn {L : List UInt8} {n : Nat} {r : Bool} (c1 : ((n : Int) == 0) = false) (c2 : (!r) = false) (h3 : 0 ≤ (n : Int)) (h4 : (n : Int) ≤ (List.length (α := UInt8) L : Int)) :
    Runs lp 35 [(.ptr 0 0 0), (.p (.int .i64 (n : Int))), (.p (.bool r))] [.row [[(.p (.sl (bs L))), (.p (.bool false))]]] ((.p (.bool true)), [.row [[(.p (.sl (bs (List.drop (Int.toNat (n : Int)) L)))), (.p (.bool false))]]]) :=
  runO_sound (N := 100) (os := [(2, .call (.p (.bool false)) [.row [[(.p (.sl (bs L))), (.p (.bool false))]]]), (7, .b false), (1, .b false), (1, .b false), (0, .b false), (6, .op (.p (.sl (bs (List.drop (Int.toNat (n : Int)) L)))) [.row [[(.p (.sl (bs L))), (.p (.bool false))]]])])
    (ps := [(Runs lp 30 [(.ptr 0 0 0)] [.row [[(.p (.sl (bs L))), (.p (.bool false))]]] ((.p (.bool false)), [.row [[(.p (.sl (bs L))), (.p (.bool false))]]])), (LV.p (PV.bool ((n : Int) == 0)) = .p (.bool false)), (LV.p (PV.bool ((n : Int) == 0)) = .p (.bool false)), (LV.p (PV.bool ((n : Int) == 0)) = .p (.bool false)), (LV.p (PV.bool !r) = .p (.bool false)), (opStep noCall [] [.row [[(.p (.sl (bs L))), (.p (.bool false))]]] (.slice 1 (.const (.p (.sl (bs L)))) (some (.const (.p (.int .i64 (n : Int))))) none none) = some ((.p (.sl (bs (List.drop (Int.toNat (n : Int)) L)))), [.row [[(.p (.sl (bs L))), (.p (.bool false))]]]))])
    (by kernel_rfl) ⟨(vbad (L := L) (bad := false)), (congrArg (fun b => LV.p (PV.bool b)) c1), (congrArg (fun b => LV.p (PV.bool b)) c1), (congrArg (fun b => LV.p (PV.bool b)) c1), (congrArg (fun b => LV.p (PV.bool b)) c2), (opIs_slicePD h3 h4), trivial⟩

theorem take_o {L : List UInt8} {n : Nat} {r : Bool} (w1 : ((n : Int) == 0) = false → (!r) = false → 0 ≤ (n : Int)) (w2 : ((n : Int) == 0) = false → (!r) = false → (n : Int) ≤ (List.length (α := UInt8) L : Int)) :
    Runs lp 35 [(.ptr 0 0 0), (.p (.int .i64 (n : Int))), (.p (.bool r))] [.row [[(.p (.sl (bs L))), (.p (.bool false))]]] (if ((n : Int) == 0) = true then (((.p (.bool false)), [.row [[(.p (.sl (bs L))), (.p (.bool true))]]])) else (if (!r) = true then (((.p (.bool false)), [.row [[(.p (.sl (bs L))), (.p (.bool true))]]])) else (((.p (.bool true)), [.row [[(.p (.sl (bs (List.drop (Int.toNat (n : Int)) L)))), (.p (.bool false))]]])))) := by
  by_cases k1 : ((n : Int) == 0) = true
  · refine iteRP k1 ?_
    exact take_o_y (L := L) (n := n) (r := r) k1
  · refine iteRN k1 ?_
    replace k1 := Bool.eq_false_iff.2 k1
    by_cases k2 : (!r) = true
    · refine iteRP k2 ?_
      exact take_o_ny (L := L) (n := n) (r := r) k1 k2
    · refine iteRN k2 ?_
      replace k2 := Bool.eq_false_iff.2 k2
      exact take_o_nn (L := L) (n := n) (r := r) k1 k2 (w1 k1 k2) (w2 k1 k2)


theorem vtake_y {L : List UInt8} (n : Nat) (r : Bool) : Runs lp 35 [.ptr 0 0 0, .p (.int .i64 n), .p (.bool r)] (stL L true) (.p (.bool false), stL L true) := take_b
theorem vtake_z {L : List UInt8} (r : Bool) {n : Nat} (h : (decide (n = 0)) = true) : Runs lp 35 [.ptr 0 0 0, .p (.int .i64 n), .p (.bool r)] (stL L false) (.p (.bool false), stL L true) := take_o_y (by simpa using h)
theorem vtake_w {L : List UInt8} {r : Bool} (n : Nat) (h : r = false) : Runs lp 35 [.ptr 0 0 0, .p (.int .i64 n), .p (.bool r)] (stL L false) (.p (.bool false), stL L true) := by
  subst h
  by_cases h : n = 0
  · exact take_o_y (by simp [h])
  · exact take_o_ny (by simp [h]) rfl
theorem vtake_o {L : List UInt8} {r : Bool} {n : Nat} (h : (decide (n = 0)) = false) (hr : r = true) (hn : n ≤ L.length) : Runs lp 35 [.ptr 0 0 0, .p (.int .i64 n), .p (.bool r)] (stL L false) (.p (.bool true), stL (L.drop n) false) := by
  subst hr
  have := take_o_nn (L := L) (n := n) (r := true) (by simpa using h) rfl (by omega) (by omega)
  simpa using this

theorem vcount_b {L : List UInt8} {most : Int}  :
    Runs lp 28 [(.ptr 0 0 0), (.p (.int .i64 most))] [.row [[(.p (.sl (bs L))), (.p (.bool true))]]] ((.p (.int .i64 0)), [.row [[(.p (.sl (bs L))), (.p (.bool true))]]]) :=
  runO_sound (N := 100) (os := [(2, .call (.tup [(.p (.int .u64 0)), (.p (.int .i64 0))]) [.row [[(.p (.sl (bs L))), (.p (.bool true))]]]), (19, .call (.p (.bool false)) [.row [[(.p (.sl (bs L))), (.p (.bool true))]]])])
    (ps := [(Runs lp 34 [(.ptr 0 0 0)] [.row [[(.p (.sl (bs L))), (.p (.bool true))]]] ((.tup [(.p (.int .u64 0)), (.p (.int .i64 0))]), [.row [[(.p (.sl (bs L))), (.p (.bool true))]]])), (Runs lp 35 [(.ptr 0 0 0), (.p (.int .i64 0)), (.p (.bool (decide ((0 : Int) ≤ most))))] [.row [[(.p (.sl (bs L))), (.p (.bool true))]]] ((.p (.bool false)), [.row [[(.p (.sl (bs L))), (.p (.bool true))]]]))])
    (by kernel_rfl) ⟨(vgroups_y L), (vtake_y (L := L) 0 (decide ((0 : Int) ≤ most))), trivial⟩

theorem rcount_b {L : List UInt8} {most : Int}  :
    Runs lp 33 [(.ptr 0 0 0), (.p (.int .i64 most))] [.row [[(.p (.sl (bs L))), (.p (.bool true))]]] ((.p (.int .i64 0)), [.row [[(.p (.sl (bs L))), (.p (.bool true))]]]) :=
  runO_sound (N := 100) (os := [])
    (ps := [])
    (by kernel_rfl) trivial

theorem vcount_o_yy {L : List UInt8} {most : Int} (c1 : (decide ((gnum L : Int) ≤ 4611686018427387904)) = true) (c2 : (decide (glen L = 0)) = true) :
    Runs lp 28 [(.ptr 0 0 0), (.p (.int .i64 most))] [.row [[(.p (.sl (bs L))), (.p (.bool false))]]] ((.p (.int .i64 0)), [.row [[(.p (.sl (bs L))), (.p (.bool true))]]]) :=
  runO_sound (N := 100) (os := [(2, .call (.tup [(.p (.int .u64 (gnum L : Int))), (.p (.int .i64 (glen L : Int)))]) [.row [[(.p (.sl (bs L))), (.p (.bool false))]]]), (10, .b true), (1, .b true), (1, .b true), (1, .b true), (1, .b true), (0, .call (.p (.bool false)) [.row [[(.p (.sl (bs L))), (.p (.bool true))]]])])
    (ps := [(Runs lp 34 [(.ptr 0 0 0)] [.row [[(.p (.sl (bs L))), (.p (.bool false))]]] ((.tup [(.p (.int .u64 (gnum L : Int))), (.p (.int .i64 (glen L : Int)))]), [.row [[(.p (.sl (bs L))), (.p (.bool false))]]])), (LV.p (PV.bool (decide ((gnum L : Int) ≤ 4611686018427387904))) = .p (.bool true)), (LV.p (PV.bool (decide ((gnum L : Int) ≤ 4611686018427387904))) = .p (.bool true)), (LV.p (PV.bool (decide ((gnum L : Int) ≤ 4611686018427387904))) = .p (.bool true)), (LV.p (PV.bool (decide ((gnum L : Int) ≤ 4611686018427387904))) = .p (.bool true)), (LV.p (PV.bool (decide ((gnum L : Int) ≤ 4611686018427387904))) = .p (.bool true)), (Runs lp 35 [(.ptr 0 0 0), (.p (.int .i64 (glen L : Int))), (.p (.bool (decide ((IntKind.wrap .i64 (gnum L : Int)) ≤ most))))] [.row [[(.p (.sl (bs L))), (.p (.bool false))]]] ((.p (.bool false)), [.row [[(.p (.sl (bs L))), (.p (.bool true))]]]))])
    (by kernel_rfl) ⟨(vgroups_n L), (congrArg (fun b => LV.p (PV.bool b)) c1), (congrArg (fun b => LV.p (PV.bool b)) c1), (congrArg (fun b => LV.p (PV.bool b)) c1), (congrArg (fun b => LV.p (PV.bool b)) c1), (congrArg (fun b => LV.p (PV.bool b)) c1), (vtake_z (L := L) (decide ((IntKind.wrap .i64 (gnum L : Int)) ≤ most)) c2), trivial⟩

theorem vcount_o_yny {L : List UInt8} {most : Int} (c1 : (decide ((gnum L : Int) ≤ 4611686018427387904)) = true) (c2 : (decide (glen L = 0)) = false) (c3 : (decide ((IntKind.wrap .i64 (gnum L : Int)) ≤ most)) = true) (h4 : glen L ≤ List.length (α := UInt8) L) :
    Runs lp 28 [(.ptr 0 0 0), (.p (.int .i64 most))] [.row [[(.p (.sl (bs L))), (.p (.bool false))]]] ((.p (.int .i64 (IntKind.wrap .i64 (gnum L : Int)))), [.row [[(.p (.sl (bs (List.drop (glen L) L)))), (.p (.bool false))]]]) :=
  runO_sound (N := 100) (os := [(2, .call (.tup [(.p (.int .u64 (gnum L : Int))), (.p (.int .i64 (glen L : Int)))]) [.row [[(.p (.sl (bs L))), (.p (.bool false))]]]), (10, .b true), (1, .b true), (1, .b true), (1, .b true), (1, .b true), (0, .call (.p (.bool true)) [.row [[(.p (.sl (bs (List.drop (glen L) L)))), (.p (.bool false))]]])])
    (ps := [(Runs lp 34 [(.ptr 0 0 0)] [.row [[(.p (.sl (bs L))), (.p (.bool false))]]] ((.tup [(.p (.int .u64 (gnum L : Int))), (.p (.int .i64 (glen L : Int)))]), [.row [[(.p (.sl (bs L))), (.p (.bool false))]]])), (LV.p (PV.bool (decide ((gnum L : Int) ≤ 4611686018427387904))) = .p (.bool true)), (LV.p (PV.bool (decide ((gnum L : Int) ≤ 4611686018427387904))) = .p (.bool true)), (LV.p (PV.bool (decide ((gnum L : Int) ≤ 4611686018427387904))) = .p (.bool true)), (LV.p (PV.bool (decide ((gnum L : Int) ≤ 4611686018427387904))) = .p (.bool true)), (LV.p (PV.bool (decide ((gnum L : Int) ≤ 4611686018427387904))) = .p (.bool true)), (Runs lp 35 [(.ptr 0 0 0), (.p (.int .i64 (glen L : Int))), (.p (.bool (decide ((IntKind.wrap .i64 (gnum L : Int)) ≤ most))))] [.row [[(.p (.sl (bs L))), (.p (.bool false))]]] ((.p (.bool true)), [.row [[(.p (.sl (bs (List.drop (glen L) L)))), (.p (.bool false))]]]))])
    (by kernel_rfl) ⟨(vgroups_n L), (congrArg (fun b => LV.p (PV.bool b)) c1), (congrArg (fun b => LV.p (PV.bool b)) c1), (congrArg (fun b => LV.p (PV.bool b)) c1), (congrArg (fun b => LV.p (PV.bool b)) c1), (congrArg (fun b => LV.p (PV.bool b)) c1), (vtake_o (L := L) c2 c3 h4), trivial⟩

theorem vcount_o_ynn {L : List UInt8} {most : Int} (c1 : (decide ((gnum L : Int) ≤ 4611686018427387904)) = true) (c2 : (decide (glen L = 0)) = false) (c3 : (decide ((IntKind.wrap .i64 (gnum L : Int)) ≤ most)) = false) :
    Runs lp 28 [(.ptr 0 0 0), (.p (.int .i64 most))] [.row [[(.p (.sl (bs L))), (.p (.bool false))]]] ((.p (.int .i64 0)), [.row [[(.p (.sl (bs L))), (.p (.bool true))]]]) :=
  runO_sound (N := 100) (os := [(2, .call (.tup [(.p (.int .u64 (gnum L : Int))), (.p (.int .i64 (glen L : Int)))]) [.row [[(.p (.sl (bs L))), (.p (.bool false))]]]), (10, .b true), (1, .b true), (1, .b true), (1, .b true), (1, .b true), (0, .call (.p (.bool false)) [.row [[(.p (.sl (bs L))), (.p (.bool true))]]])])
    (ps := [(Runs lp 34 [(.ptr 0 0 0)] [.row [[(.p (.sl (bs L))), (.p (.bool false))]]] ((.tup [(.p (.int .u64 (gnum L : Int))), (.p (.int .i64 (glen L : Int)))]), [.row [[(.p (.sl (bs L))), (.p (.bool false))]]])), (LV.p (PV.bool (decide ((gnum L : Int) ≤ 4611686018427387904))) = .p (.bool true)), (LV.p (PV.bool (decide ((gnum L : Int) ≤ 4611686018427387904))) = .p (.bool true)), (LV.p (PV.bool (decide ((gnum L : Int) ≤ 4611686018427387904))) = .p (.bool true)), (LV.p (PV.bool (decide ((gnum L : Int) ≤ 4611686018427387904))) = .p (.bool true)), (LV.p (PV.bool (decide ((gnum L : Int) ≤ 4611686018427387904))) = .p (.bool true)), (Runs lp 35 [(.ptr 0 0 0), (.p (.int .i64 (glen L : Int))), (.p (.bool (decide ((IntKind.wrap .i64 (gnum L : Int)) ≤ most))))] [.row [[(.p (.sl (bs L))), (.p (.bool false))]]] ((.p (.bool false)), [.row [[(.p (.sl (bs L))), (.p (.bool true))]]]))])
    (by kernel_rfl) ⟨(vgroups_n L), (congrArg (fun b => LV.p (PV.bool b)) c1), (congrArg (fun b => LV.p (PV.bool b)) c1), (congrArg (fun b => LV.p (PV.bool b)) c1), (congrArg (fun b => LV.p (PV.bool b)) c1), (congrArg (fun b => LV.p (PV.bool b)) c1), (vtake_w (L := L) (glen L) c3), trivial⟩

theorem vcount_o_ny {L : List UInt8} {most : Int} (c1 : (decide ((gnum L : Int) ≤ 4611686018427387904)) = false) (c2 : (decide (glen L = 0)) = true) :
    Runs lp 28 [(.ptr 0 0 0), (.p (.int .i64 most))] [.row [[(.p (.sl (bs L))), (.p (.bool false))]]] ((.p (.int .i64 0)), [.row [[(.p (.sl (bs L))), (.p (.bool true))]]]) :=
  runO_sound (N := 100) (os := [(2, .call (.tup [(.p (.int .u64 (gnum L : Int))), (.p (.int .i64 (glen L : Int)))]) [.row [[(.p (.sl (bs L))), (.p (.bool false))]]]), (10, .b false), (0, .b false), (0, .b false), (0, .b false), (0, .b false), (0, .call (.p (.bool false)) [.row [[(.p (.sl (bs L))), (.p (.bool true))]]])])
    (ps := [(Runs lp 34 [(.ptr 0 0 0)] [.row [[(.p (.sl (bs L))), (.p (.bool false))]]] ((.tup [(.p (.int .u64 (gnum L : Int))), (.p (.int .i64 (glen L : Int)))]), [.row [[(.p (.sl (bs L))), (.p (.bool false))]]])), (LV.p (PV.bool (decide ((gnum L : Int) ≤ 4611686018427387904))) = .p (.bool false)), (LV.p (PV.bool (decide ((gnum L : Int) ≤ 4611686018427387904))) = .p (.bool false)), (LV.p (PV.bool (decide ((gnum L : Int) ≤ 4611686018427387904))) = .p (.bool false)), (LV.p (PV.bool (decide ((gnum L : Int) ≤ 4611686018427387904))) = .p (.bool false)), (LV.p (PV.bool (decide ((gnum L : Int) ≤ 4611686018427387904))) = .p (.bool false)), (Runs lp 35 [(.ptr 0 0 0), (.p (.int .i64 (glen L : Int))), (.p (.bool false))] [.row [[(.p (.sl (bs L))), (.p (.bool false))]]] ((.p (.bool false)), [.row [[(.p (.sl (bs L))), (.p (.bool true))]]]))])
    (by kernel_rfl) ⟨(vgroups_n L), (congrArg (fun b => LV.p (PV.bool b)) c1), (congrArg (fun b => LV.p (PV.bool b)) c1), (congrArg (fun b => LV.p (PV.bool b)) c1), (congrArg (fun b => LV.p (PV.bool b)) c1), (congrArg (fun b => LV.p (PV.bool b)) c1), (vtake_z (L := L) false c2), trivial⟩

theorem vcount_o_nn {L : List UInt8} {most : Int} (c1 : (decide ((gnum L : Int) ≤ 4611686018427387904)) = false) (c2 : (decide (glen L = 0)) = false) :
    Runs lp 28 [(.ptr 0 0 0), (.p (.int .i64 most))] [.row [[(.p (.sl (bs L))), (.p (.bool false))]]] ((.p (.int .i64 0)), [.row [[(.p (.sl (bs L))), (.p (.bool true))]]]) :=
  runO_sound (N := 100) (os := [(2, .call (.tup [(.p (.int .u64 (gnum L : Int))), (.p (.int .i64 (glen L : Int)))]) [.row [[(.p (.sl (bs L))), (.p (.bool false))]]]), (10, .b false), (0, .b false), (0, .b false), (0, .b false), (0, .b false), (0, .call (.p (.bool false)) [.row [[(.p (.sl (bs L))), (.p (.bool true))]]])])
    (ps := [(Runs lp 34 [(.ptr 0 0 0)] [.row [[(.p (.sl (bs L))), (.p (.bool false))]]] ((.tup [(.p (.int .u64 (gnum L : Int))), (.p (.int .i64 (glen L : Int)))]), [.row [[(.p (.sl (bs L))), (.p (.bool false))]]])), (LV.p (PV.bool (decide ((gnum L : Int) ≤ 4611686018427387904))) = .p (.bool false)), (LV.p (PV.bool (decide ((gnum L : Int) ≤ 4611686018427387904))) = .p (.bool false)), (LV.p (PV.bool (decide ((gnum L : Int) ≤ 4611686018427387904))) = .p (.bool false)), (LV.p (PV.bool (decide ((gnum L : Int) ≤ 4611686018427387904))) = .p (.bool false)), (LV.p (PV.bool (decide ((gnum L : Int) ≤ 4611686018427387904))) = .p (.bool false)), (Runs lp 35 [(.ptr 0 0 0), (.p (.int .i64 (glen L : Int))), (.p (.bool false))] [.row [[(.p (.sl (bs L))), (.p (.bool false))]]] ((.p (.bool false)), [.row [[(.p (.sl (bs L))), (.p (.bool true))]]]))])
    (by kernel_rfl) ⟨(vgroups_n L), (congrArg (fun b => LV.p (PV.bool b)) c1), (congrArg (fun b => LV.p (PV.bool b)) c1), (congrArg (fun b => LV.p (PV.bool b)) c1), (congrArg (fun b => LV.p (PV.bool b)) c1), (congrArg (fun b => LV.p (PV.bool b)) c1), (vtake_w (L := L) (glen L) rfl), trivial⟩

theorem vcount_o {L : List UInt8} {most : Int} (w1 : (decide ((gnum L : Int) ≤ 4611686018427387904)) = true → (decide (glen L = 0)) = false → (decide ((IntKind.wrap .i64 (gnum L : Int)) ≤ most)) = true → glen L ≤ List.length (α := UInt8) L) :
    Runs lp 28 [(.ptr 0 0 0), (.p (.int .i64 most))] [.row [[(.p (.sl (bs L))), (.p (.bool false))]]] (if (decide ((gnum L : Int) ≤ 4611686018427387904)) = true then (if (decide (glen L = 0)) = true then (((.p (.int .i64 0)), [.row [[(.p (.sl (bs L))), (.p (.bool true))]]])) else (if (decide ((IntKind.wrap .i64 (gnum L : Int)) ≤ most)) = true then (((.p (.int .i64 (IntKind.wrap .i64 (gnum L : Int)))), [.row [[(.p (.sl (bs (List.drop (glen L) L)))), (.p (.bool false))]]])) else (((.p (.int .i64 0)), [.row [[(.p (.sl (bs L))), (.p (.bool true))]]])))) else (if (decide (glen L = 0)) = true then (((.p (.int .i64 0)), [.row [[(.p (.sl (bs L))), (.p (.bool true))]]])) else (((.p (.int .i64 0)), [.row [[(.p (.sl (bs L))), (.p (.bool true))]]])))) := by
  by_cases k1 : (decide ((gnum L : Int) ≤ 4611686018427387904)) = true
  · refine iteRP k1 ?_
    by_cases k2 : (decide (glen L = 0)) = true
    · refine iteRP k2 ?_
      exact vcount_o_yy (L := L) (most := most) k1 k2
    · refine iteRN k2 ?_
      replace k2 := Bool.eq_false_iff.2 k2
      by_cases k3 : (decide ((IntKind.wrap .i64 (gnum L : Int)) ≤ most)) = true
      · refine iteRP k3 ?_
        exact vcount_o_yny (L := L) (most := most) k1 k2 k3 (w1 k1 k2 k3)
      · refine iteRN k3 ?_
        replace k3 := Bool.eq_false_iff.2 k3
        exact vcount_o_ynn (L := L) (most := most) k1 k2 k3
  · refine iteRN k1 ?_
    replace k1 := Bool.eq_false_iff.2 k1
    by_cases k2 : (decide (glen L = 0)) = true
    · refine iteRP k2 ?_
      exact vcount_o_ny (L := L) (most := most) k1 k2
    · refine iteRN k2 ?_
      replace k2 := Bool.eq_false_iff.2 k2
      exact vcount_o_nn (L := L) (most := most) k1 k2

theorem rcount_o_y {L : List UInt8} {most : Int} (c1 : (decide (glen L = 0)) = true) :
    Runs lp 33 [(.ptr 0 0 0), (.p (.int .i64 most))] [.row [[(.p (.sl (bs L))), (.p (.bool false))]]] ((.p (.int .i64 0)), [.row [[(.p (.sl (bs L))), (.p (.bool true))]]]) :=
  runO_sound (N := 100) (os := [(12, .call (.p (.int .u64 0)) [.row [[(.p (.sl (bs L))), (.p (.bool true))]]])])
    (ps := [(Runs lp 36 [(.ptr 0 0 0)] [.row [[(.p (.sl (bs L))), (.p (.bool false))]]] ((.p (.int .u64 0)), [.row [[(.p (.sl (bs L))), (.p (.bool true))]]]))])
    (by kernel_rfl) ⟨(rgroups_y L false c1), trivial⟩

theorem rcount_o_ny {L : List UInt8} {most : Int} (c1 : (decide (glen L = 0)) = false) (c2 : (decide ((gnum L : Int) > 4611686018427387904)) = true) :
    Runs lp 33 [(.ptr 0 0 0), (.p (.int .i64 most))] [.row [[(.p (.sl (bs L))), (.p (.bool false))]]] ((.p (.int .i64 0)), [.row [[(.p (.sl (bs L))), (.p (.bool true))]]]) :=
  runO_sound (N := 100) (os := [(12, .call (.p (.int .u64 (gnum L : Int))) [.row [[(.p (.sl (bs (List.drop (glen L) L)))), (.p (.bool false))]]]), (12, .b true), (0, .b true), (0, .b true), (0, .b true), (0, .b true)])
    (ps := [(Runs lp 36 [(.ptr 0 0 0)] [.row [[(.p (.sl (bs L))), (.p (.bool false))]]] ((.p (.int .u64 (gnum L : Int))), [.row [[(.p (.sl (bs (List.drop (glen L) L)))), (.p (.bool false))]]])), (LV.p (PV.bool (decide ((gnum L : Int) > 4611686018427387904))) = .p (.bool true)), (LV.p (PV.bool (decide ((gnum L : Int) > 4611686018427387904))) = .p (.bool true)), (LV.p (PV.bool (decide ((gnum L : Int) > 4611686018427387904))) = .p (.bool true)), (LV.p (PV.bool (decide ((gnum L : Int) > 4611686018427387904))) = .p (.bool true)), (LV.p (PV.bool (decide ((gnum L : Int) > 4611686018427387904))) = .p (.bool true))])
    (by kernel_rfl) ⟨(rgroups_n L false c1), (congrArg (fun b => LV.p (PV.bool b)) c2), (congrArg (fun b => LV.p (PV.bool b)) c2), (congrArg (fun b => LV.p (PV.bool b)) c2), (congrArg (fun b => LV.p (PV.bool b)) c2), (congrArg (fun b => LV.p (PV.bool b)) c2), trivial⟩

theorem rcount_o_nny {L : List UInt8} {most : Int} (c1 : (decide (glen L = 0)) = false) (c2 : (decide ((gnum L : Int) > 4611686018427387904)) = false) (c3 : (decide ((IntKind.wrap .i64 (gnum L : Int)) > most)) = true) :
    Runs lp 33 [(.ptr 0 0 0), (.p (.int .i64 most))] [.row [[(.p (.sl (bs L))), (.p (.bool false))]]] ((.p (.int .i64 0)), [.row [[(.p (.sl (bs L))), (.p (.bool true))]]]) :=
  runO_sound (N := 100) (os := [(12, .call (.p (.int .u64 (gnum L : Int))) [.row [[(.p (.sl (bs (List.drop (glen L) L)))), (.p (.bool false))]]]), (12, .b false), (1, .b false), (1, .b false), (1, .b false), (1, .b false), (0, .b true)])
    (ps := [(Runs lp 36 [(.ptr 0 0 0)] [.row [[(.p (.sl (bs L))), (.p (.bool false))]]] ((.p (.int .u64 (gnum L : Int))), [.row [[(.p (.sl (bs (List.drop (glen L) L)))), (.p (.bool false))]]])), (LV.p (PV.bool (decide ((gnum L : Int) > 4611686018427387904))) = .p (.bool false)), (LV.p (PV.bool (decide ((gnum L : Int) > 4611686018427387904))) = .p (.bool false)), (LV.p (PV.bool (decide ((gnum L : Int) > 4611686018427387904))) = .p (.bool false)), (LV.p (PV.bool (decide ((gnum L : Int) > 4611686018427387904))) = .p (.bool false)), (LV.p (PV.bool (decide ((gnum L : Int) > 4611686018427387904))) = .p (.bool false)), (LV.p (PV.bool (decide ((IntKind.wrap .i64 (gnum L : Int)) > most))) = .p (.bool true))])
    (by kernel_rfl) ⟨(rgroups_n L false c1), (congrArg (fun b => LV.p (PV.bool b)) c2), (congrArg (fun b => LV.p (PV.bool b)) c2), (congrArg (fun b => LV.p (PV.bool b)) c2), (congrArg (fun b => LV.p (PV.bool b)) c2), (congrArg (fun b => LV.p (PV.bool b)) c2), (congrArg (fun b => LV.p (PV.bool b)) c3), trivial⟩

theorem rcount_o_nnn {L : List UInt8} {most : Int} (c1 : (decide (glen L = 0)) = false) (c2 : (decide ((gnum L : Int) > 4611686018427387904)) = false) (c3 : (decide ((IntKind.wrap .i64 (gnum L : Int)) > most)) = false) :
    Runs lp 33 [(.ptr 0 0 0), (.p (.int .i64 most))] [.row [[(.p (.sl (bs L))), (.p (.bool false))]]] ((.p (.int .i64 (IntKind.wrap .i64 (gnum L : Int)))), [.row [[(.p (.sl (bs (List.drop (glen L) L)))), (.p (.bool false))]]]) :=
  runO_sound (N := 100) (os := [(12, .call (.p (.int .u64 (gnum L : Int))) [.row [[(.p (.sl (bs (List.drop (glen L) L)))), (.p (.bool false))]]]), (12, .b false), (1, .b false), (1, .b false), (1, .b false), (1, .b false), (0, .b false)])
    (ps := [(Runs lp 36 [(.ptr 0 0 0)] [.row [[(.p (.sl (bs L))), (.p (.bool false))]]] ((.p (.int .u64 (gnum L : Int))), [.row [[(.p (.sl (bs (List.drop (glen L) L)))), (.p (.bool false))]]])), (LV.p (PV.bool (decide ((gnum L : Int) > 4611686018427387904))) = .p (.bool false)), (LV.p (PV.bool (decide ((gnum L : Int) > 4611686018427387904))) = .p (.bool false)), (LV.p (PV.bool (decide ((gnum L : Int) > 4611686018427387904))) = .p (.bool false)), (LV.p (PV.bool (decide ((gnum L : Int) > 4611686018427387904))) = .p (.bool false)), (LV.p (PV.bool (decide ((gnum L : Int) > 4611686018427387904))) = .p (.bool false)), (LV.p (PV.bool (decide ((IntKind.wrap .i64 (gnum L : Int)) > most))) = .p (.bool false))])
    (by kernel_rfl) ⟨(rgroups_n L false c1), (congrArg (fun b => LV.p (PV.bool b)) c2), (congrArg (fun b => LV.p (PV.bool b)) c2), (congrArg (fun b => LV.p (PV.bool b)) c2), (congrArg (fun b => LV.p (PV.bool b)) c2), (congrArg (fun b => LV.p (PV.bool b)) c2), (congrArg (fun b => LV.p (PV.bool b)) c3), trivial⟩

theorem rcount_o {L : List UInt8} {most : Int}  :
    Runs lp 33 [(.ptr 0 0 0), (.p (.int .i64 most))] [.row [[(.p (.sl (bs L))), (.p (.bool false))]]] (if (decide (glen L = 0)) = true then (((.p (.int .i64 0)), [.row [[(.p (.sl (bs L))), (.p (.bool true))]]])) else (if (decide ((gnum L : Int) > 4611686018427387904)) = true then (((.p (.int .i64 0)), [.row [[(.p (.sl (bs L))), (.p (.bool true))]]])) else (if (decide ((IntKind.wrap .i64 (gnum L : Int)) > most)) = true then (((.p (.int .i64 0)), [.row [[(.p (.sl (bs L))), (.p (.bool true))]]])) else (((.p (.int .i64 (IntKind.wrap .i64 (gnum L : Int)))), [.row [[(.p (.sl (bs (List.drop (glen L) L)))), (.p (.bool false))]]]))))) := by
  by_cases k1 : (decide (glen L = 0)) = true
  · refine iteRP k1 ?_
    exact rcount_o_y (L := L) (most := most) k1
  · refine iteRN k1 ?_
    replace k1 := Bool.eq_false_iff.2 k1
    by_cases k2 : (decide ((gnum L : Int) > 4611686018427387904)) = true
    · refine iteRP k2 ?_
      exact rcount_o_ny (L := L) (most := most) k1 k2
    · refine iteRN k2 ?_
      replace k2 := Bool.eq_false_iff.2 k2
      by_cases k3 : (decide ((IntKind.wrap .i64 (gnum L : Int)) > most)) = true
      · refine iteRP k3 ?_
        exact rcount_o_nny (L := L) (most := most) k1 k2 k3
      · refine iteRN k3 ?_
        replace k3 := Bool.eq_false_iff.2 k3
        exact rcount_o_nnn (L := L) (most := most) k1 k2 k3

end Go.Proofs.Ythiilhepneddpaa
