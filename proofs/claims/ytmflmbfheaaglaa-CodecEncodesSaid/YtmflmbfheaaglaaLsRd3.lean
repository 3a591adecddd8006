import Derived.Test.YtmflmbfheaaglaaLsRd2
set_option linter.unusedVariables false
set_option maxRecDepth 100000
namespace Go.Proofs.Ytmflmbfheaaglaa
open Go Go.LS
theorem take_b {L : List UInt8} {n : Nat} {r : Bool}  :
    Runs lp 62 [.ptr 0 0 0, .p (.int .i64 (n : Int)), .p (.bool r)] [.row [[.p (.sl (bs L)), .p (.bool true)]]] (.p (.bool false), [.row [[.p (.sl (bs L)), .p (.bool true)]]]) :=
  have q1 : Runs lp 20 [.ptr 0 0 0] [.row [[.p (.sl (bs L)), .p (.bool true)]]] (.p (.bool true), [.row [[.p (.sl (bs L)), .p (.bool true)]]]) := (vbad (L := L) (bad := true))
  have q2 : Runs lp 35 [.ptr 0 0 0] [.row [[.p (.sl (bs L)), .p (.bool true)]]] (.tup [], [.row [[.p (.sl (bs L)), .p (.bool true)]]]) := (vspoil (L := L) (bad := true))
  runO_sound (N := 100) (os := [(2, oC q1), (10, oC q2)]) (ps := [_, _]) (by kernel_rfl) ⟨q1, q2, trivial⟩
theorem take_o_y {L : List UInt8} {n : Nat} {r : Bool} (c1 : ((n : Int) == 0) = true) :
    Runs lp 62 [.ptr 0 0 0, .p (.int .i64 (n : Int)), .p (.bool r)] [.row [[.p (.sl (bs L)), .p (.bool false)]]] (.p (.bool false), [.row [[.p (.sl (bs L)), .p (.bool true)]]]) :=
  have q1 : Runs lp 20 [.ptr 0 0 0] [.row [[.p (.sl (bs L)), .p (.bool false)]]] (.p (.bool false), [.row [[.p (.sl (bs L)), .p (.bool false)]]]) := (vbad (L := L) (bad := false))
  have q2 : Runs lp 35 [.ptr 0 0 0] [.row [[.p (.sl (bs L)), .p (.bool false)]]] (.tup [], [.row [[.p (.sl (bs L)), .p (.bool true)]]]) := (vspoil (L := L) (bad := false))
  runO_sound (N := 100) (os := [(2, oC q1), (7, .b true), (0, .b true), (0, .b true), (2, oC q2)]) (ps := [_, _, _, _, _]) (by kernel_rfl) ⟨q1, cI c1, cI c1, cI c1, q2, trivial⟩
theorem take_o_ny {L : List UInt8} {n : Nat} {r : Bool} (c1 : ((n : Int) == 0) = false) (c2 : (r) = true) (h3 : 0 ≤ (n : Int)) (h4 : (n : Int) ≤ (List.length (α := UInt8) L : Int)) :
    Runs lp 62 [.ptr 0 0 0, .p (.int .i64 (n : Int)), .p (.bool r)] [.row [[.p (.sl (bs L)), .p (.bool false)]]] (.p (.bool true), [.row [[.p (.sl (bs (List.drop (Int.toNat (n : Int)) L))), .p (.bool false)]]]) :=
  have q1 : Runs lp 20 [.ptr 0 0 0] [.row [[.p (.sl (bs L)), .p (.bool false)]]] (.p (.bool false), [.row [[.p (.sl (bs L)), .p (.bool false)]]]) := (vbad (L := L) (bad := false))
  have q2 : OpW [.row [[.p (.sl (bs L)), .p (.bool false)]]] (.slice 1 (.const (.p (.sl (bs L)))) (some (.const (.p (.int .i64 (n : Int))))) none none) (.p (.sl (bs (List.drop (Int.toNat (n : Int)) L)))) [.row [[.p (.sl (bs L)), .p (.bool false)]]] := (opIs_slicePD h3 h4)
  runO_sound (N := 100) (os := [(2, oC q1), (7, .b false), (1, .b false), (1, .b false), (0, .b false), (6, oO q2)]) (ps := [_, _, _, _, _, _]) (by kernel_rfl) ⟨q1, cI c1, cI c1, cI c1, (cI (notI c2)), q2, trivial⟩
theorem take_o_nn {L : List UInt8} {n : Nat} {r : Bool} (c1 : ((n : Int) == 0) = false) (c2 : (r) = false) :
    Runs lp 62 [.ptr 0 0 0, .p (.int .i64 (n : Int)), .p (.bool r)] [.row [[.p (.sl (bs L)), .p (.bool false)]]] (.p (.bool false), [.row [[.p (.sl (bs L)), .p (.bool true)]]]) :=
  have q1 : Runs lp 20 [.ptr 0 0 0] [.row [[.p (.sl (bs L)), .p (.bool false)]]] (.p (.bool false), [.row [[.p (.sl (bs L)), .p (.bool false)]]]) := (vbad (L := L) (bad := false))
  have q2 : Runs lp 35 [.ptr 0 0 0] [.row [[.p (.sl (bs L)), .p (.bool false)]]] (.tup [], [.row [[.p (.sl (bs L)), .p (.bool true)]]]) := (vspoil (L := L) (bad := false))
  runO_sound (N := 100) (os := [(2, oC q1), (7, .b false), (1, .b false), (1, .b false), (0, .b true), (1, oC q2)]) (ps := [_, _, _, _, _, _]) (by kernel_rfl) ⟨q1, cI c1, cI c1, cI c1, (cI (notI c2)), q2, trivial⟩
theorem vtake_y {L : List UInt8} (n : Nat) (r : Bool) : Runs lp 62 [.ptr 0 0 0, .p (.int .i64 n), .p (.bool r)] (stL L true) (.p (.bool false), stL L true) := take_b
theorem vtake_z {L : List UInt8} (r : Bool) {n : Nat} (h : (decide (n = 0)) = true) : Runs lp 62 [.ptr 0 0 0, .p (.int .i64 n), .p (.bool r)] (stL L false) (.p (.bool false), stL L true) := take_o_y (by simpa using h)
theorem vtake_w {L : List UInt8} {r : Bool} (n : Nat) (h : r = false) : Runs lp 62 [.ptr 0 0 0, .p (.int .i64 n), .p (.bool r)] (stL L false) (.p (.bool false), stL L true) := by
  subst h
  by_cases h : n = 0
  · exact take_o_y (by simp [h])
  · exact take_o_nn (by simp [h]) rfl
theorem vtake_o {L : List UInt8} {r : Bool} {n : Nat} (h : (decide (n = 0)) = false) (hr : r = true) (hn : n ≤ L.length) : Runs lp 62 [.ptr 0 0 0, .p (.int .i64 n), .p (.bool r)] (stL L false) (.p (.bool true), stL (L.drop n) false) := by
  subst hr
  have := take_o_ny (L := L) (n := n) (r := true) (by simpa using h) rfl (by omega) (by omega)
  simpa using this
theorem vint_b {L : List UInt8}  :
    Runs lp 48 [.ptr 0 0 0] [.row [[.p (.sl (bs L)), .p (.bool true)]]] (.p (.int .i64 0), [.row [[.p (.sl (bs L)), .p (.bool true)]]]) :=
  have q1 : Runs lp 61 [.ptr 0 0 0] [.row [[.p (.sl (bs L)), .p (.bool true)]]] (.tup [.p (.int .u64 0), .p (.int .i64 0)], [.row [[.p (.sl (bs L)), .p (.bool true)]]]) := (vgroups_y L)
  have q2 : Runs lp 62 [.ptr 0 0 0, .p (.int .i64 0), .p (.bool true)] [.row [[.p (.sl (bs L)), .p (.bool true)]]] (.p (.bool false), [.row [[.p (.sl (bs L)), .p (.bool true)]]]) := (vtake_y (L := L) 0 true)
  runO_sound (N := 100) (os := [(2, oC q1), (7, oC q2)]) (ps := [_, _]) (by kernel_rfl) ⟨q1, q2, trivial⟩
theorem vcount_b {L : List UInt8} {most : Int}  :
    Runs lp 63 [.ptr 0 0 0, .p (.int .i64 most)] [.row [[.p (.sl (bs L)), .p (.bool true)]]] (.p (.int .i64 0), [.row [[.p (.sl (bs L)), .p (.bool true)]]]) :=
  have q1 : Runs lp 61 [.ptr 0 0 0] [.row [[.p (.sl (bs L)), .p (.bool true)]]] (.tup [.p (.int .u64 0), .p (.int .i64 0)], [.row [[.p (.sl (bs L)), .p (.bool true)]]]) := (vgroups_y L)
  have q2 : Runs lp 62 [.ptr 0 0 0, .p (.int .i64 0), .p (.bool (decide ((0 : Int) ≤ most)))] [.row [[.p (.sl (bs L)), .p (.bool true)]]] (.p (.bool false), [.row [[.p (.sl (bs L)), .p (.bool true)]]]) := (vtake_y (L := L) 0 (decide ((0 : Int) ≤ most)))
  runO_sound (N := 100) (os := [(2, oC q1), (19, oC q2)]) (ps := [_, _]) (by kernel_rfl) ⟨q1, q2, trivial⟩
theorem vtext_b_y {L : List UInt8} {most : Int} (c1 : (decide ((0 : Int) > most)) = true) :
    Runs lp 49 [.ptr 0 0 0, .p (.int .i64 most)] [.row [[.p (.sl (bs L)), .p (.bool true)]]] (.p (.str []), [.row [[.p (.sl (bs L)), .p (.bool true)]]]) :=
  have q1 : Runs lp 61 [.ptr 0 0 0] [.row [[.p (.sl (bs L)), .p (.bool true)]]] (.tup [.p (.int .u64 0), .p (.int .i64 0)], [.row [[.p (.sl (bs L)), .p (.bool true)]]]) := (vgroups_y L)
  have q2 : Runs lp 35 [.ptr 0 0 0] [.row [[.p (.sl (bs L)), .p (.bool true)]]] (.tup [], [.row [[.p (.sl (bs L)), .p (.bool true)]]]) := (vspoil (L := L) (bad := true))
  runO_sound (N := 100) (os := [(2, oC q1), (18, .b true), (0, .b true), (0, .b true), (0, .b true), (0, .b true), (0, .b true), (0, .b true), (0, .b true), (6, oC q2)]) (ps := [_, _, _, _, _, _, _, _, _, _]) (by kernel_rfl) ⟨q1, cI c1, cI c1, cI c1, cI c1, cI c1, cI c1, cI c1, cI c1, q2, trivial⟩
theorem vtext_b_n {L : List UInt8} {most : Int} (c1 : (decide ((0 : Int) > most)) = false) :
    Runs lp 49 [.ptr 0 0 0, .p (.int .i64 most)] [.row [[.p (.sl (bs L)), .p (.bool true)]]] (.p (.str []), [.row [[.p (.sl (bs L)), .p (.bool true)]]]) :=
  have q1 : Runs lp 61 [.ptr 0 0 0] [.row [[.p (.sl (bs L)), .p (.bool true)]]] (.tup [.p (.int .u64 0), .p (.int .i64 0)], [.row [[.p (.sl (bs L)), .p (.bool true)]]]) := (vgroups_y L)
  have q2 : Runs lp 21 [.ptr 0 0 0] [.row [[.p (.sl (bs L)), .p (.bool true)]]] (.p (.int .i64 0), [.row [[.p (.sl (bs L)), .p (.bool true)]]]) := (vleft_y (L := L) rfl)
  have q3 : Runs lp 35 [.ptr 0 0 0] [.row [[.p (.sl (bs L)), .p (.bool true)]]] (.tup [], [.row [[.p (.sl (bs L)), .p (.bool true)]]]) := (vspoil (L := L) (bad := true))
  runO_sound (N := 100) (os := [(2, oC q1), (18, .b false), (1, .b false), (1, .b false), (1, .b false), (0, oC q2), (0, .b false), (1, .b false), (1, .b false), (1, .b false), (8, oC q3)]) (ps := [_, _, _, _, _, _, _, _, _, _, _]) (by kernel_rfl) ⟨q1, cI c1, cI c1, cI c1, cI c1, q2, cI c1, cI c1, cI c1, cI c1, q3, trivial⟩
theorem vtext_b {L : List UInt8} {most : Int}  :
    Runs lp 49 [.ptr 0 0 0, .p (.int .i64 most)] [.row [[.p (.sl (bs L)), .p (.bool true)]]] (if (decide ((0 : Int) > most)) = true then ((.p (.str []), [.row [[.p (.sl (bs L)), .p (.bool true)]]])) else ((.p (.str []), [.row [[.p (.sl (bs L)), .p (.bool true)]]]))) := by
  by_cases k1 : (decide ((0 : Int) > most)) = true
  · refine iteRP k1 ?_
    exact vtext_b_y (L := L) (most := most) k1
  · refine iteRN k1 ?_
    replace k1 := Bool.eq_false_iff.2 k1
    exact vtext_b_n (L := L) (most := most) k1
theorem vint_o_y {L : List UInt8} (c1 : (decide (glen L = 0)) = true) :
    Runs lp 48 [.ptr 0 0 0] [.row [[.p (.sl (bs L)), .p (.bool false)]]] (.p (.int .i64 0), [.row [[.p (.sl (bs L)), .p (.bool true)]]]) :=
  have q1 : Runs lp 61 [.ptr 0 0 0] [.row [[.p (.sl (bs L)), .p (.bool false)]]] (.tup [.p (.int .u64 (gnum L : Int)), .p (.int .i64 (glen L : Int))], [.row [[.p (.sl (bs L)), .p (.bool false)]]]) := (vgroups_n L)
  have q2 : Runs lp 62 [.ptr 0 0 0, .p (.int .i64 (glen L : Int)), .p (.bool true)] [.row [[.p (.sl (bs L)), .p (.bool false)]]] (.p (.bool false), [.row [[.p (.sl (bs L)), .p (.bool true)]]]) := (vtake_z (L := L) true c1)
  runO_sound (N := 100) (os := [(2, oC q1), (7, oC q2)]) (ps := [_, _]) (by kernel_rfl) ⟨q1, q2, trivial⟩
theorem vint_o_n {L : List UInt8} (c1 : (decide (glen L = 0)) = false) (h2 : glen L ≤ List.length (α := UInt8) L) :
    Runs lp 48 [.ptr 0 0 0] [.row [[.p (.sl (bs L)), .p (.bool false)]]] (.p (.int .i64 (IntKind.wrap .i64 ↑(BitVec.ofInt (IntKind.bits .i64) (IntKind.wrap .i64 (Int.fdiv (gnum L : Int) (2 ^ 1))) ^^^ BitVec.ofInt (IntKind.bits .i64) (IntKind.wrap .i64 (0 - (IntKind.wrap .i64 (IntKind.wrap .u64 ↑(BitVec.ofInt (IntKind.bits .u64) (gnum L : Int) &&& BitVec.ofInt (IntKind.bits .u64) 1).toNat))))).toNat)), [.row [[.p (.sl (bs (List.drop (glen L) L))), .p (.bool false)]]]) :=
  have q1 : Runs lp 61 [.ptr 0 0 0] [.row [[.p (.sl (bs L)), .p (.bool false)]]] (.tup [.p (.int .u64 (gnum L : Int)), .p (.int .i64 (glen L : Int))], [.row [[.p (.sl (bs L)), .p (.bool false)]]]) := (vgroups_n L)
  have q2 : Runs lp 62 [.ptr 0 0 0, .p (.int .i64 (glen L : Int)), .p (.bool true)] [.row [[.p (.sl (bs L)), .p (.bool false)]]] (.p (.bool true), [.row [[.p (.sl (bs (List.drop (glen L) L))), .p (.bool false)]]]) := (vtake_o (L := L) c1 rfl h2)
  runO_sound (N := 100) (os := [(2, oC q1), (7, oC q2)]) (ps := [_, _]) (by kernel_rfl) ⟨q1, q2, trivial⟩
theorem vcount_o_yy {L : List UInt8} {most : Int} (c1 : (decide ((gnum L : Int) ≤ 4611686018427387904)) = true) (c2 : (decide (glen L = 0)) = true) :
    Runs lp 63 [.ptr 0 0 0, .p (.int .i64 most)] [.row [[.p (.sl (bs L)), .p (.bool false)]]] (.p (.int .i64 0), [.row [[.p (.sl (bs L)), .p (.bool true)]]]) :=
  have q1 : Runs lp 61 [.ptr 0 0 0] [.row [[.p (.sl (bs L)), .p (.bool false)]]] (.tup [.p (.int .u64 (gnum L : Int)), .p (.int .i64 (glen L : Int))], [.row [[.p (.sl (bs L)), .p (.bool false)]]]) := (vgroups_n L)
  have q2 : Runs lp 62 [.ptr 0 0 0, .p (.int .i64 (glen L : Int)), .p (.bool (decide ((IntKind.wrap .i64 (gnum L : Int)) ≤ most)))] [.row [[.p (.sl (bs L)), .p (.bool false)]]] (.p (.bool false), [.row [[.p (.sl (bs L)), .p (.bool true)]]]) := (vtake_z (L := L) (decide ((IntKind.wrap .i64 (gnum L : Int)) ≤ most)) c2)
  runO_sound (N := 100) (os := [(2, oC q1), (10, .b true), (1, .b true), (1, .b true), (1, .b true), (1, .b true), (0, oC q2)]) (ps := [_, _, _, _, _, _, _]) (by kernel_rfl) ⟨q1, cI c1, cI c1, cI c1, cI c1, cI c1, q2, trivial⟩
theorem vcount_o_yny {L : List UInt8} {most : Int} (c1 : (decide ((gnum L : Int) ≤ 4611686018427387904)) = true) (c2 : (decide (glen L = 0)) = false) (c3 : (decide ((IntKind.wrap .i64 (gnum L : Int)) ≤ most)) = true) (h4 : glen L ≤ List.length (α := UInt8) L) :
    Runs lp 63 [.ptr 0 0 0, .p (.int .i64 most)] [.row [[.p (.sl (bs L)), .p (.bool false)]]] (.p (.int .i64 (IntKind.wrap .i64 (gnum L : Int))), [.row [[.p (.sl (bs (List.drop (glen L) L))), .p (.bool false)]]]) :=
  have q1 : Runs lp 61 [.ptr 0 0 0] [.row [[.p (.sl (bs L)), .p (.bool false)]]] (.tup [.p (.int .u64 (gnum L : Int)), .p (.int .i64 (glen L : Int))], [.row [[.p (.sl (bs L)), .p (.bool false)]]]) := (vgroups_n L)
  have q2 : Runs lp 62 [.ptr 0 0 0, .p (.int .i64 (glen L : Int)), .p (.bool (decide ((IntKind.wrap .i64 (gnum L : Int)) ≤ most)))] [.row [[.p (.sl (bs L)), .p (.bool false)]]] (.p (.bool true), [.row [[.p (.sl (bs (List.drop (glen L) L))), .p (.bool false)]]]) := (vtake_o (L := L) c2 c3 h4)
  runO_sound (N := 100) (os := [(2, oC q1), (10, .b true), (1, .b true), (1, .b true), (1, .b true), (1, .b true), (0, oC q2)]) (ps := [_, _, _, _, _, _, _]) (by kernel_rfl) ⟨q1, cI c1, cI c1, cI c1, cI c1, cI c1, q2, trivial⟩
theorem vcount_o_ynn {L : List UInt8} {most : Int} (c1 : (decide ((gnum L : Int) ≤ 4611686018427387904)) = true) (c2 : (decide (glen L = 0)) = false) (c3 : (decide ((IntKind.wrap .i64 (gnum L : Int)) ≤ most)) = false) :
    Runs lp 63 [.ptr 0 0 0, .p (.int .i64 most)] [.row [[.p (.sl (bs L)), .p (.bool false)]]] (.p (.int .i64 0), [.row [[.p (.sl (bs L)), .p (.bool true)]]]) :=
  have q1 : Runs lp 61 [.ptr 0 0 0] [.row [[.p (.sl (bs L)), .p (.bool false)]]] (.tup [.p (.int .u64 (gnum L : Int)), .p (.int .i64 (glen L : Int))], [.row [[.p (.sl (bs L)), .p (.bool false)]]]) := (vgroups_n L)
  have q2 : Runs lp 62 [.ptr 0 0 0, .p (.int .i64 (glen L : Int)), .p (.bool (decide ((IntKind.wrap .i64 (gnum L : Int)) ≤ most)))] [.row [[.p (.sl (bs L)), .p (.bool false)]]] (.p (.bool false), [.row [[.p (.sl (bs L)), .p (.bool true)]]]) := (vtake_w (L := L) (glen L) c3)
  runO_sound (N := 100) (os := [(2, oC q1), (10, .b true), (1, .b true), (1, .b true), (1, .b true), (1, .b true), (0, oC q2)]) (ps := [_, _, _, _, _, _, _]) (by kernel_rfl) ⟨q1, cI c1, cI c1, cI c1, cI c1, cI c1, q2, trivial⟩
theorem vcount_o_ny {L : List UInt8} {most : Int} (c1 : (decide ((gnum L : Int) ≤ 4611686018427387904)) = false) (c2 : (decide (glen L = 0)) = true) :
    Runs lp 63 [.ptr 0 0 0, .p (.int .i64 most)] [.row [[.p (.sl (bs L)), .p (.bool false)]]] (.p (.int .i64 0), [.row [[.p (.sl (bs L)), .p (.bool true)]]]) :=
  have q1 : Runs lp 61 [.ptr 0 0 0] [.row [[.p (.sl (bs L)), .p (.bool false)]]] (.tup [.p (.int .u64 (gnum L : Int)), .p (.int .i64 (glen L : Int))], [.row [[.p (.sl (bs L)), .p (.bool false)]]]) := (vgroups_n L)
  have q2 : Runs lp 62 [.ptr 0 0 0, .p (.int .i64 (glen L : Int)), .p (.bool false)] [.row [[.p (.sl (bs L)), .p (.bool false)]]] (.p (.bool false), [.row [[.p (.sl (bs L)), .p (.bool true)]]]) := (vtake_z (L := L) false c2)
  runO_sound (N := 100) (os := [(2, oC q1), (10, .b false), (0, .b false), (0, .b false), (0, .b false), (0, .b false), (0, oC q2)]) (ps := [_, _, _, _, _, _, _]) (by kernel_rfl) ⟨q1, cI c1, cI c1, cI c1, cI c1, cI c1, q2, trivial⟩
theorem vcount_o_nn {L : List UInt8} {most : Int} (c1 : (decide ((gnum L : Int) ≤ 4611686018427387904)) = false) (c2 : (decide (glen L = 0)) = false) :
    Runs lp 63 [.ptr 0 0 0, .p (.int .i64 most)] [.row [[.p (.sl (bs L)), .p (.bool false)]]] (.p (.int .i64 0), [.row [[.p (.sl (bs L)), .p (.bool true)]]]) :=
  have q1 : Runs lp 61 [.ptr 0 0 0] [.row [[.p (.sl (bs L)), .p (.bool false)]]] (.tup [.p (.int .u64 (gnum L : Int)), .p (.int .i64 (glen L : Int))], [.row [[.p (.sl (bs L)), .p (.bool false)]]]) := (vgroups_n L)
  have q2 : Runs lp 62 [.ptr 0 0 0, .p (.int .i64 (glen L : Int)), .p (.bool false)] [.row [[.p (.sl (bs L)), .p (.bool false)]]] (.p (.bool false), [.row [[.p (.sl (bs L)), .p (.bool true)]]]) := (vtake_w (L := L) (glen L) rfl)
  runO_sound (N := 100) (os := [(2, oC q1), (10, .b false), (0, .b false), (0, .b false), (0, .b false), (0, .b false), (0, oC q2)]) (ps := [_, _, _, _, _, _, _]) (by kernel_rfl) ⟨q1, cI c1, cI c1, cI c1, cI c1, cI c1, q2, trivial⟩
theorem vtext_o_y {L : List UInt8} {most : Int} (c1 : (decide ((gnum L : Int) > 4611686018427387904)) = true) :
    Runs lp 49 [.ptr 0 0 0, .p (.int .i64 most)] [.row [[.p (.sl (bs L)), .p (.bool false)]]] (.p (.str []), [.row [[.p (.sl (bs L)), .p (.bool true)]]]) :=
  have q1 : Runs lp 61 [.ptr 0 0 0] [.row [[.p (.sl (bs L)), .p (.bool false)]]] (.tup [.p (.int .u64 (gnum L : Int)), .p (.int .i64 (glen L : Int))], [.row [[.p (.sl (bs L)), .p (.bool false)]]]) := (vgroups_n L)
  have q2 : Runs lp 35 [.ptr 0 0 0] [.row [[.p (.sl (bs L)), .p (.bool false)]]] (.tup [], [.row [[.p (.sl (bs L)), .p (.bool true)]]]) := (vspoil (L := L) (bad := false))
  runO_sound (N := 100) (os := [(2, oC q1), (8, .b true), (0, .b true), (0, .b true), (0, .b true), (0, .b true), (15, oC q2)]) (ps := [_, _, _, _, _, _, _]) (by kernel_rfl) ⟨q1, cI c1, cI c1, cI c1, cI c1, cI c1, q2, trivial⟩
theorem vtext_o_ny {L : List UInt8} {most : Int} (c1 : (decide ((gnum L : Int) > 4611686018427387904)) = false) (c2 : (decide ((IntKind.wrap .i64 (gnum L : Int)) > most)) = true) :
    Runs lp 49 [.ptr 0 0 0, .p (.int .i64 most)] [.row [[.p (.sl (bs L)), .p (.bool false)]]] (.p (.str []), [.row [[.p (.sl (bs L)), .p (.bool true)]]]) :=
  have q1 : Runs lp 61 [.ptr 0 0 0] [.row [[.p (.sl (bs L)), .p (.bool false)]]] (.tup [.p (.int .u64 (gnum L : Int)), .p (.int .i64 (glen L : Int))], [.row [[.p (.sl (bs L)), .p (.bool false)]]]) := (vgroups_n L)
  have q2 : Runs lp 35 [.ptr 0 0 0] [.row [[.p (.sl (bs L)), .p (.bool false)]]] (.tup [], [.row [[.p (.sl (bs L)), .p (.bool true)]]]) := (vspoil (L := L) (bad := false))
  runO_sound (N := 100) (os := [(2, oC q1), (8, .b false), (1, .b false), (1, .b false), (1, .b false), (1, .b false), (1, .b true), (0, .b true), (0, .b true), (0, .b true), (0, .b true), (0, .b true), (0, .b true), (0, .b true), (6, oC q2)]) (ps := [_, _, _, _, _, _, _, _, _, _, _, _, _, _, _]) (by kernel_rfl) ⟨q1, cI c1, cI c1, cI c1, cI c1, cI c1, cI c2, cI c2, cI c2, cI c2, cI c2, cI c2, cI c2, cI c2, q2, trivial⟩
theorem vtext_o_nny {L : List UInt8} {most : Int} (c1 : (decide ((gnum L : Int) > 4611686018427387904)) = false) (c2 : (decide ((IntKind.wrap .i64 (gnum L : Int)) > most)) = false) (c3 : (decide ((IntKind.wrap .i64 (gnum L : Int)) > (IntKind.wrap .i64 (((List.length (bs L) : Nat) : Int) - (glen L : Int))))) = true) :
    Runs lp 49 [.ptr 0 0 0, .p (.int .i64 most)] [.row [[.p (.sl (bs L)), .p (.bool false)]]] (.p (.str []), [.row [[.p (.sl (bs L)), .p (.bool true)]]]) :=
  have q1 : Runs lp 61 [.ptr 0 0 0] [.row [[.p (.sl (bs L)), .p (.bool false)]]] (.tup [.p (.int .u64 (gnum L : Int)), .p (.int .i64 (glen L : Int))], [.row [[.p (.sl (bs L)), .p (.bool false)]]]) := (vgroups_n L)
  have q2 : Runs lp 21 [.ptr 0 0 0] [.row [[.p (.sl (bs L)), .p (.bool false)]]] (.p (.int .i64 ((List.length (bs L) : Nat) : Int)), [.row [[.p (.sl (bs L)), .p (.bool false)]]]) := (vleft_n (L := L) rfl)
  have q3 : Runs lp 35 [.ptr 0 0 0] [.row [[.p (.sl (bs L)), .p (.bool false)]]] (.tup [], [.row [[.p (.sl (bs L)), .p (.bool true)]]]) := (vspoil (L := L) (bad := false))
  runO_sound (N := 100) (os := [(2, oC q1), (8, .b false), (1, .b false), (1, .b false), (1, .b false), (1, .b false), (1, .b false), (1, .b false), (1, .b false), (1, .b false), (0, oC q2), (0, .b false), (1, .b false), (1, .b false), (1, .b false), (1, .b true), (0, .b true), (0, .b true), (2, oC q3)]) (ps := [_, _, _, _, _, _, _, _, _, _, _, _, _, _, _, _, _, _, _]) (by kernel_rfl) ⟨q1, cI c1, cI c1, cI c1, cI c1, cI c1, cI c2, cI c2, cI c2, cI c2, q2, cI c2, cI c2, cI c2, cI c2, cI c3, cI c3, cI c3, q3, trivial⟩
theorem vtext_o_nnny {L : List UInt8} {most : Int} (c1 : (decide ((gnum L : Int) > 4611686018427387904)) = false) (c2 : (decide ((IntKind.wrap .i64 (gnum L : Int)) > most)) = false) (c3 : (decide ((IntKind.wrap .i64 (gnum L : Int)) > (IntKind.wrap .i64 (((List.length (bs L) : Nat) : Int) - (glen L : Int))))) = false) (c4 : ((glen L : Int) == 0) = true) :
    Runs lp 49 [.ptr 0 0 0, .p (.int .i64 most)] [.row [[.p (.sl (bs L)), .p (.bool false)]]] (.p (.str []), [.row [[.p (.sl (bs L)), .p (.bool true)]]]) :=
  have q1 : Runs lp 61 [.ptr 0 0 0] [.row [[.p (.sl (bs L)), .p (.bool false)]]] (.tup [.p (.int .u64 (gnum L : Int)), .p (.int .i64 (glen L : Int))], [.row [[.p (.sl (bs L)), .p (.bool false)]]]) := (vgroups_n L)
  have q2 : Runs lp 21 [.ptr 0 0 0] [.row [[.p (.sl (bs L)), .p (.bool false)]]] (.p (.int .i64 ((List.length (bs L) : Nat) : Int)), [.row [[.p (.sl (bs L)), .p (.bool false)]]]) := (vleft_n (L := L) rfl)
  have q3 : Runs lp 35 [.ptr 0 0 0] [.row [[.p (.sl (bs L)), .p (.bool false)]]] (.tup [], [.row [[.p (.sl (bs L)), .p (.bool true)]]]) := (vspoil (L := L) (bad := false))
  runO_sound (N := 100) (os := [(2, oC q1), (8, .b false), (1, .b false), (1, .b false), (1, .b false), (1, .b false), (1, .b false), (1, .b false), (1, .b false), (1, .b false), (0, oC q2), (0, .b false), (1, .b false), (1, .b false), (1, .b false), (1, .b false), (1, .b false), (1, .b false), (0, .b true), (1, oC q3)]) (ps := [_, _, _, _, _, _, _, _, _, _, _, _, _, _, _, _, _, _, _, _]) (by kernel_rfl) ⟨q1, cI c1, cI c1, cI c1, cI c1, cI c1, cI c2, cI c2, cI c2, cI c2, q2, cI c2, cI c2, cI c2, cI c2, cI c3, cI c3, cI c3, cI c4, q3, trivial⟩
theorem vtext_o_nnnn {L : List UInt8} {most : Int} (c1 : (decide ((gnum L : Int) > 4611686018427387904)) = false) (c2 : (decide ((IntKind.wrap .i64 (gnum L : Int)) > most)) = false) (c3 : (decide ((IntKind.wrap .i64 (gnum L : Int)) > (IntKind.wrap .i64 (((List.length (bs L) : Nat) : Int) - (glen L : Int))))) = false) (c4 : ((glen L : Int) == 0) = false) (h5 : 0 ≤ (glen L : Int)) (h6 : (glen L : Int) ≤ IntKind.wrap .i64 ((glen L : Int) + (IntKind.wrap .i64 (gnum L : Int)))) (h7 : IntKind.wrap .i64 ((glen L : Int) + (IntKind.wrap .i64 (gnum L : Int))) ≤ (List.length (α := UInt8) L : Int)) (h8 : 0 ≤ IntKind.wrap .i64 ((glen L : Int) + (IntKind.wrap .i64 (gnum L : Int)))) :
    Runs lp 49 [.ptr 0 0 0, .p (.int .i64 most)] [.row [[.p (.sl (bs L)), .p (.bool false)]]] (.p (.str (List.drop (Int.toNat (glen L : Int)) (List.take (Int.toNat (IntKind.wrap .i64 ((glen L : Int) + (IntKind.wrap .i64 (gnum L : Int))))) L))), [.row [[.p (.sl (bs (List.drop (Int.toNat (IntKind.wrap .i64 ((glen L : Int) + (IntKind.wrap .i64 (gnum L : Int))))) L))), .p (.bool false)]]]) :=
  have q1 : Runs lp 61 [.ptr 0 0 0] [.row [[.p (.sl (bs L)), .p (.bool false)]]] (.tup [.p (.int .u64 (gnum L : Int)), .p (.int .i64 (glen L : Int))], [.row [[.p (.sl (bs L)), .p (.bool false)]]]) := (vgroups_n L)
  have q2 : Runs lp 21 [.ptr 0 0 0] [.row [[.p (.sl (bs L)), .p (.bool false)]]] (.p (.int .i64 ((List.length (bs L) : Nat) : Int)), [.row [[.p (.sl (bs L)), .p (.bool false)]]]) := (vleft_n (L := L) rfl)
  have q3 : OpW [.row [[.p (.sl (bs L)), .p (.bool false)]]] (.slice 1 (.const (.p (.sl (bs L)))) (some (.const (.p (.int .i64 (glen L : Int))))) (some (.const (.p (.int .i64 (IntKind.wrap .i64 ((glen L : Int) + (IntKind.wrap .i64 (gnum L : Int)))))))) none) (.p (.sl (bs (List.drop (Int.toNat (glen L : Int)) (List.take (Int.toNat (IntKind.wrap .i64 ((glen L : Int) + (IntKind.wrap .i64 (gnum L : Int))))) L))))) [.row [[.p (.sl (bs L)), .p (.bool false)]]] := (opIs_sliceP2 h5 h6 h7)
  have q4 : OpW [.row [[.p (.sl (bs L)), .p (.bool false)]]] (.cv .b2s (.const (.p (.sl (bs (List.drop (Int.toNat (glen L : Int)) (List.take (Int.toNat (IntKind.wrap .i64 ((glen L : Int) + (IntKind.wrap .i64 (gnum L : Int))))) L))))))) (.p (.str (List.drop (Int.toNat (glen L : Int)) (List.take (Int.toNat (IntKind.wrap .i64 ((glen L : Int) + (IntKind.wrap .i64 (gnum L : Int))))) L)))) [.row [[.p (.sl (bs L)), .p (.bool false)]]] := (opIs_b2s rfl)
  have q5 : OpW [.row [[.p (.sl (bs L)), .p (.bool false)]]] (.slice 1 (.const (.p (.sl (bs L)))) (some (.const (.p (.int .i64 (IntKind.wrap .i64 ((glen L : Int) + (IntKind.wrap .i64 (gnum L : Int)))))))) none none) (.p (.sl (bs (List.drop (Int.toNat (IntKind.wrap .i64 ((glen L : Int) + (IntKind.wrap .i64 (gnum L : Int))))) L)))) [.row [[.p (.sl (bs L)), .p (.bool false)]]] := (opIs_slicePD h8 h7)
  runO_sound (N := 100) (os := [(2, oC q1), (8, .b false), (1, .b false), (1, .b false), (1, .b false), (1, .b false), (1, .b false), (1, .b false), (1, .b false), (1, .b false), (0, oC q2), (0, .b false), (1, .b false), (1, .b false), (1, .b false), (1, .b false), (1, .b false), (1, .b false), (0, .b false), (11, oO q3), (0, oO q4), (7, oO q5)]) (ps := [_, _, _, _, _, _, _, _, _, _, _, _, _, _, _, _, _, _, _, _, _, _]) (by kernel_rfl) ⟨q1, cI c1, cI c1, cI c1, cI c1, cI c1, cI c2, cI c2, cI c2, cI c2, q2, cI c2, cI c2, cI c2, cI c2, cI c3, cI c3, cI c3, cI c4, q3, q4, q5, trivial⟩
end Go.Proofs.Ytmflmbfheaaglaa
