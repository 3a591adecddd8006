import Derived.Test.YtpkmddkodchanaaLsSetW
set_option linter.unusedVariables false
set_option linter.unusedSimpArgs false
set_option maxRecDepth 100000
namespace Go.Proofs.Ytpkmddkodchanaa
open Go Go.LS
theorem tSe0 {k n : Int} {s : List UInt8} {is : List Val} {ns : List (List UInt8)} {kx nx : Int} {sx : List UInt8} {isx : List Val} {nsx : List (List UInt8)} {ps : List (List UInt8)} {W : Val} {bY : Bool} (w1 : (k == 7) = true → Runs lp 33 [.agg [.p (.int .i64 kx), .p (.int .i64 nx), .p (.str sx), .p (.sl (rowsV isx)), .p (.sl (rowsN nsx))]] [] (.p (.bool (mayV (Val.mk kx nx sx isx nsx))), [])) (w2 : (k == 7) = true → (mayV (Val.mk kx nx sx isx nsx)) = true → Runs lp 27 [.agg [.p (.int .i64 k), .p (.int .i64 n), .p (.str s), .p (.sl (rowsV is)), .p (.sl (rowsN ns))], .p (.sl (rowsN ps))] [] (.p (.int .i64 (chkV (Val.mk k n s is ns) ps (pathB ps))), [])) (w3 : (k == 7) = true → (mayV (Val.mk kx nx sx isx nsx)) = true → ((chkV (Val.mk k n s is ns) ps (pathB ps)) == 0) = true → Runs lp 34 [.agg [.p (.int .i64 k), .p (.int .i64 n), .p (.str s), .p (.sl (rowsV is)), .p (.sl (rowsN ns))], .p (.sl (rowsN ps)), .agg [.p (.int .i64 kx), .p (.int .i64 nx), .p (.str sx), .p (.sl (rowsV isx)), .p (.sl (rowsN nsx))]] [] (.tup [.agg [.p (.int .i64 (kV W)), .p (.int .i64 (nV W)), .p (.str (sV W)), .p (.sl (rowsV (iV W))), .p (.sl (rowsN (mV W)))], .p (.bool bY)], [])) (w4 : (k == 7) = true → (mayV (Val.mk kx nx sx isx nsx)) = true → ((chkV (Val.mk k n s is ns) ps (pathB ps)) == 0) = true → (bY) = true → Runs lp 29 [.agg [.p (.int .i64 (kV W)), .p (.int .i64 (nV W)), .p (.str (sV W)), .p (.sl (rowsV (iV W))), .p (.sl (rowsN (mV W)))]] [] (.agg [.p (.int .i64 (kV W)), .p (.int .i64 (nV W)), .p (.str (sV W)), .p (.sl (rowsV (iV W))), .p (.sl (rowsN (mV W)))], [])) (w5 : (k == 7) = false → Runs lp 27 [.agg [.p (.int .i64 k), .p (.int .i64 n), .p (.str s), .p (.sl (rowsV is)), .p (.sl (rowsN ns))], .p (.sl (rowsN ps))] [] (.p (.int .i64 (chkV (Val.mk k n s is ns) ps (pathB ps))), [])) (w6 : (k == 7) = false → ((chkV (Val.mk k n s is ns) ps (pathB ps)) == 0) = true → Runs lp 34 [.agg [.p (.int .i64 k), .p (.int .i64 n), .p (.str s), .p (.sl (rowsV is)), .p (.sl (rowsN ns))], .p (.sl (rowsN ps)), .agg [.p (.int .i64 kx), .p (.int .i64 nx), .p (.str sx), .p (.sl (rowsV isx)), .p (.sl (rowsN nsx))]] [] (.tup [.agg [.p (.int .i64 (kV W)), .p (.int .i64 (nV W)), .p (.str (sV W)), .p (.sl (rowsV (iV W))), .p (.sl (rowsN (mV W)))], .p (.bool bY)], [])) (w7 : (k == 7) = false → ((chkV (Val.mk k n s is ns) ps (pathB ps)) == 0) = true → (bY) = true → Runs lp 29 [.agg [.p (.int .i64 (kV W)), .p (.int .i64 (nV W)), .p (.str (sV W)), .p (.sl (rowsV (iV W))), .p (.sl (rowsN (mV W)))]] [] (.agg [.p (.int .i64 (kV W)), .p (.int .i64 (nV W)), .p (.str (sV W)), .p (.sl (rowsV (iV W))), .p (.sl (rowsN (mV W)))], [])) :
    Runs lp 18 [.agg [.p (.int .i64 k), .p (.int .i64 n), .p (.str s), .p (.sl (rowsV is)), .p (.sl (rowsN ns))], .p (.sl (rowsN ps)), .agg [.p (.int .i64 kx), .p (.int .i64 nx), .p (.str sx), .p (.sl (rowsV isx)), .p (.sl (rowsN nsx))]] [] (if (k == 7) = true then (if (mayV (Val.mk kx nx sx isx nsx)) = true then (if ((chkV (Val.mk k n s is ns) ps (pathB ps)) == 0) = true then (if (bY) = true then ((.tup [.agg [.p (.int .i64 (kV W)), .p (.int .i64 (nV W)), .p (.str (sV W)), .p (.sl (rowsV (iV W))), .p (.sl (rowsN (mV W)))], .p (.int .i64 0)], [])) else ((.tup [.agg [.p (.int .i64 0), .p (.int .i64 0), .p (.str []), .p (.sl []), .p (.sl [])], .p (.int .i64 40)], []))) else ((.tup [.agg [.p (.int .i64 0), .p (.int .i64 0), .p (.str []), .p (.sl []), .p (.sl [])], .p (.int .i64 (chkV (Val.mk k n s is ns) ps (pathB ps)))], []))) else ((.tup [.agg [.p (.int .i64 0), .p (.int .i64 0), .p (.str []), .p (.sl []), .p (.sl [])], .p (.int .i64 20)], []))) else (if ((chkV (Val.mk k n s is ns) ps (pathB ps)) == 0) = true then (if (bY) = true then ((.tup [.agg [.p (.int .i64 (kV W)), .p (.int .i64 (nV W)), .p (.str (sV W)), .p (.sl (rowsV (iV W))), .p (.sl (rowsN (mV W)))], .p (.int .i64 0)], [])) else ((.tup [.agg [.p (.int .i64 0), .p (.int .i64 0), .p (.str []), .p (.sl []), .p (.sl [])], .p (.int .i64 40)], []))) else ((.tup [.agg [.p (.int .i64 0), .p (.int .i64 0), .p (.str []), .p (.sl []), .p (.sl [])], .p (.int .i64 (chkV (Val.mk k n s is ns) ps (pathB ps)))], [])))) := by
  by_cases k1 : (k == 7) = true
  · refine iteRP k1 ?_
    by_cases k2 : (mayV (Val.mk kx nx sx isx nsx)) = true
    · refine iteRP k2 ?_
      by_cases k3 : ((chkV (Val.mk k n s is ns) ps (pathB ps)) == 0) = true
      · refine iteRP k3 ?_
        by_cases k4 : (bY) = true
        · refine iteRP k4 ?_
          exact
            runO_sound (N := 100) (os := [(8, .b true), (1, .b true), (0, oC (w1 k1)), (0, .b true), (1, .b true), (0, .b false), (2, oC (w2 k1 k2)), (3, .b false), (3, oC (w3 k1 k2 k3)), (8, .b false), (1, oC (w4 k1 k2 k3 k4))]) (ps := [_, _, _, _, _, _, _, _, _, _, _]) (by kernel_rfl) ⟨cI k1, cI k1, (w1 k1), cI k1, cI k1, (cI (notI k2)), (w2 k1 k2), (cI (notI k3)), (w3 k1 k2 k3), (cI (notI k4)), (w4 k1 k2 k3 k4), trivial⟩
        · refine iteRN k4 ?_
          replace k4 := Bool.eq_false_iff.2 k4
          exact
            runO_sound (N := 100) (os := [(8, .b true), (1, .b true), (0, oC (w1 k1)), (0, .b true), (1, .b true), (0, .b false), (2, oC (w2 k1 k2)), (3, .b false), (3, oC (w3 k1 k2 k3)), (8, .b true)]) (ps := [_, _, _, _, _, _, _, _, _, _]) (by kernel_rfl) ⟨cI k1, cI k1, (w1 k1), cI k1, cI k1, (cI (notI k2)), (w2 k1 k2), (cI (notI k3)), (w3 k1 k2 k3), (cI (notI k4)), trivial⟩
      · refine iteRN k3 ?_
        replace k3 := Bool.eq_false_iff.2 k3
        exact
          runO_sound (N := 100) (os := [(8, .b true), (1, .b true), (0, oC (w1 k1)), (0, .b true), (1, .b true), (0, .b false), (2, oC (w2 k1 k2)), (3, .b true)]) (ps := [_, _, _, _, _, _, _, _]) (by kernel_rfl) ⟨cI k1, cI k1, (w1 k1), cI k1, cI k1, (cI (notI k2)), (w2 k1 k2), (cI (notI k3)), trivial⟩
    · refine iteRN k2 ?_
      replace k2 := Bool.eq_false_iff.2 k2
      exact
        runO_sound (N := 100) (os := [(8, .b true), (1, .b true), (0, oC (w1 k1)), (0, .b true), (1, .b true), (0, .b true)]) (ps := [_, _, _, _, _, _]) (by kernel_rfl) ⟨cI k1, cI k1, (w1 k1), cI k1, cI k1, (cI (notI k2)), trivial⟩
  · refine iteRN k1 ?_
    replace k1 := Bool.eq_false_iff.2 k1
    by_cases k2 : ((chkV (Val.mk k n s is ns) ps (pathB ps)) == 0) = true
    · refine iteRP k2 ?_
      by_cases k3 : (bY) = true
      · refine iteRP k3 ?_
        exact
          runO_sound (N := 100) (os := [(8, .b false), (0, .b false), (0, .b false), (0, .b false), (3, oC (w5 k1)), (3, .b false), (3, oC (w6 k1 k2)), (8, .b false), (1, oC (w7 k1 k2 k3))]) (ps := [_, _, _, _, _, _, _, _, _]) (by kernel_rfl) ⟨cI k1, cI k1, cI k1, cI k1, (w5 k1), (cI (notI k2)), (w6 k1 k2), (cI (notI k3)), (w7 k1 k2 k3), trivial⟩
      · refine iteRN k3 ?_
        replace k3 := Bool.eq_false_iff.2 k3
        exact
          runO_sound (N := 100) (os := [(8, .b false), (0, .b false), (0, .b false), (0, .b false), (3, oC (w5 k1)), (3, .b false), (3, oC (w6 k1 k2)), (8, .b true)]) (ps := [_, _, _, _, _, _, _, _]) (by kernel_rfl) ⟨cI k1, cI k1, cI k1, cI k1, (w5 k1), (cI (notI k2)), (w6 k1 k2), (cI (notI k3)), trivial⟩
    · refine iteRN k2 ?_
      replace k2 := Bool.eq_false_iff.2 k2
      exact
        runO_sound (N := 100) (os := [(8, .b false), (0, .b false), (0, .b false), (0, .b false), (3, oC (w5 k1)), (3, .b true)]) (ps := [_, _, _, _, _, _]) (by kernel_rfl) ⟨cI k1, cI k1, cI k1, cI k1, (w5 k1), (cI (notI k2)), trivial⟩
end Go.Proofs.Ytpkmddkodchanaa
