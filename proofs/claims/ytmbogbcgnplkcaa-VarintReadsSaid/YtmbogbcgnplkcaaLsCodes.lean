/- Ways of the functions that put numbers and texts: printed by symex.py. -/
import Derived.Test.YtmbogbcgnplkcaaLsVar
set_option linter.unusedVariables false
namespace Go.Proofs.Ytmbogbcgnplkcaa
open Go Go.LS

theorem zig_p {x : Int} (c1 : (decide (x ≥ 0)) = true) :
    Runs lp 32 [(.p (.int .i64 x))] [] ((.p (.int .u64 (IntKind.wrap .u64 (2 * (IntKind.wrap .u64 x))))), []) :=
  runO_sound (N := 100) (os := [(3, .b true)])
    (ps := [(LV.p (PV.bool (decide (x ≥ 0))) = .p (.bool true))])
    (by kernel_rfl) ⟨(congrArg (fun b => LV.p (PV.bool b)) c1), trivial⟩

theorem zig_n {x : Int} (c1 : (decide (x ≥ 0)) = false) :
    Runs lp 32 [(.p (.int .i64 x))] [] ((.p (.int .u64 (IntKind.wrap .u64 ((IntKind.wrap .u64 (2 * (IntKind.wrap .u64 (IntKind.wrap .i64 (0 - (IntKind.wrap .i64 (x + 1))))))) + 1)))), []) :=
  runO_sound (N := 100) (os := [(3, .b false)])
    (ps := [(LV.p (PV.bool (decide (x ≥ 0))) = .p (.bool false))])
    (by kernel_rfl) ⟨(congrArg (fun b => LV.p (PV.bool b)) c1), trivial⟩

theorem int_fn {x : Int} {k : Nat} (h1 : Runs lp 30 [(.tight []), (.p (.int .u64 (IntKind.wrap .u64 ↑(BitVec.ofInt (IntKind.bits .u64) (IntKind.wrap .u64 ((IntKind.wrap .u64 x) * 2 ^ 1)) ^^^ BitVec.ofInt (IntKind.bits .u64) (IntKind.wrap .u64 (Int.fdiv x (2 ^ 63)))).toNat)))] [] ((.sl (bs (vcode k)) 0 ((vcode k).length)), [.spare 1 ((vcode k).length)])) :
    Runs lp 10 [(.p (.int .i64 x))] [] ((.sl (bs (vcode k)) 0 ((vcode k).length)), [.spare 1 ((vcode k).length)]) :=
  runO_sound (N := 100) (os := [(8, .call (.sl (bs (vcode k)) 0 ((vcode k).length)) [.spare 1 ((vcode k).length)])])
    (ps := [(Runs lp 30 [(.tight []), (.p (.int .u64 (IntKind.wrap .u64 ↑(BitVec.ofInt (IntKind.bits .u64) (IntKind.wrap .u64 ((IntKind.wrap .u64 x) * 2 ^ 1)) ^^^ BitVec.ofInt (IntKind.bits .u64) (IntKind.wrap .u64 (Int.fdiv x (2 ^ 63)))).toNat)))] [] ((.sl (bs (vcode k)) 0 ((vcode k).length)), [.spare 1 ((vcode k).length)]))])
    (by kernel_rfl) ⟨h1, trivial⟩

theorem rint_fn {x z : Int} {k : Nat} (h1 : Runs lp 32 [(.p (.int .i64 x))] [] ((.p (.int .u64 z)), [])) (h2 : Runs lp 31 [(.p (.int .u64 z))] [] ((.sl (bs (vcode k)) 0 ((vcode k).length)), [.spare 1 ((vcode k).length)])) :
    Runs lp 11 [(.p (.int .i64 x))] [] ((.sl (bs (vcode k)) 0 ((vcode k).length)), [.spare 1 ((vcode k).length)]) :=
  runO_sound (N := 100) (os := [(2, .call (.p (.int .u64 z)) []), (0, .call (.sl (bs (vcode k)) 0 ((vcode k).length)) [.spare 1 ((vcode k).length)])])
    (ps := [(Runs lp 32 [(.p (.int .i64 x))] [] ((.p (.int .u64 z)), [])), (Runs lp 31 [(.p (.int .u64 z))] [] ((.sl (bs (vcode k)) 0 ((vcode k).length)), [.spare 1 ((vcode k).length)]))])
    (by kernel_rfl) ⟨h1, h2, trivial⟩

theorem rcount_fn {x : Int} {k : Nat} (h1 : Runs lp 31 [(.p (.int .u64 (IntKind.wrap .u64 x)))] [] ((.sl (bs (vcode k)) 0 ((vcode k).length)), [.spare 1 ((vcode k).length)])) :
    Runs lp 14 [(.p (.int .i64 x))] [] ((.sl (bs (vcode k)) 0 ((vcode k).length)), [.spare 1 ((vcode k).length)]) :=
  runO_sound (N := 100) (os := [(3, .call (.sl (bs (vcode k)) 0 ((vcode k).length)) [.spare 1 ((vcode k).length)])])
    (ps := [(Runs lp 31 [(.p (.int .u64 (IntKind.wrap .u64 x)))] [] ((.sl (bs (vcode k)) 0 ((vcode k).length)), [.spare 1 ((vcode k).length)]))])
    (by kernel_rfl) ⟨h1, trivial⟩

theorem count_hi {x : Int} (c1 : (decide (x < 0)) = false) (c2 : (decide (x > 4611686018427387904)) = true) :
    Runs lp 8 [(.p (.int .i64 x))] [] ((.tup [(.tight []), (.p (.int .i64 1))]), []) :=
  runO_sound (N := 100) (os := [(5, .b false), (1, .b false), (1, .b false), (0, .b true)])
    (ps := [(LV.p (PV.bool (decide (x < 0))) = .p (.bool false)), (LV.p (PV.bool (decide (x < 0))) = .p (.bool false)), (LV.p (PV.bool (decide (x < 0))) = .p (.bool false)), (LV.p (PV.bool (decide (x > 4611686018427387904))) = .p (.bool true))])
    (by kernel_rfl) ⟨(congrArg (fun b => LV.p (PV.bool b)) c1), (congrArg (fun b => LV.p (PV.bool b)) c1), (congrArg (fun b => LV.p (PV.bool b)) c1), (congrArg (fun b => LV.p (PV.bool b)) c2), trivial⟩

theorem count_ok {x : Int} {k : Nat} (c1 : (decide (x < 0)) = false) (c2 : (decide (x > 4611686018427387904)) = false) (h3 : Runs lp 30 [(.tight []), (.p (.int .u64 (IntKind.wrap .u64 x)))] [] ((.sl (bs (vcode k)) 0 ((vcode k).length)), [.spare 1 ((vcode k).length)])) :
    Runs lp 8 [(.p (.int .i64 x))] [] ((.tup [(.sl (bs (vcode k)) 0 ((vcode k).length)), (.p (.int .i64 0))]), [.spare 1 ((vcode k).length)]) :=
  runO_sound (N := 100) (os := [(5, .b false), (1, .b false), (1, .b false), (0, .b false), (2, .call (.sl (bs (vcode k)) 0 ((vcode k).length)) [.spare 1 ((vcode k).length)])])
    (ps := [(LV.p (PV.bool (decide (x < 0))) = .p (.bool false)), (LV.p (PV.bool (decide (x < 0))) = .p (.bool false)), (LV.p (PV.bool (decide (x < 0))) = .p (.bool false)), (LV.p (PV.bool (decide (x > 4611686018427387904))) = .p (.bool false)), (Runs lp 30 [(.tight []), (.p (.int .u64 (IntKind.wrap .u64 x)))] [] ((.sl (bs (vcode k)) 0 ((vcode k).length)), [.spare 1 ((vcode k).length)]))])
    (by kernel_rfl) ⟨(congrArg (fun b => LV.p (PV.bool b)) c1), (congrArg (fun b => LV.p (PV.bool b)) c1), (congrArg (fun b => LV.p (PV.bool b)) c1), (congrArg (fun b => LV.p (PV.bool b)) c2), h3, trivial⟩

theorem count_lo {x : Int} (c1 : (decide (x < 0)) = true) :
    Runs lp 8 [(.p (.int .i64 x))] [] ((.tup [(.tight []), (.p (.int .i64 1))]), []) :=
  runO_sound (N := 100) (os := [(5, .b true), (0, .b true), (0, .b true)])
    (ps := [(LV.p (PV.bool (decide (x < 0))) = .p (.bool true)), (LV.p (PV.bool (decide (x < 0))) = .p (.bool true)), (LV.p (PV.bool (decide (x < 0))) = .p (.bool true))])
    (by kernel_rfl) ⟨(congrArg (fun b => LV.p (PV.bool b)) c1), (congrArg (fun b => LV.p (PV.bool b)) c1), (congrArg (fun b => LV.p (PV.bool b)) c1), trivial⟩

theorem text_fn {s : List UInt8} {k : Nat} (h1 : Runs lp 30 [(.tight []), (.p (.int .u64 (IntKind.wrap .u64 ((List.length s : Nat) : Int))))] [] ((.sl (bs (vcode k)) 0 ((vcode k).length)), [.spare 1 ((vcode k).length)])) (h2 : List.length (α := UInt8) (vcode k) + List.length (α := UInt8) s ≤ 140737488355328) :
    Runs lp 12 [(.p (.str s))] [] ((.sl (bs ((vcode k) ++ s)) 0 (List.length ((vcode k) ++ s))), [.spare 1 (List.length ((vcode k) ++ s))]) :=
  runO_sound (N := 100) (os := [(4, .call (.sl (bs (vcode k)) 0 ((vcode k).length)) [.spare 1 ((vcode k).length)]), (1, .op (.sl (bs ((vcode k) ++ s)) 0 (List.length ((vcode k) ++ s))) [.spare 1 (List.length ((vcode k) ++ s))])])
    (ps := [(Runs lp 30 [(.tight []), (.p (.int .u64 (IntKind.wrap .u64 ((List.length s : Nat) : Int))))] [] ((.sl (bs (vcode k)) 0 ((vcode k).length)), [.spare 1 ((vcode k).length)])), (opStep noCall [] [.spare 1 ((vcode k).length)] (.append true 1 1 (.const (.sl (bs (vcode k)) 0 ((vcode k).length))) (.const (.p (.str s)))) = some ((.sl (bs ((vcode k) ++ s)) 0 (List.length ((vcode k) ++ s))), [.spare 1 (List.length ((vcode k) ++ s))]))])
    (by kernel_rfl) ⟨h1, (opIs_appS rfl rfl rfl h2), trivial⟩

theorem rtext_fn {s : List UInt8} {k : Nat} (h1 : Runs lp 14 [(.p (.int .i64 ((List.length s : Nat) : Int)))] [] ((.sl (bs (vcode k)) 0 ((vcode k).length)), [.spare 1 ((vcode k).length)])) (h2 : opStep noCall [] [.spare 1 ((vcode k).length)] (.cv .s2b (.const (.p (.str s)))) = some ((.p (.sl (bs s))), [.spare 1 ((vcode k).length)])) (h3 : List.length (α := UInt8) (vcode k) + List.length (α := UInt8) s ≤ 140737488355328) :
    Runs lp 13 [(.p (.str s))] [] ((.sl (bs ((vcode k) ++ s)) 0 (List.length ((vcode k) ++ s))), [.spare 1 (List.length ((vcode k) ++ s))]) :=
  runO_sound (N := 100) (os := [(3, .call (.sl (bs (vcode k)) 0 ((vcode k).length)) [.spare 1 ((vcode k).length)]), (1, .op (.p (.sl (bs s))) [.spare 1 ((vcode k).length)]), (0, .op (.sl (bs ((vcode k) ++ s)) 0 (List.length ((vcode k) ++ s))) [.spare 1 (List.length ((vcode k) ++ s))])])
    (ps := [(Runs lp 14 [(.p (.int .i64 ((List.length s : Nat) : Int)))] [] ((.sl (bs (vcode k)) 0 ((vcode k).length)), [.spare 1 ((vcode k).length)])), (opStep noCall [] [.spare 1 ((vcode k).length)] (.cv .s2b (.const (.p (.str s)))) = some ((.p (.sl (bs s))), [.spare 1 ((vcode k).length)])), (opStep noCall [] [.spare 1 ((vcode k).length)] (.append false 1 1 (.const (.sl (bs (vcode k)) 0 ((vcode k).length))) (.const (.p (.sl (bs s))))) = some ((.sl (bs ((vcode k) ++ s)) 0 (List.length ((vcode k) ++ s))), [.spare 1 (List.length ((vcode k) ++ s))]))])
    (by kernel_rfl) ⟨h1, h2, (opIs_appS rfl rfl rfl h3), trivial⟩

end Go.Proofs.Ytmbogbcgnplkcaa
