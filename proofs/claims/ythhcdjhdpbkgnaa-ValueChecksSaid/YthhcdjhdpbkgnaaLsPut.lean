/- Ways and rounds of the functions that put numbers: printed by put.py. -/
import Derived.Test.YthhcdjhdpbkgnaaLsF
import Derived.Test.YthhcdjhdpbkgnaaLsG5
set_option linter.unusedVariables false
set_option maxRecDepth 100000
namespace Go.Proofs.Ythhcdjhdpbkgnaa
open Go Go.LS

theorem put_on {L : List UInt8} {u : Int} (c1 : (decide (u ≥ 128)) = true) (h2 : List.length (α := UInt8) L + List.length (α := UInt8) [UInt8.ofNat (Int.toNat (IntKind.wrap .u8 ↑(BitVec.ofInt (IntKind.bits .u8) (IntKind.wrap .u8 u) ||| BitVec.ofInt (IntKind.bits .u8) 128).toNat))] ≤ 200000000000000) {r : LOut × List LV × List LObj} (hr : LoopN lp 0 (loopNo lf61 0) (tl 0 20 [(0, (.sl (bs (L ++ [UInt8.ofNat (Int.toNat (IntKind.wrap .u8 ↑(BitVec.ofInt (IntKind.bits .u8) (IntKind.wrap .u8 u) ||| BitVec.ofInt (IntKind.bits .u8) 128).toNat))])) 0 (List.length (L ++ [UInt8.ofNat (Int.toNat (IntKind.wrap .u8 ↑(BitVec.ofInt (IntKind.bits .u8) (IntKind.wrap .u8 u) ||| BitVec.ofInt (IntKind.bits .u8) 128).toNat))])))), (1, (.p (.int .u64 (Int.fdiv u (2 ^ 7)))))]) [.spare 1 (List.length (L ++ [UInt8.ofNat (Int.toNat (IntKind.wrap .u8 ↑(BitVec.ofInt (IntKind.bits .u8) (IntKind.wrap .u8 u) ||| BitVec.ofInt (IntKind.bits .u8) 128).toNat))]))] r) :
    LoopN lp 0 (loopNo lf61 0) (tl 0 20 [(0, (.sl (bs L) 0 L.length)), (1, (.p (.int .u64 u)))]) [.spare 1 L.length] r :=
  have q1 : OpW [.spare 1 L.length] (.append false 1 1 (.const (.sl (bs L) 0 L.length)) (.const (.tight [[(.int .u8 (IntKind.wrap .u8 ↑(BitVec.ofInt (IntKind.bits .u8) (IntKind.wrap .u8 u) ||| BitVec.ofInt (IntKind.bits .u8) 128).toNat))]]))) (.sl (bs (L ++ [UInt8.ofNat (Int.toNat (IntKind.wrap .u8 ↑(BitVec.ofInt (IntKind.bits .u8) (IntKind.wrap .u8 u) ||| BitVec.ofInt (IntKind.bits .u8) 128).toNat))])) 0 (List.length (L ++ [UInt8.ofNat (Int.toNat (IntKind.wrap .u8 ↑(BitVec.ofInt (IntKind.bits .u8) (IntKind.wrap .u8 u) ||| BitVec.ofInt (IntKind.bits .u8) 128).toNat))]))) [.spare 1 (List.length (L ++ [UInt8.ofNat (Int.toNat (IntKind.wrap .u8 ↑(BitVec.ofInt (IntKind.bits .u8) (IntKind.wrap .u8 u) ||| BitVec.ofInt (IntKind.bits .u8) 128).toNat))]))] := (opIs_appS rfl rfl (wrap_u8_bs _) h2)
  LoopAt.on (N := 100) (os := [(2, .b true), (5, oO q1)]) (ps := [_, _]) (by kernel_rfl) ⟨(cI c1), q1, trivial⟩ hr

theorem put_out {L : List UInt8} {u : Int} (c1 : (decide (u ≥ 128)) = false) :
    LoopN lp 0 (loopNo lf61 0) (tl 0 20 [(0, (.sl (bs L) 0 L.length)), (1, (.p (.int .u64 u)))]) [.spare 1 L.length] ((.exit 0), (tl 0 20 [(0, (.sl (bs L) 0 L.length)), (1, (.p (.int .u64 u)))]), [.spare 1 L.length]) :=
  LoopAt.out (N := 100) (os := [(2, .b false)]) (ps := [_]) (by kernel_rfl) (by kernel_rfl) ⟨(cI c1), trivial⟩

theorem put_fn {L : List UInt8} {u w : Int} (h1 : LoopN lp 0 (loopNo lf61 0) (tl 0 20 [(0, (.tight [])), (1, (.p (.int .u64 u)))]) [] ((.exit 0), (tl 0 20 [(0, (.sl (bs L) 0 L.length)), (1, (.p (.int .u64 w)))]), [.spare 1 L.length])) (h2 : List.length (α := UInt8) L + List.length (α := UInt8) [UInt8.ofNat (Int.toNat (IntKind.wrap .u8 w))] ≤ 200000000000000) :
    Runs lp 61 [(.tight []), (.p (.int .u64 u))] [] ((.sl (bs (L ++ [UInt8.ofNat (Int.toNat (IntKind.wrap .u8 w))])) 0 (List.length (L ++ [UInt8.ofNat (Int.toNat (IntKind.wrap .u8 w))]))), [.spare 1 (List.length (L ++ [UInt8.ofNat (Int.toNat (IntKind.wrap .u8 w))]))]) :=
  have q1 : OpW [.spare 1 L.length] (.append false 1 1 (.const (.sl (bs L) 0 L.length)) (.const (.tight [[(.int .u8 (IntKind.wrap .u8 w))]]))) (.sl (bs (L ++ [UInt8.ofNat (Int.toNat (IntKind.wrap .u8 w))])) 0 (List.length (L ++ [UInt8.ofNat (Int.toNat (IntKind.wrap .u8 w))]))) [.spare 1 (List.length (L ++ [UInt8.ofNat (Int.toNat (IntKind.wrap .u8 w))]))] := (opIs_appS rfl rfl (wrap_u8_bs _) h2)
  runO_sound (N := 100) (os := [(1, oL h1), (4, oO q1)]) (ps := [_, _]) (by kernel_rfl) ⟨h1, q1, trivial⟩

theorem put_on0 {u : Int} (c1 : (decide (u ≥ 128)) = true) (h2 : List.length (α := UInt8) [] + List.length (α := UInt8) [UInt8.ofNat (Int.toNat (IntKind.wrap .u8 ↑(BitVec.ofInt (IntKind.bits .u8) (IntKind.wrap .u8 u) ||| BitVec.ofInt (IntKind.bits .u8) 128).toNat))] ≤ 200000000000000) {r : LOut × List LV × List LObj} (hr : LoopN lp 0 (loopNo lf61 0) (tl 0 20 [(0, (.sl (bs (([] : List UInt8) ++ [UInt8.ofNat (Int.toNat (IntKind.wrap .u8 ↑(BitVec.ofInt (IntKind.bits .u8) (IntKind.wrap .u8 u) ||| BitVec.ofInt (IntKind.bits .u8) 128).toNat))])) 0 (List.length (([] : List UInt8) ++ [UInt8.ofNat (Int.toNat (IntKind.wrap .u8 ↑(BitVec.ofInt (IntKind.bits .u8) (IntKind.wrap .u8 u) ||| BitVec.ofInt (IntKind.bits .u8) 128).toNat))])))), (1, (.p (.int .u64 (Int.fdiv u (2 ^ 7)))))]) [.spare 1 (List.length (([] : List UInt8) ++ [UInt8.ofNat (Int.toNat (IntKind.wrap .u8 ↑(BitVec.ofInt (IntKind.bits .u8) (IntKind.wrap .u8 u) ||| BitVec.ofInt (IntKind.bits .u8) 128).toNat))]))] r) :
    LoopN lp 0 (loopNo lf61 0) (tl 0 20 [(0, (.tight [])), (1, (.p (.int .u64 u)))]) [] r :=
  have q1 : OpW [] (.append false 1 1 (.const (.tight [])) (.const (.tight [[(.int .u8 (IntKind.wrap .u8 ↑(BitVec.ofInt (IntKind.bits .u8) (IntKind.wrap .u8 u) ||| BitVec.ofInt (IntKind.bits .u8) 128).toNat))]]))) (.sl (bs (([] : List UInt8) ++ [UInt8.ofNat (Int.toNat (IntKind.wrap .u8 ↑(BitVec.ofInt (IntKind.bits .u8) (IntKind.wrap .u8 u) ||| BitVec.ofInt (IntKind.bits .u8) 128).toNat))])) 0 (List.length (([] : List UInt8) ++ [UInt8.ofNat (Int.toNat (IntKind.wrap .u8 ↑(BitVec.ofInt (IntKind.bits .u8) (IntKind.wrap .u8 u) ||| BitVec.ofInt (IntKind.bits .u8) 128).toNat))]))) [.spare 1 (List.length (([] : List UInt8) ++ [UInt8.ofNat (Int.toNat (IntKind.wrap .u8 ↑(BitVec.ofInt (IntKind.bits .u8) (IntKind.wrap .u8 u) ||| BitVec.ofInt (IntKind.bits .u8) 128).toNat))]))] := (opIs_appT rfl rfl (wrap_u8_bs _) (by simp) h2)
  LoopAt.on (N := 100) (os := [(2, .b true), (5, oO q1)]) (ps := [_, _]) (by kernel_rfl) ⟨(cI c1), q1, trivial⟩ hr

theorem put_out0 {u : Int} (c1 : (decide (u ≥ 128)) = false) :
    LoopN lp 0 (loopNo lf61 0) (tl 0 20 [(0, (.tight [])), (1, (.p (.int .u64 u)))]) [] ((.exit 0), (tl 0 20 [(0, (.tight [])), (1, (.p (.int .u64 u)))]), []) :=
  LoopAt.out (N := 100) (os := [(2, .b false)]) (ps := [_]) (by kernel_rfl) (by kernel_rfl) ⟨(cI c1), trivial⟩

theorem put_fn0 {u w : Int} (h1 : LoopN lp 0 (loopNo lf61 0) (tl 0 20 [(0, (.tight [])), (1, (.p (.int .u64 u)))]) [] ((.exit 0), (tl 0 20 [(0, (.tight [])), (1, (.p (.int .u64 w)))]), [])) (h2 : List.length (α := UInt8) [] + List.length (α := UInt8) [UInt8.ofNat (Int.toNat (IntKind.wrap .u8 w))] ≤ 200000000000000) :
    Runs lp 61 [(.tight []), (.p (.int .u64 u))] [] ((.sl (bs (([] : List UInt8) ++ [UInt8.ofNat (Int.toNat (IntKind.wrap .u8 w))])) 0 (List.length (([] : List UInt8) ++ [UInt8.ofNat (Int.toNat (IntKind.wrap .u8 w))]))), [.spare 1 (List.length (([] : List UInt8) ++ [UInt8.ofNat (Int.toNat (IntKind.wrap .u8 w))]))]) :=
  have q1 : OpW [] (.append false 1 1 (.const (.tight [])) (.const (.tight [[(.int .u8 (IntKind.wrap .u8 w))]]))) (.sl (bs (([] : List UInt8) ++ [UInt8.ofNat (Int.toNat (IntKind.wrap .u8 w))])) 0 (List.length (([] : List UInt8) ++ [UInt8.ofNat (Int.toNat (IntKind.wrap .u8 w))]))) [.spare 1 (List.length (([] : List UInt8) ++ [UInt8.ofNat (Int.toNat (IntKind.wrap .u8 w))]))] := (opIs_appT rfl rfl (wrap_u8_bs _) (by simp) h2)
  runO_sound (N := 100) (os := [(1, oL h1), (4, oO q1)]) (ps := [_, _]) (by kernel_rfl) ⟨h1, q1, trivial⟩

theorem grp_on {L : List UInt8} {u : Int} (c1 : (decide (u ≥ 128)) = true) (h2 : List.length (α := UInt8) L + List.length (α := UInt8) [UInt8.ofNat (Int.toNat (IntKind.wrap .u8 ((IntKind.wrap .u8 (Int.tmod u 128)) + 128)))] ≤ 200000000000000) {r : LOut × List LV × List LObj} (hr : LoopN lp 0 (loopNo lf48 0) (tl 0 20 [(0, (.p (.int .u64 (IntKind.wrap .u64 (Int.tdiv u 128))))), (3, (.sl (bs (L ++ [UInt8.ofNat (Int.toNat (IntKind.wrap .u8 ((IntKind.wrap .u8 (Int.tmod u 128)) + 128)))])) 0 (List.length (L ++ [UInt8.ofNat (Int.toNat (IntKind.wrap .u8 ((IntKind.wrap .u8 (Int.tmod u 128)) + 128)))]))))]) [.spare 1 (List.length (L ++ [UInt8.ofNat (Int.toNat (IntKind.wrap .u8 ((IntKind.wrap .u8 (Int.tmod u 128)) + 128)))]))] r) :
    LoopN lp 0 (loopNo lf48 0) (tl 0 20 [(0, (.p (.int .u64 u))), (3, (.sl (bs L) 0 L.length))]) [.spare 1 L.length] r :=
  have q1 : OpW [.spare 1 L.length] (.append false 1 1 (.const (.sl (bs L) 0 L.length)) (.const (.tight [[(.int .u8 (IntKind.wrap .u8 ((IntKind.wrap .u8 (Int.tmod u 128)) + 128)))]]))) (.sl (bs (L ++ [UInt8.ofNat (Int.toNat (IntKind.wrap .u8 ((IntKind.wrap .u8 (Int.tmod u 128)) + 128)))])) 0 (List.length (L ++ [UInt8.ofNat (Int.toNat (IntKind.wrap .u8 ((IntKind.wrap .u8 (Int.tmod u 128)) + 128)))]))) [.spare 1 (List.length (L ++ [UInt8.ofNat (Int.toNat (IntKind.wrap .u8 ((IntKind.wrap .u8 (Int.tmod u 128)) + 128)))]))] := (opIs_appS rfl rfl (wrap_u8_bs _) h2)
  LoopAt.on (N := 100) (os := [(2, .b true), (6, oO q1)]) (ps := [_, _]) (by kernel_rfl) ⟨(cI c1), q1, trivial⟩ hr

theorem grp_out {L : List UInt8} {u : Int} (c1 : (decide (u ≥ 128)) = false) :
    LoopN lp 0 (loopNo lf48 0) (tl 0 20 [(0, (.p (.int .u64 u))), (3, (.sl (bs L) 0 L.length))]) [.spare 1 L.length] ((.exit 0), (tl 0 20 [(0, (.p (.int .u64 u))), (3, (.sl (bs L) 0 L.length))]), [.spare 1 L.length]) :=
  LoopAt.out (N := 100) (os := [(2, .b false)]) (ps := [_]) (by kernel_rfl) (by kernel_rfl) ⟨(cI c1), trivial⟩

theorem grp_fn {L : List UInt8} {u w : Int} (h1 : LoopN lp 0 (loopNo lf48 0) (tl 0 20 [(0, (.p (.int .u64 u))), (3, (.tight []))]) [] ((.exit 0), (tl 0 20 [(0, (.p (.int .u64 w))), (3, (.sl (bs L) 0 L.length))]), [.spare 1 L.length])) (h2 : List.length (α := UInt8) L + List.length (α := UInt8) [UInt8.ofNat (Int.toNat (IntKind.wrap .u8 w))] ≤ 200000000000000) :
    Runs lp 48 [(.p (.int .u64 u))] [] ((.sl (bs (L ++ [UInt8.ofNat (Int.toNat (IntKind.wrap .u8 w))])) 0 (List.length (L ++ [UInt8.ofNat (Int.toNat (IntKind.wrap .u8 w))]))), [.spare 1 (List.length (L ++ [UInt8.ofNat (Int.toNat (IntKind.wrap .u8 w))]))]) :=
  have q1 : OpW [.spare 1 L.length] (.append false 1 1 (.const (.sl (bs L) 0 L.length)) (.const (.tight [[(.int .u8 (IntKind.wrap .u8 w))]]))) (.sl (bs (L ++ [UInt8.ofNat (Int.toNat (IntKind.wrap .u8 w))])) 0 (List.length (L ++ [UInt8.ofNat (Int.toNat (IntKind.wrap .u8 w))]))) [.spare 1 (List.length (L ++ [UInt8.ofNat (Int.toNat (IntKind.wrap .u8 w))]))] := (opIs_appS rfl rfl (wrap_u8_bs _) h2)
  runO_sound (N := 100) (os := [(2, oL h1), (4, oO q1)]) (ps := [_, _]) (by kernel_rfl) ⟨h1, q1, trivial⟩

theorem grp_on0 {u : Int} (c1 : (decide (u ≥ 128)) = true) (h2 : List.length (α := UInt8) [] + List.length (α := UInt8) [UInt8.ofNat (Int.toNat (IntKind.wrap .u8 ((IntKind.wrap .u8 (Int.tmod u 128)) + 128)))] ≤ 200000000000000) {r : LOut × List LV × List LObj} (hr : LoopN lp 0 (loopNo lf48 0) (tl 0 20 [(0, (.p (.int .u64 (IntKind.wrap .u64 (Int.tdiv u 128))))), (3, (.sl (bs (([] : List UInt8) ++ [UInt8.ofNat (Int.toNat (IntKind.wrap .u8 ((IntKind.wrap .u8 (Int.tmod u 128)) + 128)))])) 0 (List.length (([] : List UInt8) ++ [UInt8.ofNat (Int.toNat (IntKind.wrap .u8 ((IntKind.wrap .u8 (Int.tmod u 128)) + 128)))]))))]) [.spare 1 (List.length (([] : List UInt8) ++ [UInt8.ofNat (Int.toNat (IntKind.wrap .u8 ((IntKind.wrap .u8 (Int.tmod u 128)) + 128)))]))] r) :
    LoopN lp 0 (loopNo lf48 0) (tl 0 20 [(0, (.p (.int .u64 u))), (3, (.tight []))]) [] r :=
  have q1 : OpW [] (.append false 1 1 (.const (.tight [])) (.const (.tight [[(.int .u8 (IntKind.wrap .u8 ((IntKind.wrap .u8 (Int.tmod u 128)) + 128)))]]))) (.sl (bs (([] : List UInt8) ++ [UInt8.ofNat (Int.toNat (IntKind.wrap .u8 ((IntKind.wrap .u8 (Int.tmod u 128)) + 128)))])) 0 (List.length (([] : List UInt8) ++ [UInt8.ofNat (Int.toNat (IntKind.wrap .u8 ((IntKind.wrap .u8 (Int.tmod u 128)) + 128)))]))) [.spare 1 (List.length (([] : List UInt8) ++ [UInt8.ofNat (Int.toNat (IntKind.wrap .u8 ((IntKind.wrap .u8 (Int.tmod u 128)) + 128)))]))] := (opIs_appT rfl rfl (wrap_u8_bs _) (by simp) h2)
  LoopAt.on (N := 100) (os := [(2, .b true), (6, oO q1)]) (ps := [_, _]) (by kernel_rfl) ⟨(cI c1), q1, trivial⟩ hr

theorem grp_out0 {u : Int} (c1 : (decide (u ≥ 128)) = false) :
    LoopN lp 0 (loopNo lf48 0) (tl 0 20 [(0, (.p (.int .u64 u))), (3, (.tight []))]) [] ((.exit 0), (tl 0 20 [(0, (.p (.int .u64 u))), (3, (.tight []))]), []) :=
  LoopAt.out (N := 100) (os := [(2, .b false)]) (ps := [_]) (by kernel_rfl) (by kernel_rfl) ⟨(cI c1), trivial⟩

theorem grp_fn0 {u w : Int} (h1 : LoopN lp 0 (loopNo lf48 0) (tl 0 20 [(0, (.p (.int .u64 u))), (3, (.tight []))]) [] ((.exit 0), (tl 0 20 [(0, (.p (.int .u64 w))), (3, (.tight []))]), [])) (h2 : List.length (α := UInt8) [] + List.length (α := UInt8) [UInt8.ofNat (Int.toNat (IntKind.wrap .u8 w))] ≤ 200000000000000) :
    Runs lp 48 [(.p (.int .u64 u))] [] ((.sl (bs (([] : List UInt8) ++ [UInt8.ofNat (Int.toNat (IntKind.wrap .u8 w))])) 0 (List.length (([] : List UInt8) ++ [UInt8.ofNat (Int.toNat (IntKind.wrap .u8 w))]))), [.spare 1 (List.length (([] : List UInt8) ++ [UInt8.ofNat (Int.toNat (IntKind.wrap .u8 w))]))]) :=
  have q1 : OpW [] (.append false 1 1 (.const (.tight [])) (.const (.tight [[(.int .u8 (IntKind.wrap .u8 w))]]))) (.sl (bs (([] : List UInt8) ++ [UInt8.ofNat (Int.toNat (IntKind.wrap .u8 w))])) 0 (List.length (([] : List UInt8) ++ [UInt8.ofNat (Int.toNat (IntKind.wrap .u8 w))]))) [.spare 1 (List.length (([] : List UInt8) ++ [UInt8.ofNat (Int.toNat (IntKind.wrap .u8 w))]))] := (opIs_appT rfl rfl (wrap_u8_bs _) (by simp) h2)
  runO_sound (N := 100) (os := [(2, oL h1), (4, oO q1)]) (ps := [_, _]) (by kernel_rfl) ⟨h1, q1, trivial⟩

theorem zig_p {x : Int} (c1 : (decide (x ≥ 0)) = true) :
    Runs lp 49 [(.p (.int .i64 x))] [] ((.p (.int .u64 (IntKind.wrap .u64 (2 * (IntKind.wrap .u64 x))))), []) :=
  runO_sound (N := 100) (os := [(3, .b true)]) (ps := [_]) (by kernel_rfl) ⟨(cI c1), trivial⟩

theorem zig_n {x : Int} (c1 : (decide (x ≥ 0)) = false) :
    Runs lp 49 [(.p (.int .i64 x))] [] ((.p (.int .u64 (IntKind.wrap .u64 ((IntKind.wrap .u64 (2 * (IntKind.wrap .u64 (IntKind.wrap .i64 (0 - (IntKind.wrap .i64 (x + 1))))))) + 1)))), []) :=
  runO_sound (N := 100) (os := [(3, .b false)]) (ps := [_]) (by kernel_rfl) ⟨(cI c1), trivial⟩

theorem int_fn {x : Int} {k : Nat} (h1 : Runs lp 61 [(.tight []), (.p (.int .u64 (IntKind.wrap .u64 ↑(BitVec.ofInt (IntKind.bits .u64) (IntKind.wrap .u64 ((IntKind.wrap .u64 x) * 2 ^ 1)) ^^^ BitVec.ofInt (IntKind.bits .u64) (IntKind.wrap .u64 (Int.fdiv x (2 ^ 63)))).toNat)))] [] ((.sl (bs (vcode k)) 0 ((vcode k).length)), [.spare 1 ((vcode k).length)])) :
    Runs lp 51 [(.p (.int .i64 x))] [] ((.sl (bs (vcode k)) 0 ((vcode k).length)), [.spare 1 ((vcode k).length)]) :=
  runO_sound (N := 100) (os := [(8, oC h1)]) (ps := [_]) (by kernel_rfl) ⟨h1, trivial⟩

theorem rint_fn {x z : Int} {k : Nat} (h1 : Runs lp 49 [(.p (.int .i64 x))] [] ((.p (.int .u64 z)), [])) (h2 : Runs lp 48 [(.p (.int .u64 z))] [] ((.sl (bs (vcode k)) 0 ((vcode k).length)), [.spare 1 ((vcode k).length)])) :
    Runs lp 34 [(.p (.int .i64 x))] [] ((.sl (bs (vcode k)) 0 ((vcode k).length)), [.spare 1 ((vcode k).length)]) :=
  runO_sound (N := 100) (os := [(2, oC h1), (0, oC h2)]) (ps := [_, _]) (by kernel_rfl) ⟨h1, h2, trivial⟩

theorem rcount_fn {x : Int} {k : Nat} (h1 : Runs lp 48 [(.p (.int .u64 (IntKind.wrap .u64 x)))] [] ((.sl (bs (vcode k)) 0 ((vcode k).length)), [.spare 1 ((vcode k).length)])) :
    Runs lp 36 [(.p (.int .i64 x))] [] ((.sl (bs (vcode k)) 0 ((vcode k).length)), [.spare 1 ((vcode k).length)]) :=
  runO_sound (N := 100) (os := [(3, oC h1)]) (ps := [_]) (by kernel_rfl) ⟨h1, trivial⟩

theorem count_ok {x : Int} {k : Nat} (c1 : (decide (x < 0)) = false) (c2 : (decide (x > 4611686018427387904)) = false) (h3 : Runs lp 61 [(.tight []), (.p (.int .u64 (IntKind.wrap .u64 x)))] [] ((.sl (bs (vcode k)) 0 ((vcode k).length)), [.spare 1 ((vcode k).length)])) :
    Runs lp 62 [(.p (.int .i64 x))] [] ((.tup [(.sl (bs (vcode k)) 0 ((vcode k).length)), (.p (.int .i64 0))]), [.spare 1 ((vcode k).length)]) :=
  runO_sound (N := 100) (os := [(5, .b false), (1, .b false), (1, .b false), (0, .b false), (2, oC h3)]) (ps := [_, _, _, _, _]) (by kernel_rfl) ⟨(cI c1), (cI c1), (cI c1), (cI c2), h3, trivial⟩

theorem rtext_fn {s : List UInt8} {k : Nat} (h1 : Runs lp 36 [(.p (.int .i64 ((List.length s : Nat) : Int)))] [] ((.sl (bs (vcode k)) 0 ((vcode k).length)), [.spare 1 ((vcode k).length)])) (h2 : OpW [.spare 1 ((vcode k).length)] (.cv .s2b (.const (.p (.str s)))) (.p (.sl (bs s))) [.spare 1 ((vcode k).length)]) (h3 : List.length (α := UInt8) (vcode k) + List.length (α := UInt8) s ≤ 200000000000000) :
    Runs lp 35 [(.p (.str s))] [] ((.sl (bs ((vcode k) ++ s)) 0 (List.length ((vcode k) ++ s))), [.spare 1 (List.length ((vcode k) ++ s))]) :=
  have q1 : OpW [.spare 1 ((vcode k).length)] (.append false 1 1 (.const (.sl (bs (vcode k)) 0 ((vcode k).length))) (.const (.p (.sl (bs s))))) (.sl (bs ((vcode k) ++ s)) 0 (List.length ((vcode k) ++ s))) [.spare 1 (List.length ((vcode k) ++ s))] := (opIs_appS rfl rfl rfl h3)
  runO_sound (N := 100) (os := [(3, oC h1), (1, oO h2), (0, oO q1)]) (ps := [_, _, _]) (by kernel_rfl) ⟨h1, h2, q1, trivial⟩

end Go.Proofs.Ythhcdjhdpbkgnaa
