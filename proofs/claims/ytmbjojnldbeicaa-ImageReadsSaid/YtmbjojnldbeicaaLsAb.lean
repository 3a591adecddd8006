/- Short words. -/
import Derived.Test.YtmbjojnldbeicaaLsG5
set_option linter.unusedVariables false
namespace Go.Proofs.Ytmbjojnldbeicaa
open Go Go.LS
abbrev pI (n : Int) : LV := .p (.int .i64 n)
abbrev pB (b : Bool) : LV := .p (.bool b)
abbrev pT (s : List UInt8) : LV := .p (.str s)
abbrev pS (s : List UInt8) : LV := .p (.sl (bs s))
abbrev pN (l : List (List UInt8)) : LV := .p (.sl (Af l))
abbrev pV (l : List Val) : LV := .p (.sl (Ad l))
abbrev BY := List UInt8
abbrev BL := List (List UInt8)
abbrev RL := Cy × List LV × List LObj
abbrev P00 : LV := .ptr 0 0 0
abbrev P10 : LV := .ptr 1 0 0
abbrev OpE (S : List LObj) (o : LOp) (v : LV) : Prop := OpW S o v S
theorem rO {lp : Bo} {f : FuncId} {args : List LV} {st st' : List LObj} {v : LV} (os : LS.Os) (ps : List Prop) (h : runO lp 100 f args st os = some (v, st', ps)) (hp : Conj ps) : Runs lp f args st (v, st') := C5 h hp
theorem lO {lp : Bo} {k : Nat} {mask : List Bool} {c : Bq} {t t' : List LV} {st st' : List LObj} {r : Cy × List LV × List LObj} (os : LS.Os) (ps : List Prop) (h : J7 lp 100 k mask c t st os = some (.normal, t', st', ps)) (hp : Conj ps) (hr : LoopAt lp k mask c t' st' r) : LoopAt lp k mask c t st r := LoopAt.on h hp hr
abbrev lX {lp : Bo} {k : Nat} {mask : List Bool} {c : Bq} {t t' : List LV} {st st' : List LObj} {o : Cy} (os : LS.Os) (ps : List Prop) := @LoopAt.out lp 100 k mask c t t' st st' os ps o
abbrev aR0 : List (List LV) := [[pI 0, pI 0, pT [], .tight [], .tight []]]
abbrev aR1 : List LV := [pB false, pI 0, pI 0, pT [], .tight [], .tight []]
abbrev aR2 (L : List UInt8) : List LObj := [.row [[pS L, pB false]]]
abbrev aR3 (L : List UInt8) (bad : Bool) : List LObj := [.row [[pS L, pB bad]]]
abbrev aR4 (is : List Val) (k : Int) (n : Int) (ns : List (List UInt8)) (s : List UInt8) : List LV := [pI k, pI n, pT s, pV is, pN ns]
abbrev aR5 (L : List UInt8) : List LObj := [.row [[pS L, pB true]]]
abbrev aR6 (k : Int) : List (List LV) := [[pI k, pI 0, pT [], .tight [], .tight []]]
abbrev aR7 (is : List Val) (isp : List Val) (k : Int) (kp : Int) (n : Int) (np : Int) (ns : List (List UInt8)) (nsp : List (List UInt8)) (s : List UInt8) (sp : List UInt8) : List LObj := [.row [(aR4 is k n ns s)], .row [[pI kp, pI np, pT sp, pV isp, pN nsp]]]
abbrev aR8 (es : List Val) (k : Int) (ms : List (List UInt8)) (x : List UInt8 × Bool) : List LObj := [.row [[pS x.1, pB x.2]], .row [[pI k, pI 0, pT [], .sl (Ad es) 2 (List.length (Ad es)), .sl (Af ms) 3 (List.length (Af ms))]], .spare 5 (List.length (Ad es)), .spare 1 (List.length (Af ms)), .row aR0]
abbrev aR9 (es : List Val) (k : Int) (ms : List (List UInt8)) (x : List UInt8 × Bool) : List LObj := [.row [[pS x.1, pB x.2]], .row aR0, .row [[pI k, pI 0, pT [], .sl (Ad es) 3 (List.length (Ad es)), .sl (Af ms) 4 (List.length (Af ms))]], .spare 5 (List.length (Ad es)), .spare 1 (List.length (Af ms))]
abbrev Eb : List LV := [pI 0, pI 0, pT [], .p (.sl []), .p (.sl [])]
abbrev Ca (x : List UInt8 × Bool) : List LObj := [.row [[pS x.1, pB x.2]]]
end Go.Proofs.Ytmbjojnldbeicaa
