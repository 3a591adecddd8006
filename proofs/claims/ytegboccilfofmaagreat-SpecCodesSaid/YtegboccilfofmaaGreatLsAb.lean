/- Short words. -/
import Derived.Test.YtegboccilfofmaaGreatLsG5
set_option linter.unusedVariables false
namespace Go.Proofs.YtegboccilfofmaaGreat
open Go Go.LS
abbrev pI (n : Int) : LV := .p (.int .i64 n)
abbrev pB (b : Bool) : LV := .p (.bool b)
abbrev pT (s : List UInt8) : LV := .p (.str s)
abbrev pS (s : List UInt8) : LV := .p (.sl (bs s))
abbrev pN (l : List (List UInt8)) : LV := .p (.sl (Aa l))
abbrev pV (l : List Val) : LV := .p (.sl (Ac l))
abbrev pO (l : List OpS) : LV := .p (.sl (Ai l))
abbrev BY := List UInt8
abbrev BL := List (List UInt8)
abbrev RL := C1 × List LV × List LObj
abbrev P00 : LV := .ptr 0 0 0
abbrev P10 : LV := .ptr 1 0 0
abbrev OpE (S : List LObj) (o : LOp) (v : LV) : Prop := OpW S o v S
theorem rO {lp : Bp} {f : FuncId} {args : List LV} {st st' : List LObj} {v : LV} (os : LS.Os) (ps : List Prop) (h : runO lp 100 f args st os = some (v, st', ps)) (hp : Conj ps) : Runs lp f args st (v, st') := C9 h hp
theorem lO {lp : Bp} {k : Nat} {mask : List Bool} {c : Bm} {t t' : List LV} {st st' : List LObj} {r : C1 × List LV × List LObj} (os : LS.Os) (ps : List Prop) (h : Ku lp 100 k mask c t st os = some (.normal, t', st', ps)) (hp : Conj ps) (hr : LoopAt lp k mask c t' st' r) : LoopAt lp k mask c t st r := LoopAt.on h hp hr
abbrev lX {lp : Bp} {k : Nat} {mask : List Bool} {c : Bm} {t t' : List LV} {st st' : List LObj} {o : C1} (os : LS.Os) (ps : List Prop) := @LoopAt.out lp 100 k mask c t t' st st' os ps o
abbrev aR0 (is : List Val) (k : Int) (n : Int) (ns : List (List UInt8)) (ops : List OpS) (rb : Bool) (s : List UInt8) : List LV := [pB rb, pI k, pI n, pT s, pV is, pN ns, pO ops]
abbrev aR1 : List LObj := [.row [[pI 1, (.rs 1 0 1), pI 3, pI 1, pT [], (.tight []), (.tight []), (.tight [])], [pI 6, (.rs 2 0 1), pI 0, pI 0, pT [], (.tight []), (.tight []), (.rs 3 0 2)]], .row [[(pT [97])]], .row [[(pT [98])]], .row [[(pT [99])], [(pT [100])]]]
abbrev aR2 (is : List Val) (k : Int) (n : Int) (ns : List (List UInt8)) (s : List UInt8) : List LV := [pI k, pI n, pT s, pV is, pN ns]
abbrev aR3 : List (List LV) := [[pI 0, pI 0, pT [], .tight [], .tight []]]
abbrev aR4 : List (List LV) := [[pB false, pI 0, pI 0, pT [], .tight [], .tight [], .tight []]]
abbrev aR5 : List (List LV) := [[pI 0, .tight [], pI 0, pI 0, pT [], .tight [], .tight [], .tight []]]
abbrev aR6 (oke : Int) (pse : List (List UInt8)) (tse : List (List UInt8)) (vie : List Val) (vke : Int) (vne : Int) (vnse : List (List UInt8)) (vse : List UInt8) : List LV := [pI oke, pN pse, pI vke, pI vne, pT vse, pV vie, pN vnse, pN tse]
abbrev aR7 (L : List UInt8) : List LObj := [.row [[pS L, pB false]]]
abbrev aR8 (x : List UInt8 × Bool) : List LObj := [.row [[pS x.1, pB x.2]]]
abbrev aR9 (is : List Val) (isp : List Val) (k : Int) (kp : Int) (n : Int) (np : Int) (ns : List (List UInt8)) (nsp : List (List UInt8)) (s : List UInt8) (sp : List UInt8) : List LObj := [.row [(aR2 is k n ns s)], .row [[pI kp, pI np, pT sp, pV isp, pN nsp]]]
abbrev aR10 (es : List Val) (k : Int) (ms : List (List UInt8)) (x : List UInt8 × Bool) : List LObj := [.row [[pS x.1, pB x.2]], .row [[pI k, pI 0, pT [], .sl (Ac es) 2 (List.length (Ac es)), .sl (Aa ms) 3 (List.length (Aa ms))]], .spare 5 (List.length (Ac es)), .spare 1 (List.length (Aa ms)), .row aR3]
abbrev B1 (L : List UInt8) : List LObj := [.row [[pS L, pB true]]]
abbrev Cd (x2 : List UInt8 × Bool) : List LObj := [.row [[pS x2.1, pB x2.2]]]
abbrev Bh (L : List UInt8) (bad : Bool) : List LObj := [.row [[pS L, pB bad]]]
abbrev aR14 : List LObj := [.row [[pI 1, (.rs 1 0 1), pI 3, pI 1, pT [], (.tight []), (.tight []), (.tight [])], [pI 6, (.rs 2 0 1), pI 0, pI 0, pT [], (.tight []), (.tight []), (.tight [[(.str [97])], [(.str [120])]])]], .row [[(pT [97])]], .row [[(pT [98])]]]
abbrev N7 (l : List OpS) : List (List LV) := [[pB false, pI 0, pI 0, pT [], .tight [], .tight [], .sl (Ai l) 3 (List.length (Ai l))]]
end Go.Proofs.YtegboccilfofmaaGreat
