/- Short words. -/
import Derived.Test.YtegboccilfofmaaGreatLsG5
set_option linter.unusedVariables false
namespace Go.Proofs.YtegboccilfofmaaGreat
open Go Go.LS
abbrev pI (n : Int) : LV := .p (.int .i64 n)
abbrev pB (b : Bool) : LV := .p (.bool b)
abbrev pT (s : List UInt8) : LV := .p (.str s)
abbrev pS (s : List UInt8) : LV := .p (.sl (bs s))
abbrev pN (l : List (List UInt8)) : LV := .p (.sl (Ab l))
abbrev pV (l : List Val) : LV := .p (.sl (Ad l))
abbrev pO (l : List OpS) : LV := .p (.sl (Ap l))
abbrev BY := List UInt8
abbrev BL := List (List UInt8)
abbrev RL := Cr × List LV × List LObj
abbrev P00 : LV := .ptr 0 0 0
abbrev P10 : LV := .ptr 1 0 0
abbrev OpE (S : List LObj) (o : LOp) (v : LV) : Prop := OpW S o v S
theorem rO {lp : Bi} {f : FuncId} {args : List LV} {st st' : List LObj} {v : LV} (os : LS.Os) (ps : List Prop) (h : runO lp 100 f args st os = some (v, st', ps)) (hp : Conj ps) : Runs lp f args st (v, st') := Io h hp
theorem lO {lp : Bi} {k : Nat} {mask : List Bool} {c : Bg} {t t' : List LV} {st st' : List LObj} {r : Cr × List LV × List LObj} (os : LS.Os) (ps : List Prop) (h : Ki lp 100 k mask c t st os = some (.normal, t', st', ps)) (hp : Conj ps) (hr : LoopAt lp k mask c t' st' r) : LoopAt lp k mask c t st r := LoopAt.on h hp hr
abbrev lX {lp : Bi} {k : Nat} {mask : List Bool} {c : Bg} {t t' : List LV} {st st' : List LObj} {o : Cr} (os : LS.Os) (ps : List Prop) := @LoopAt.out lp 100 k mask c t t' st st' os ps o
abbrev aR0 : List LObj := [.row [[pI 1, (.rs 1 0 1), pI 3, pI 1, pT [], (.tight []), (.tight []), (.tight [])], [pI 6, (.rs 2 0 1), pI 0, pI 0, pT [], (.tight []), (.tight []), (.rs 3 0 2)]], .row [[(pT [97])]], .row [[(pT [98])]], .row [[(pT [99])], [(pT [100])]]]
abbrev aR1 : List (List LV) := [[pB false, pI 0, pI 0, pT [], .tight [], .tight [], .tight []]]
abbrev aR2 : List (List LV) := [[pI 0, pI 0, pT [], .tight [], .tight []]]
abbrev aR3 (is : List Val) (k : Int) (n : Int) (ns : List (List UInt8)) (ops : List OpS) (rb : Bool) (s : List UInt8) : List LV := [pB rb, pI k, pI n, pT s, pV is, pN ns, pO ops]
abbrev aR4 (l : List OpS) : List (List LV) := [[pB false, pI 0, pI 0, pT [], .tight [], .tight [], .sl (Ap l) 3 (List.length (Ap l))]]
abbrev aR5 (x : List UInt8 × Bool) : List LObj := [.row [[pS x.1, pB x.2]]]
abbrev aR6 : List (List LV) := [[pI 0, .tight [], pI 0, pI 0, pT [], .tight [], .tight [], .tight []]]
abbrev aR7 (is : List Val) (k : Int) (n : Int) (ns : List (List UInt8)) (s : List UInt8) : List LV := [pI k, pI n, pT s, pV is, pN ns]
abbrev aR8 (L : List UInt8) : List LObj := [.row [[pS L, pB false]]]
abbrev aR9 (L : List UInt8) (bad : Bool) : List LObj := [.row [[pS L, pB bad]]]
abbrev Bf (x2 : List UInt8 × Bool) : List LObj := [.row [[pS x2.1, pB x2.2]]]
abbrev Be (L : List UInt8) : List LObj := [.row [[pS L, pB true]]]
abbrev E9 : List LV := [pB false, pI 0, pI 0, pT [], .p (.sl []), .p (.sl []), .p (.sl [])]
abbrev Db (k : Int) : List (List LV) := [[pI k, pI 0, pT [], .tight [], .tight []]]
abbrev Zu (es : List Val) (k : Int) (ms : List (List UInt8)) (x : List UInt8 × Bool) : List LObj := [.row [[pS x.1, pB x.2]], .row [[pI k, pI 0, pT [], .sl (Ad es) 2 (List.length (Ad es)), .sl (Ab ms) 3 (List.length (Ab ms))]], .spare 5 (List.length (Ad es)), .spare 1 (List.length (Ab ms)), .row aR2]
abbrev Zv (es : List Val) (k : Int) (ms : List (List UInt8)) (x : List UInt8 × Bool) : List LObj := [.row [[pS x.1, pB x.2]], .row aR2, .row [[pI k, pI 0, pT [], .sl (Ad es) 3 (List.length (Ad es)), .sl (Ab ms) 4 (List.length (Ab ms))]], .spare 5 (List.length (Ad es)), .spare 1 (List.length (Ab ms))]
abbrev Dv (is : List Val) (isp : List Val) (k : Int) (kp : Int) (n : Int) (np : Int) (ns : List (List UInt8)) (nsp : List (List UInt8)) (s : List UInt8) (sp : List UInt8) : List LObj := [.row [(aR7 is k n ns s)], .row [[pI kp, pI np, pT sp, pV isp, pN nsp]]]
abbrev aR17 : List LObj := [.row [[pI 1, (.rs 1 0 1), pI 3, pI 1, pT [], (.tight []), (.tight []), (.tight [])], [pI 6, (.rs 2 0 1), pI 0, pI 0, pT [], (.tight []), (.tight []), (.tight [[(.str [97])], [(.str [120])]])]], .row [[(pT [97])]], .row [[(pT [98])]]]
abbrev Lm (l : List OpS) (x : List UInt8 × Bool) : List LObj := [.row [[pS x.1, pB x.2]], .row aR1, .row (aR4 l), .spare 8 (List.length (Ap l))]
end Go.Proofs.YtegboccilfofmaaGreat
