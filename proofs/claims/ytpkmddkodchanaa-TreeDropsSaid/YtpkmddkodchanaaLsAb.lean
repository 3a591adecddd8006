/- Short words. -/
import Derived.Test.YtpkmddkodchanaaLsG5
set_option linter.unusedVariables false
namespace Go.Proofs.Ytpkmddkodchanaa
open Go Go.LS
abbrev pI (n : Int) : LV := .p (.int .i64 n)
abbrev pB (b : Bool) : LV := .p (.bool b)
abbrev pT (s : List UInt8) : LV := .p (.str s)
abbrev pS (s : List UInt8) : LV := .p (.sl (bs s))
abbrev pN (l : List (List UInt8)) : LV := .p (.sl (Ab l))
abbrev pV (l : List Val) : LV := .p (.sl (Ac l))
abbrev BY := List UInt8
abbrev BL := List (List UInt8)
abbrev RL := Cg × List LV × List LObj
abbrev P00 : LV := .ptr 0 0 0
abbrev P10 : LV := .ptr 1 0 0
abbrev OpE (S : List LObj) (o : LOp) (v : LV) : Prop := OpW S o v S
theorem rO {lp : A3} {f : FuncId} {args : List LV} {st st' : List LObj} {v : LV} (os : LS.Os) (ps : List Prop) (h : runO lp 100 f args st os = some (v, st', ps)) (hp : Conj ps) : Runs lp f args st (v, st') := Bh h hp
theorem lO {lp : A3} {k : Nat} {mask : List Bool} {c : Bd} {t t' : List LV} {st st' : List LObj} {r : Cg × List LV × List LObj} (os : LS.Os) (ps : List Prop) (h : Jl lp 100 k mask c t st os = some (.normal, t', st', ps)) (hp : Conj ps) (hr : LoopAt lp k mask c t' st' r) : LoopAt lp k mask c t st r := LoopAt.on h hp hr
abbrev lX {lp : A3} {k : Nat} {mask : List Bool} {c : Bd} {t t' : List LV} {st st' : List LObj} {o : Cg} (os : LS.Os) (ps : List Prop) := @LoopAt.out lp 100 k mask c t t' st st' os ps o
abbrev aR0 : List (List LV) := [[pI 0, pI 0, pT [], .tight [], .tight []]]
abbrev aR1 (is : List Val) (k : Int) (n : Int) (ns : List (List UInt8)) (s : List UInt8) : List (List LV) := [[pI k, pI n, pT s, pV is, pN ns]]
abbrev aR2 (is : List Val) (k : Int) (n : Int) (ns : List (List UInt8)) (s : List UInt8) : List LObj := [.row (aR1 is k n ns s), .row aR0, .row (aR1 is k n ns s)]
abbrev aR3 (is : List Val) (k : Int) (n : Int) (ns : List (List UInt8)) (s : List UInt8) : List LV := [pI k, pI n, pT s, .rs 3 0 (List.length is), .sl (Ab ns) 4 (List.length (Ab ns))]
abbrev aR4 (is : List Val) (k : Int) (n : Int) (ns : List (List UInt8)) (s : List UInt8) : List LObj := [.row (aR1 is k n ns s), .row aR0, .row [[pI k, pI n, pT s, .tight [], .sl (Ab ns) 3 (List.length (Ab ns))]], .spare 1 (List.length (Ab ns))]
abbrev aR5 (is : List Val) (k : Int) (n : Int) (s : List UInt8) : List LV := [pI k, pI n, pT s, .rs 3 0 (List.length is), .tight []]
abbrev aR6 (is : List Val) (isp : List Val) (k : Int) (kp : Int) (n : Int) (np : Int) (ns : List (List UInt8)) (nsp : List (List UInt8)) (s : List UInt8) (sp : List UInt8) : List LObj := [.row (aR1 is k n ns s), .row [[pI kp, pI np, pT sp, pV isp, pN nsp]]]
abbrev aR7 (is : List Val) (k : Int) (n : Int) (ns : List (List UInt8)) (s : List UInt8) : List LObj := [.row (aR1 is k n ns s), .row aR0, .row [[pI k, pI n, pT s, .tight [], pN ns]]]
abbrev aR8 (is : List Val) (k : Int) (n : Int) (ns : List (List UInt8)) (s : List UInt8) : List LV := [pI k, pI n, pT s, pV is, pN ns]
abbrev aR9 (k : Int) (n : Int) (ns : List (List UInt8)) (s : List UInt8) : List LV := [pI k, pI n, pT s, .tight [], .rs 1 0 (List.length ns)]
abbrev Dl (k : Int) (n : Int) (s : List UInt8) : List LV := [pI k, pI n, pT s, .tight [], .tight []]
end Go.Proofs.Ytpkmddkodchanaa
