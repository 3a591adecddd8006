/- Short words. -/
import Derived.Test.YthmjaeflpgcmdaaLsG5
import Derived.Test.YthmjaeflpgcmdaaLsG6
import Derived.Test.YthmjaeflpgcmdaaLsG7
set_option linter.unusedVariables false
namespace Go.Proofs.Ythmjaeflpgcmdaa
open Go Go.LS
abbrev pI (n : Int) : LV := .p (.int .i64 n)
abbrev pB (b : Bool) : LV := .p (.bool b)
abbrev pT (s : List UInt8) : LV := .p (.str s)
abbrev pS (s : List UInt8) : LV := .p (.sl (bs s))
abbrev pN (l : List (List UInt8)) : LV := .p (.sl (rowsN l))
abbrev pV (l : List Val) : LV := .p (.sl (Xz l))
abbrev BY := List UInt8
abbrev BL := List (List UInt8)
abbrev RL := C4 × List LV × List LObj
abbrev P00 : LV := .ptr 0 0 0
abbrev P10 : LV := .ptr 1 0 0
abbrev OpE (S : List LObj) (o : LOp) (v : LV) : Prop := OpW S o v S
theorem rO {lp : A1} {f : FuncId} {args : List LV} {st st' : List LObj} {v : LV} (os : LS.Os) (ps : List Prop) (h : runO lp 100 f args st os = some (v, st', ps)) (hp : Conj ps) : Runs lp f args st (v, st') := Db h hp
theorem lO {lp : A1} {k : Nat} {mask : List Bool} {c : Bh} {t t' : List LV} {st st' : List LObj} {r : C4 × List LV × List LObj} (os : LS.Os) (ps : List Prop) (h : M7 lp 100 k mask c t st os = some (.normal, t', st', ps)) (hp : Conj ps) (hr : LoopAt lp k mask c t' st' r) : LoopAt lp k mask c t st r := LoopAt.on h hp hr
abbrev lX {lp : A1} {k : Nat} {mask : List Bool} {c : Bh} {t t' : List LV} {st st' : List LObj} {o : C4} (os : LS.Os) (ps : List Prop) := @LoopAt.out lp 100 k mask c t t' st st' os ps o
abbrev aR0 : List (List LV) := [[.mp 1, pI (-1), pI 0, pB false]]
abbrev aR1 (L : List UInt8) (bad : Bool) : List LObj := [.row [[pS L, pB bad]]]
end Go.Proofs.Ythmjaeflpgcmdaa
