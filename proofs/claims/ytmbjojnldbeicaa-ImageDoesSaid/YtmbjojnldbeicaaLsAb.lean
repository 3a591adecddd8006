/- Short words. -/
import Derived.Test.YtmbjojnldbeicaaLsG5
import Derived.Test.YtmbjojnldbeicaaLsG6
set_option linter.unusedVariables false
namespace Go.Proofs.Ytmbjojnldbeicaa
open Go Go.LS
abbrev pI (n : Int) : LV := .p (.int .i64 n)
abbrev pB (b : Bool) : LV := .p (.bool b)
abbrev pT (s : List UInt8) : LV := .p (.str s)
abbrev pS (s : List UInt8) : LV := .p (.sl (bs s))
abbrev pN (l : List (List UInt8)) : LV := .p (.sl (Ak l))
abbrev pV (l : List Val) : LV := .p (.sl (Ad l))
abbrev BY := List UInt8
abbrev BL := List (List UInt8)
abbrev RL := Dj × List LV × List LObj
abbrev P00 : LV := .ptr 0 0 0
abbrev P10 : LV := .ptr 1 0 0
abbrev OpE (S : List LObj) (o : LOp) (v : LV) : Prop := OpW S o v S
theorem rO {lp : Bs} {f : FuncId} {args : List LV} {st st' : List LObj} {v : LV} (os : LS.Os) (ps : List Prop) (h : runO lp 100 f args st os = some (v, st', ps)) (hp : Conj ps) : Runs lp f args st (v, st') := C0 h hp
theorem lO {lp : Bs} {k : Nat} {mask : List Bool} {c : B0} {t t' : List LV} {st st' : List LObj} {r : Dj × List LV × List LObj} (os : LS.Os) (ps : List Prop) (h : Li lp 100 k mask c t st os = some (.normal, t', st', ps)) (hp : Conj ps) (hr : LoopAt lp k mask c t' st' r) : LoopAt lp k mask c t st r := LoopAt.on h hp hr
abbrev lX {lp : Bs} {k : Nat} {mask : List Bool} {c : B0} {t t' : List LV} {st st' : List LObj} {o : Dj} (os : LS.Os) (ps : List Prop) := @LoopAt.out lp 100 k mask c t t' st st' os ps o
abbrev aS0 (b : Int) (kp : Int) (t : Int) : List (List LV) := [[pI kp, .rs 1 0 (Int.toNat kp), pI b, pI t]]
abbrev aS1 (L : List (Option Val)) (kp : Int) (xb : Int) : List (List LV) := [[pI kp, pI xb, .sl (Ai L) 3 (List.length (Ai L))]]
abbrev aS2 (L : List (Option Val)) (b : Int) (t : Int) (xb : Int) : List LObj := [.row [[pI 0, .tight [], pI b, pI t]], .row [[pI 0, pI xb, .sl (Ai L) 2 (List.length (Ai L))]], .spare 6 (List.length (Ai L))]
abbrev aS3 (b : Int) (t : Int) : List (List LV) := [[pI 0, .tight [], pI b, pI t]]
abbrev aS4 (L : List (Option Val)) (R : List (Option Val)) (b : Int) (kp : Int) (t : Int) (xb : Int) : List LObj := [.row (aS0 b kp t), .row (Aa R), .row (aS1 L kp xb), .spare 6 (List.length (Ai L))]
abbrev aS5 (ise : List Val) (ke : Int) (ne : Int) (nse : List (List UInt8)) (ok : Int) (se : List UInt8) : List (List LV) := [[pI ok, pI ke, pI ne, pT se, pV ise, pN nse, pB true]]
abbrev aS6 (L : List (Option Val)) (kp : Int) (xb : Int) : List LObj := [.row [[pI kp, pI xb, .sl (Ai L) 1 (List.length (Ai L))]], .spare 6 (List.length (Ai L))]
abbrev aS7 (R : List (Option Val)) (i : Int) (kp : Int) : List LV := [pB true, pI (kV ((Au R (Int.toNat (Int.tmod i kp))).getD A4)), pI (nV ((Au R (Int.toNat (Int.tmod i kp))).getD A4)), pT (sV ((Au R (Int.toNat (Int.tmod i kp))).getD A4)), pV (iV ((Au R (Int.toNat (Int.tmod i kp))).getD A4)), pN (mV ((Au R (Int.toNat (Int.tmod i kp))).getD A4))]
abbrev aS8 (kp : Int) (xb : Int) : List (List LV) := [[pI kp, pI xb, .tight []]]
abbrev aS9 : List LV := [pB false, pI 0, pI 0, pT [], .tight [], .tight []]
abbrev Bm (ise : List Val) (ke : Int) (ne : Int) (nse : List (List UInt8)) (ok : Int) (se : List UInt8) : List (List LV) := [[pI ok, pI ke, pI ne, pT se, pV ise, pN nse, pB false]]
abbrev Oq (R : List (Option Val)) (i : Int) (kp : Int) : List LV := [pI (kV ((Au R (Int.toNat (Int.tmod i kp))).getD A4)), pI (nV ((Au R (Int.toNat (Int.tmod i kp))).getD A4)), pT (sV ((Au R (Int.toNat (Int.tmod i kp))).getD A4)), pV (iV ((Au R (Int.toNat (Int.tmod i kp))).getD A4)), pN (mV ((Au R (Int.toNat (Int.tmod i kp))).getD A4))]
abbrev Bx (b : Int) (kp : Int) (t : Int) : List (List LV) := [[pI kp, .rs 1 0 (Int.toNat kp), pI b, pI (t + 1)]]
abbrev Do : List LV := [pI 0, pI 0, pT [], .tight [], .tight []]
abbrev Cf (R : List (Option Val)) (b : Int) (kp : Int) (t : Int) (xb : Int) : List LObj := [.row (aS0 b kp t), .row (Aa R), .row (aS8 kp xb)]
abbrev Bz (xb : Int) : List (List LV) := [[pI 0, pI xb, .tight []]]
abbrev Fd (L : List (Option Val)) (xb : Int) : List LObj := [.row [[pI 0, pI xb, .sl (Ai L) 1 (List.length (Ai L))]], .spare 6 (List.length (Ai L))]
abbrev Cj (b : Int) (t : Int) : List (List LV) := [[pI 0, .rs 1 0 0, pI b, pI t]]
abbrev B4 (R : List (Option Val)) (b : Int) (kp : Int) (t : Int) : List LObj := [.row (aS0 b kp t), .row (Aa R)]
abbrev M0 (L : List (Option Val)) (kp : Int) (xb : Int) : List LObj := [.row [[pI kp, pI xb, .sl (Ai L) 1 (List.length (Ai L))]], .spare 6 (List.length (Ai L)), .row [Do], .row [aS9]]
abbrev D3 : List LV := [pI 0, pI 0, pT [], .p (.sl []), .p (.sl [])]
abbrev En (L : List (Option Val)) (xb : Int) : List (List LV) := [[pI 0, pI xb, .sl (Ai L) 3 (List.length (Ai L))]]
abbrev E5 (L : List (Option Val)) (xb : Int) : List (List LV) := [[pI 0, pI xb, .sl (Ai L) 2 (List.length (Ai L))]]
abbrev Rg (R : List (Option Val)) (b : Int) (kp : Int) (t : Int) : List LObj := [.row (aS0 b kp t), .row (Aa R), .spare 1 (List.length (((Ab (Int.toNat kp)) ++ (Ab (Int.toNat b))) ++ (Ab (Int.toNat t))))]
abbrev Wa (L2 : List (Option Val)) (R2 : List (Option Val)) (b : Int) (kp : Int) (t2 : Int) : List LObj := [.row [[pI kp, .rs 1 0 (Int.toNat kp), pI b, pI t2]], .row (Aa R2), .row [[pI kp, pI b, .sl (Ai L2) 3 (List.length (Ai L2))]], .spare 6 (List.length (Ai L2))]
abbrev Lt (L : List (Option Val)) (R : List (Option Val)) (b : Int) (ise : List Val) (ke : Int) (kp : Int) (ne : Int) (nse : List (List UInt8)) (ok : Int) (se : List UInt8) (t : Int) (xb : Int) : List LObj := [.row (aS0 b kp t), .row (Aa R), .row (aS1 L kp xb), .spare 6 (List.length (Ai L)), .row (aS5 ise ke ne nse ok se)]
abbrev Ct (b : Int) (t : Int) (xb : Int) : List LObj := [.row (aS3 b t), .row (Bz xb)]
abbrev Ih (B : List UInt8) (R : List (Option Val)) (b : Int) (kp : Int) (t : Int) : List LObj := [.row (aS0 b kp t), .row (Aa R), .spare 1 (List.length B), .row [aS9]]
abbrev B9 (ise : List Val) (ke : Int) (ne : Int) (nse : List (List UInt8)) (se : List UInt8) : List LV := [pI ke, pI ne, pT se, pV ise, pN nse]
abbrev D9 (b : Int) (t : Int) : List (List LV) := [[pI 0, .tight [], pI b, pI (t + 1)]]
abbrev E6 (b2 : Int) (kp2 : Int) (t2 : Int) : List (List LV) := [[pI kp2, .rs 2 0 (Int.toNat kp2), pI b2, pI t2]]
abbrev Hk (R : List (Option Val)) (b : Int) (kp : Int) (t : Int) : List LObj := [.row (aS0 b kp t), .row (Aa R), .row [Do], .row [aS9]]
abbrev Y7 (b : Int) (kp : Int) : List LObj := [.row [[pI kp, .rs 1 0 (Int.toNat kp), pI b, pI b]], .row (Aa (List.replicate (Int.toNat kp) none)), .row [[pI kp, pI b, .tight []]]]
abbrev Tw (R : List (Option Val)) (b : Int) (kp : Int) (t : Int) : List LObj := [.row (aS0 b kp t), .row (Aa R), .row (Aa R), .row [[pI kp, .rs 2 0 (Int.toNat kp), pI b, pI t]]]
abbrev Wb (b : Int) (t : Int) : List LObj := [.row (aS3 b t), .spare 1 (List.length (((Ab 0) ++ (Ab (Int.toNat b))) ++ (Ab (Int.toNat t))))]
abbrev aS35 (L : List (Option Val)) (R : List (Option Val)) (b : Int) (ise : List Val) (ke : Int) (kp : Int) (ne : Int) (nse : List (List UInt8)) (ok : Int) (se : List UInt8) (t : Int) (xb : Int) : List LObj := [.row (Bx b kp t), .row (Aa (Bj kp t R (some (Val.mk ke ne se ise nse)))), .row (aS1 L kp xb), .spare 6 (List.length (Ai L)), .row (aS5 ise ke ne nse ok se)]
abbrev Tx (L : List (Option Val)) (b : Int) (ise : List Val) (ke : Int) (kp : Int) (ne : Int) (nse : List (List UInt8)) (ok : Int) (se : List UInt8) (t : Int) (xb : Int) : List LObj := [.row (aS0 b kp t), .spare 1 0, .row (aS1 L kp xb), .spare 6 (List.length (Ai L)), .row (aS5 ise ke ne nse ok se)]
abbrev Lu (R : List (Option Val)) (b : Int) (ise : List Val) (ke : Int) (kp : Int) (ne : Int) (nse : List (List UInt8)) (ok : Int) (se : List UInt8) (t : Int) (xb : Int) : List LObj := [.row (aS0 b kp t), .row (Aa R), .row (aS8 kp xb), .row (aS5 ise ke ne nse ok se)]
abbrev Wc (R2 : List (Option Val)) (b : Int) (kp : Int) (t2 : Int) : List LObj := [.row [[pI kp, .rs 1 0 (Int.toNat kp), pI b, pI t2]], .row (Aa R2), .row [[pI kp, pI b, .tight []]]]
abbrev Ku (L : List (Option Val)) (kp : Int) (xb : Int) : List (List LV) := [[pI kp, pI xb, .sl (Ai L) 1 (List.length (Ai L))]]
abbrev C3 (is : List Val) (k : Int) (n : Int) (ns : List (List UInt8)) (s : List UInt8) : List LV := [pI k, pI n, pT s, pV is, pN ns]
abbrev Hl (R : List (Option Val)) (b : Int) (kp : Int) (t : Int) : List LObj := [.row (aS0 b kp t), .row (Aa R), .row [Do]]
abbrev Y8 (R : List (Option Val)) (b : Int) (kp : Int) (t : Int) : List LObj := [.row (aS0 b kp t), .row (Aa R), .row [[pI kp, .rs 3 0 (Int.toNat kp), pI b, pI t]], .row (Aa R)]
abbrev G4 (b : Int) (t : Int) : List (List LV) := [[pI 0, .rs 1 0 0, pI b, pI (t + 1)]]
abbrev Ix (b2 : Int) (kp2 : Int) (t2 : Int) : List (List LV) := [[pI kp2, .rs 7 0 (Int.toNat kp2), pI b2, pI t2]]
abbrev Kv (R : List (Option Val)) (b : Int) (t : Int) : List LObj := [.row (Cj b t), .row (Aa R), .row (aS3 b t)]
abbrev aR0 : List (List LV) := [[pI 0, pI 0, pT [], .tight [], .tight []]]
abbrev aR1 (is : List Val) (k : Int) (n : Int) (ns : List (List UInt8)) (s : List UInt8) : List LV := [pI k, pI n, pT s, pV is, pN ns]
abbrev aR2 (L : List UInt8) : List LObj := [.row [[pS L, pB false]]]
abbrev aR3 (is : List Val) (isp : List Val) (k : Int) (kp : Int) (n : Int) (np : Int) (ns : List (List UInt8)) (nsp : List (List UInt8)) (s : List UInt8) (sp : List UInt8) : List LObj := [.row [(aR1 is k n ns s)], .row [[pI kp, pI np, pT sp, pV isp, pN nsp]]]
abbrev aR4 (L : List UInt8) : List LObj := [.row [[pS L, pB true]]]
abbrev aR5 (es : List Val) (k : Int) (ms : List (List UInt8)) (x : List UInt8 × Bool) : List LObj := [.row [[pS x.1, pB x.2]], .row [[pI k, pI 0, pT [], .sl (Ad es) 2 (List.length (Ad es)), .sl (Ak ms) 3 (List.length (Ak ms))]], .spare 5 (List.length (Ad es)), .spare 1 (List.length (Ak ms)), .row aR0]
abbrev aR6 (L : List UInt8) (bad : Bool) : List LObj := [.row [[pS L, pB bad]]]
end Go.Proofs.Ytmbjojnldbeicaa
