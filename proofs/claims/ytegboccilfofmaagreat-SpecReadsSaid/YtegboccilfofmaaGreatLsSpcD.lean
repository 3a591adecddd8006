import Derived.Test.YtegboccilfofmaaGreatLsSpc4
set_option linter.unusedVariables false
set_option maxRecDepth 100000
namespace Go.Proofs.YtegboccilfofmaaGreat
open Go Go.LS
def Co (p : Bool) : Nat → Pt → Src → Pt × Src
 | 0, ms, x => (ms, x)
 | j + 1, ms, x => if !p && x.2 then (ms, x) else Co p j (ms ++ [(Aj x 32).1]) (Aj x 32).2
def Af (p : Bool) (x : Src) : Pt × Src := Co p (Ai x 8).1.toNat [] (Ai x 8).2
def Ds : Val := .mk 0 0 [] [] []
def Cx (p : Bool) (x : Src) : OpS × Src :=
 if (Aa x).1 == 2 then (⟨(Aa x).1, (Af p (Aa x).2).1, Ds, []⟩, (Af p (Aa x).2).2)
 else if (Aa x).1 == 6 then (⟨(Aa x).1, (Af p (Aa x).2).1, Ds, (Af p (Af p (Aa x).2).2).1⟩, (Af p (Af p (Aa x).2).2).2)
 else (⟨(Aa x).1, (Af p (Aa x).2).1, (Cw (Af p (Aa x).2).2).1, []⟩, (Cw (Af p (Aa x).2).2).2)
def B3 (p : Bool) : Nat → List OpS → Src → List OpS × Src
 | 0, l, x => (l, x)
 | j + 1, l, x => if x.2 then (l, x) else B3 p j (l ++ [(Cx p x).1]) (Cx p x).2
structure SpS where
 r : Bool
 d : Val
 o : List OpS
def Ie : SpS := ⟨false, Ds, []⟩
def Hm (p : Bool) (x : Src) : SpS × Src :=
 if (Aa x).1 == 0 then (⟨false, Ds, (B3 p (Ai (Aa x).2 16).1.toNat [] (Ai (Aa x).2 16).2).1⟩, (B3 p (Ai (Aa x).2 16).1.toNat [] (Ai (Aa x).2 16).2).2)
 else if (Aa x).1 == 1 then (⟨true, (Cw (Aa x).2).1, []⟩, (Cw (Aa x).2).2)
 else (Ie, ((Aa x).2.1, true))
def Ta (q : SpS × Src) : SpS × Src := if q.2.2 || !(Bp q.1.r q.1.d q.1.o == 0) then (Ie, (q.2.1, true)) else q
def Dt (p : Bool) (x : Src) : SpS × Src := Ta (Hm p x)
end Go.Proofs.YtegboccilfofmaaGreat
