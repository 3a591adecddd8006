import Derived.Test.YtegboccilfofmaaGreatLsSpc4
set_option linter.unusedVariables false
set_option maxRecDepth 100000
namespace Go.Proofs.YtegboccilfofmaaGreat
open Go Go.LS
def Gy (p : Bool) : Nat → Pt → Src → Pt × Src
 | 0, ms, x => (ms, x)
 | j + 1, ms, x => if !p && x.2 then (ms, x) else Gy p j (ms ++ [(Aq x 32).1]) (Aq x 32).2
def Bc (p : Bool) (x : Src) : Pt × Src := Gy p (Ar x 8).1.toNat [] (Ar x 8).2
def Fj : Val := .mk 0 0 [] [] []
def Ga (p : Bool) (x : Src) : OpS × Src :=
 if (Af x).1 == 2 then (⟨(Af x).1, (Bc p (Af x).2).1, Fj, []⟩, (Bc p (Af x).2).2)
 else if (Af x).1 == 6 then (⟨(Af x).1, (Bc p (Af x).2).1, Fj, (Bc p (Bc p (Af x).2).2).1⟩, (Bc p (Bc p (Af x).2).2).2)
 else (⟨(Af x).1, (Bc p (Af x).2).1, (Ek (Bc p (Af x).2).2).1, []⟩, (Ek (Bc p (Af x).2).2).2)
def D1 (p : Bool) : Nat → List OpS → Src → List OpS × Src
 | 0, l, x => (l, x)
 | j + 1, l, x => if x.2 then (l, x) else D1 p j (l ++ [(Ga p x).1]) (Ga p x).2
structure SpS where
 r : Bool
 d : Val
 o : List OpS
def O7 : SpS := ⟨false, Fj, []⟩
def Nn (p : Bool) (x : Src) : SpS × Src :=
 if (Af x).1 == 0 then (⟨false, Fj, (D1 p (Ar (Af x).2 16).1.toNat [] (Ar (Af x).2 16).2).1⟩, (D1 p (Ar (Af x).2 16).1.toNat [] (Ar (Af x).2 16).2).2)
 else if (Af x).1 == 1 then (⟨true, (Ek (Af x).2).1, []⟩, (Ek (Af x).2).2)
 else (O7, ((Af x).2.1, true))
def Zx (q : SpS × Src) : SpS × Src := if q.2.2 || !(Aw q.1.r q.1.d q.1.o == 0) then (O7, (q.2.1, true)) else q
def No (p : Bool) (x : Src) : SpS × Src := Zx (Nn p x)
end Go.Proofs.YtegboccilfofmaaGreat
