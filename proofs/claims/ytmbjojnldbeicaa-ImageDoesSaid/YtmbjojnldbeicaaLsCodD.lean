import Derived.Test.YtmbjojnldbeicaaLsCod1
set_option linter.unusedVariables false
set_option linter.unusedSimpArgs false
set_option maxRecDepth 100000
namespace Go.Proofs.Ytmbjojnldbeicaa
open Go Go.LS
def rdI (rd : Src → Val × Src) (doc : Bool) : Nat → List Val → List (List UInt8) → Src → List Val × List (List UInt8) × Src
 | 0, is, ns, x => (is, ns, x)
 | j + 1, is, ns, x => if x.2 = true then (is, ns, x) else if doc = true then rdI rd doc j (is ++ [(rd (Ba x 32).2).1]) (ns ++ [(Ba x 32).1]) (rd (Ba x 32).2).2
  else rdI rd doc j (is ++ [(rd x).1]) ns (rd x).2
def rdV (p : Bool) : Nat → Src → Val × Src
 | 0, x => (.mk (if p = true then (Aq x).1 else 0) 0 [] [] [], ((Aq x).2.1, true))
 | d + 1, x => if ((Aq x).1 == 1) = true then (.mk (Aq x).1 0 [] [] [], (Aq x).2)
  else if ((Aq x).1 == 2) = true then (.mk (Aq x).1 (Aq (Aq x).2).1 [] [] [], (Aq (Aq x).2).2)
  else if ((Aq x).1 == 3) = true then (.mk (Aq x).1 (Gt (Aq x).2).1 [] [] [], (Gt (Aq x).2).2)
  else if ((Aq x).1 == 4) = true ∨ ((Aq x).1 == 5) = true then (.mk (Aq x).1 0 (Ba (Aq x).2 4096).1 [] [], (Ba (Aq x).2 4096).2)
  else if ((Aq x).1 == 6) = true ∨ ((Aq x).1 == 7) = true then
   (.mk (Aq x).1 0 [] (rdI (rdV p d) ((Aq x).1 == 7) (Ac (Aq x).2 4096).1.toNat [] [] (Ac (Aq x).2 4096).2).1 (rdI (rdV p d) ((Aq x).1 == 7) (Ac (Aq x).2 4096).1.toNat [] [] (Ac (Aq x).2 4096).2).2.1,
     (rdI (rdV p d) ((Aq x).1 == 7) (Ac (Aq x).2 4096).1.toNat [] [] (Ac (Aq x).2 4096).2).2.2)
  else (.mk (Aq x).1 0 [] [] [], ((Aq x).2.1, true))
end Go.Proofs.Ytmbjojnldbeicaa
