import Derived.Test.YtegboccilfofmaaGreatLsCod1
set_option linter.unusedVariables false
set_option maxRecDepth 100000
namespace Go.Proofs.YtegboccilfofmaaGreat
open Go Go.LS
def rdI (rd : Src → Val × Src) (doc : Bool) : Nat → List Val → List (List UInt8) → Src → List Val × List (List UInt8) × Src
 | 0, is, ns, x => (is, ns, x)
 | j + 1, is, ns, x => if x.2 = true then (is, ns, x) else if doc = true then rdI rd doc j (is ++ [(rd (Aj x 32).2).1]) (ns ++ [(Aj x 32).1]) (rd (Aj x 32).2).2
  else rdI rd doc j (is ++ [(rd x).1]) ns (rd x).2
def rdV (p : Bool) : Nat → Src → Val × Src
 | 0, x => (.mk (if p = true then (Aa x).1 else 0) 0 [] [] [], ((Aa x).2.1, true))
 | d + 1, x => if ((Aa x).1 == 1) = true then (.mk (Aa x).1 0 [] [] [], (Aa x).2)
  else if ((Aa x).1 == 2) = true then (.mk (Aa x).1 (Aa (Aa x).2).1 [] [] [], (Aa (Aa x).2).2)
  else if ((Aa x).1 == 3) = true then (.mk (Aa x).1 (Dk (Aa x).2).1 [] [] [], (Dk (Aa x).2).2)
  else if ((Aa x).1 == 4) = true ∨ ((Aa x).1 == 5) = true then (.mk (Aa x).1 0 (Aj (Aa x).2 4096).1 [] [], (Aj (Aa x).2 4096).2)
  else if ((Aa x).1 == 6) = true ∨ ((Aa x).1 == 7) = true then
   (.mk (Aa x).1 0 [] (rdI (rdV p d) ((Aa x).1 == 7) (Ai (Aa x).2 4096).1.toNat [] [] (Ai (Aa x).2 4096).2).1 (rdI (rdV p d) ((Aa x).1 == 7) (Ai (Aa x).2 4096).1.toNat [] [] (Ai (Aa x).2 4096).2).2.1,
     (rdI (rdV p d) ((Aa x).1 == 7) (Ai (Aa x).2 4096).1.toNat [] [] (Ai (Aa x).2 4096).2).2.2)
  else (.mk (Aa x).1 0 [] [] [], ((Aa x).2.1, true))
end Go.Proofs.YtegboccilfofmaaGreat
