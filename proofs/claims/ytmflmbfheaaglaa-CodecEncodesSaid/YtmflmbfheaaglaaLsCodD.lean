import Derived.Test.YtmflmbfheaaglaaLsCod1
set_option linter.unusedVariables false
set_option maxRecDepth 100000
namespace Go.Proofs.Ytmflmbfheaaglaa
open Go Go.LS
def rdI (rd : Src → Val × Src) (doc : Bool) : Nat → List Val → List (List UInt8) → Src → List Val × List (List UInt8) × Src
  | 0, is, ns, x => (is, ns, x)
  | j + 1, is, ns, x => if x.2 = true then (is, ns, x) else if doc = true then rdI rd doc j (is ++ [(rd (sText x 32).2).1]) (ns ++ [(sText x 32).1]) (rd (sText x 32).2).2
    else rdI rd doc j (is ++ [(rd x).1]) ns (rd x).2
def rdV (p : Bool) : Nat → Src → Val × Src
  | 0, x => (.mk (if p = true then (sByte x).1 else 0) 0 [] [] [], ((sByte x).2.1, true))
  | d + 1, x => if ((sByte x).1 == 1) = true then (.mk (sByte x).1 0 [] [] [], (sByte x).2)
    else if ((sByte x).1 == 2) = true then (.mk (sByte x).1 (sByte (sByte x).2).1 [] [] [], (sByte (sByte x).2).2)
    else if ((sByte x).1 == 3) = true then (.mk (sByte x).1 (sInt (sByte x).2).1 [] [] [], (sInt (sByte x).2).2)
    else if ((sByte x).1 == 4) = true ∨ ((sByte x).1 == 5) = true then (.mk (sByte x).1 0 (sText (sByte x).2 4096).1 [] [], (sText (sByte x).2 4096).2)
    else if ((sByte x).1 == 6) = true ∨ ((sByte x).1 == 7) = true then
      (.mk (sByte x).1 0 [] (rdI (rdV p d) ((sByte x).1 == 7) (sCount (sByte x).2 4096).1.toNat [] [] (sCount (sByte x).2 4096).2).1 (rdI (rdV p d) ((sByte x).1 == 7) (sCount (sByte x).2 4096).1.toNat [] [] (sCount (sByte x).2 4096).2).2.1,
        (rdI (rdV p d) ((sByte x).1 == 7) (sCount (sByte x).2 4096).1.toNat [] [] (sCount (sByte x).2 4096).2).2.2)
    else (.mk (sByte x).1 0 [] [] [], ((sByte x).2.1, true))
end Go.Proofs.Ytmflmbfheaaglaa
