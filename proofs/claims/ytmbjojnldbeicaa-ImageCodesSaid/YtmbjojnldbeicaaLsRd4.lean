import Derived.Test.YtmbjojnldbeicaaLsRd3
set_option linter.unusedVariables false
set_option linter.unusedSimpArgs false
namespace Go.Proofs.Ytmbjojnldbeicaa
open Go Go.LS
abbrev Src := List UInt8 × Bool
def sCount (s : Src) (most : Int) : Int × Src :=
  if s.2 = true ∨ glen s.1 = 0 ∨ 4611686018427387904 < gnum s.1 ∨ most < (gnum s.1 : Int) then (0, s.1, true) else ((gnum s.1 : Int), s.1.drop (glen s.1), false)
end Go.Proofs.Ytmbjojnldbeicaa
