import Derived.Test.YtmbjojnldbeicaaLsRd
set_option linter.unusedVariables false
set_option linter.unusedSimpArgs false
namespace Go.Proofs.Ytmbjojnldbeicaa
open Go Go.LS
def gdec (L : List UInt8) : Nat → Nat → Nat → Nat × Nat
  | 0, _, _ => (0, 0)
  | k + 1, i, u => if i < L.length then
      if (i = 9 ∧ 1 < (L.getD i 0).toNat) ∨ (0 < i ∧ (L.getD i 0).toNat = 0) then (0, 0)
      else if (L.getD i 0).toNat < 128 then (u + (L.getD i 0).toNat * 2 ^ (7 * i), i + 1)
      else gdec L k (i + 1) (u + ((L.getD i 0).toNat % 128) * 2 ^ (7 * i))
    else (0, 0)
abbrev rt (u i : Int) : List LV := tl 0 82 [(0, .ptr 0 0 0), (3, .p (.int .u64 u)), (4, .p (.int .i64 i))]
def gnum (L : List UInt8) : Nat := (gdec L 10 0 0).1
def glen (L : List UInt8) : Nat := (gdec L 10 0 0).2
end Go.Proofs.Ytmbjojnldbeicaa
