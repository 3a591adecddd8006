/- Put, Size and Frame: what they come to. -/
import Derived.Test.YthiilhepneddpaaLsPuts3
set_option linter.unusedVariables false
set_option linter.unusedSimpArgs false
namespace Go.Proofs.Ythiilhepneddpaa
open Go Go.LS

section
variable {h b : List UInt8} {m : Nat}
theorem lenBs (b : List UInt8) : (((List.length (bs b) : Nat) : Int)).toNat = b.length := by rw [bs_len]; omega
theorem small {b : List UInt8} (c : (decide (((List.length (bs b) : Nat) : Int) > 65536)) = false) : b.length ≤ 65536 := by
  rw [bs_len] at c
  simp at c
  omega
theorem rFrame (hb : b.length ≤ 65536) : Runs lp 12 [.p (.sl (bs b))] [] (.sl (bs (frame b)) 0 (frame b).length, [.spare 1 (frame b).length]) := by
  have l1 := vcode_len b.length (by omega)
  have l2 := fpre_len hb
  have l3 : (vcode b.length ++ b).length ≤ 65546 := l2
  have := @frm b
  rw [lenBs] at this
  exact this ⟨by rw [bs_len]; omega, by rw [bs_len]; omega⟩ (by omega) (by omega) (by rw [four_len]; omega)
end
end Go.Proofs.Ythiilhepneddpaa
