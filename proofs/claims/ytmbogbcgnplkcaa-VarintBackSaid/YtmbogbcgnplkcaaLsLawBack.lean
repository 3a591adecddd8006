/- The law VarintBack is true of whatever it may be given, and leaves its arguments as they were: no condition. -/
import Derived.Test.YtmbogbcgnplkcaaRows
import Derived.Test.YtmbogbcgnplkcaaLsRunBack
import Derived.JoinedOf
set_option linter.unusedVariables false
namespace Go.Proofs.Ytmbogbcgnplkcaa
open Go.LS
namespace varintBack
theorem own : ownKnob Try.prog.godebug = none := by kernel_rfl
theorem laidOut : laidOutB Try.prog = true := by kernel_rfl
theorem tys : tyPs Try.prog 12 Try.f6.params.toList = some [(false, [.int .i64]), (false, [.str]), (false, [.int .i64])] := by kernel_rfl
set_option maxRecDepth 100000 in
theorem lifted (os : Os) (started : os.Started) (H : Type) (enc : TypeId × Value → H) :
    ReturnsInHanded {} Try.checked os 6 .any (Rows.varintBackSpec.pre6 enc Try.prog Try.f6 Rows.varintBackRow.domain false) (Rows.varintBackSpec.post enc Try.prog Try.f6 false true false false) := by
  refine returnsInHanded_of_change_sized (C := Try.checked) own started (by kernel_rfl) Try.func6
    (ChangeSpec.witness6 (enc := enc) (C := Try.checked) false ⟨#[], #[.int .i64 0, .string ByteArray.empty, .int .i64 0], []⟩ 8 (by kernel_rfl) (by kernel_rfl) (by kernel_rfl) (by kernel_rfl)) ?_
  intro W base args ds gs before hval hW _ hw _
  exact law_contract (P := Try.prog) pr laidOut (by kernel_rfl) (tb := 4) (by kernel_rfl) (by kernel_rfl) tys rfl (fun vs h => h.length) (fun ds h => by
    match ds, h with
    | [_, _, _], _ => rfl) W base args ds gs before run6 hval hW hw
theorem over : Rows.varintBackRow.holds Try.pinned (OpenSpec.ofChange Rows.varintBackSpec) :=
  OpenClaim.holds_of_wide 6 Try.f6 rfl rfl rfl rfl rfl rfl rfl ⟨rfl, rfl, rfl, rfl, rfl⟩ rfl rfl rfl rfl rfl (by kernel_rfl) Try.func6 (by kernel_rfl)
    (of_decide_eq_true (by kernel_rfl)) (by unfold Func.isWrapper; first | (rw [if_pos (by decide +kernel)]; kernel_rfl) | (rw [if_neg (by decide +kernel)]; exact ⟨rfl, rfl⟩))
    (fun os started H enc _ => lifted os started H enc)
end varintBack
theorem varintBack_holds : Rows.VarintBackSaid := varintBack.over
end Go.Proofs.Ytmbogbcgnplkcaa
