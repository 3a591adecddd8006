/- The law TokenCodes is true of whatever it may be given, and leaves its arguments as they were: no condition. -/
import Derived.Test.YtmfdjhflhhaodaaRows
import Derived.Test.YtmfdjhflhhaodaaLsRunTok
import Derived.JoinedOf
set_option linter.unusedVariables false
namespace Go.Proofs.Ytmfdjhflhhaodaa
open Go.LS
namespace tokenCodes
theorem own : ownKnob Try.prog.godebug = none := by kernel_rfl
theorem laidOut : laidOutB Try.prog = true := by kernel_rfl
theorem tys : tyPs Try.prog 12 Try.f3.params.toList = some [(true, [.int .i64, .int .i64, .int .i64])] := by kernel_rfl
set_option maxRecDepth 100000 in
theorem lifted (os : Os) (started : os.Started) (H : Type) (enc : TypeId × Value → H) :
    ReturnsInHanded {} Try.checked os 3 .any (Rows.tokenCodesSpec.pre6 enc Try.prog Try.f3 Rows.tokenCodesRow.domain false) (Rows.tokenCodesSpec.post enc Try.prog Try.f3 false true false false) := by
  refine returnsInHanded_of_change_sized (C := Try.checked) own started (by kernel_rfl) Try.func3
    (ChangeSpec.witness6 (enc := enc) (C := Try.checked) false ⟨#[], #[.agg #[.int .i64 0, .int .i64 0, .int .i64 0]], []⟩ 8 (by kernel_rfl) (by kernel_rfl) (by kernel_rfl) (by kernel_rfl)) ?_
  intro W base args ds gs before hval hW _ hw _
  exact law_contract (P := Try.prog) pr laidOut (by kernel_rfl) (tb := 4) (by kernel_rfl) (by kernel_rfl) tys rfl (fun vs h => h.length) (fun ds h => by
    match ds, h with
    | [_], _ => rfl) W base args ds gs before run3 hval hW hw
theorem over : Rows.tokenCodesRow.holds Try.pinned (OpenSpec.ofChange Rows.tokenCodesSpec) :=
  OpenClaim.holds_of_wide 3 Try.f3 rfl rfl rfl rfl rfl rfl rfl ⟨rfl, rfl, rfl, rfl, rfl⟩ rfl rfl rfl rfl rfl (by kernel_rfl) Try.func3 (by kernel_rfl)
    (of_decide_eq_true (by kernel_rfl)) (by unfold Func.isWrapper; first | (rw [if_pos (by decide +kernel)]; kernel_rfl) | (rw [if_neg (by decide +kernel)]; exact ⟨rfl, rfl⟩))
    (fun os started H enc _ => lifted os started H enc)
end tokenCodes
theorem tokenCodes_holds : Rows.TokenCodesSaid := tokenCodes.over
end Go.Proofs.Ytmfdjhflhhaodaa
