import Derived.Test.YtkhkacbejilafaaGreatRows
import Derived.Test.YtkhkacbejilafaaGreatLsRunElects
import Derived.JoinedOf
set_option linter.unusedVariables false
namespace Go.Proofs.YtkhkacbejilafaaGreat
open Go.LS
namespace raftElects
theorem own : ownKnob Tryz.prog.godebug = none := by kernel_rfl
theorem laidOut : laidOutB Tryz.prog = true := by kernel_rfl
theorem cuts : ∀ e ∈ ([] : List TypeId), ∀ Q, ∃ ts, tyT Tryz.prog [] Q 12 e = some ts ∧ ts.length = Tryz.prog.cellsOf e ∧ 0 < ts.length := by
  intro e he Q
  cases he
theorem tys : ∀ k, tyPs Tryz.prog [] (RecOk Tryz.prog [] 12 k) 12 Tryz.f4.params.toList = some [(false, [.int .i64])] := fun k => by kernel_rfl
set_option maxRecDepth 100000 in
theorem lifted (os : Os) (started : os.Started) (H : Type) (enc : TypeId × Value → H) :
    ReturnsInHanded {} Tryz.checked os 4 .any (Rows.raftElectsSpec.pre6 enc Tryz.prog Tryz.f4 Rows.raftElectsRow.domain false) (Rows.raftElectsSpec.post enc Tryz.prog Tryz.f4 false true false false) := by
  refine returnsInHanded_of_change_sized (C := Tryz.checked) own started (by kernel_rfl) Tryz.func4
    (ChangeSpec.witness6 (enc := enc) (C := Tryz.checked) false ⟨#[], #[.int .i64 0], []⟩ 8 (by kernel_rfl) (by kernel_rfl) (by kernel_rfl) (by kernel_rfl)) ?_
  intro W base args ds gs before hval hW _ hw _
  exact law_contract (P := Tryz.prog) (cut := []) (N := 12) pr laidOut cuts (by kernel_rfl) (tb := 4) (by kernel_rfl) (by kernel_rfl) tys rfl (fun k vs h => h.length) (fun ds h => by
    match ds, h with
    | [_], _ => rfl) W base args ds gs before (fun _ => run4) hval hW hw
theorem over : Rows.raftElectsRow.holds Tryz.pinned (OpenSpec.ofChange Rows.raftElectsSpec) :=
  OpenClaim.holds_of_wide 4 Tryz.f4 rfl rfl rfl rfl rfl rfl rfl ⟨rfl, rfl, rfl, rfl, rfl⟩ rfl rfl rfl rfl rfl (by kernel_rfl) Tryz.func4 (by kernel_rfl)
    (of_decide_eq_true (by kernel_rfl)) (by unfold Func.isWrapper; first | (rw [if_pos (by decide +kernel)]; kernel_rfl) | (rw [if_neg (by decide +kernel)]; exact ⟨rfl, rfl⟩))
    (fun os started H enc _ => lifted os started H enc)
end raftElects
theorem raftElects_holds : Rows.RaftElectsSaid := raftElects.over
end Go.Proofs.YtkhkacbejilafaaGreat
