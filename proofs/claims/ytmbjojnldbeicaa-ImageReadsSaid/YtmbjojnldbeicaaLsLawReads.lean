import Derived.Test.YtmbjojnldbeicaaRows
import Derived.Test.YtmbjojnldbeicaaLsRunReads
import Derived.JoinedOf
set_option linter.unusedVariables false
namespace Go.Proofs.Ytmbjojnldbeicaa
open Go.LS
namespace imageReads
theorem own : ownKnob Try.prog.godebug = none := by kernel_rfl
theorem laidOut : laidOutB Try.prog = true := by kernel_rfl
theorem cuts : ∀ e ∈ ([] : List TypeId), ∀ Q, ∃ ts, tyT Try.prog [] Q 12 e = some ts ∧ ts.length = Try.prog.cellsOf e ∧ 0 < ts.length := by
 intro e he Q
 cases he
theorem tys : ∀ k, Jb Try.prog [] (RecOk Try.prog [] 12 k) 12 Try.f5.params.toList = some [(false, [.sl [.int .u8] 1]), (false, [.int .i64])] := fun k => by kernel_rfl
set_option maxRecDepth 100000 in
theorem lifted (os : Os) (started : os.Started) (H : Type) (enc : TypeId × Value → H) :
  ReturnsInHanded {} Try.checked os 5 .any (Rows.imageReadsSpec.pre6 enc Try.prog Try.f5 Rows.imageReadsRow.domain false) (Rows.imageReadsSpec.post enc Try.prog Try.f5 false true false false) := by
 refine returnsInHanded_of_change_sized (C := Try.checked) own started (by kernel_rfl) Try.func5
  (ChangeSpec.witness6 (enc := enc) (C := Try.checked) false ⟨#[], #[.slice none 0 0, .int .i64 0], []⟩ 8 (by kernel_rfl) (by kernel_rfl) (by kernel_rfl) (by kernel_rfl)) ?_
 intro W base args ds gs before hval hW _ hw _
 exact Or (P := Try.prog) (cut := []) (N := 12) pr laidOut cuts (by kernel_rfl) (tb := 4) (by kernel_rfl) (by kernel_rfl) tys rfl (fun k vs h => h.length) (fun ds h => by
  match ds, h with
  | [_, _], _ => rfl) W base args ds gs before (fun _ => run5) hval hW hw
theorem over : Rows.imageReadsRow.holds Try.pinned (OpenSpec.ofChange Rows.imageReadsSpec) :=
 OpenClaim.holds_of_wide 5 Try.f5 rfl rfl rfl rfl rfl rfl rfl ⟨rfl, rfl, rfl, rfl, rfl⟩ rfl rfl rfl rfl rfl (by kernel_rfl) Try.func5 (by kernel_rfl)
  (of_decide_eq_true (by kernel_rfl)) (by unfold Func.isWrapper; first | (rw [if_pos (by decide +kernel)]; kernel_rfl) | (rw [if_neg (by decide +kernel)]; exact ⟨rfl, rfl⟩))
  (fun os started H enc _ => lifted os started H enc)
end imageReads
theorem imageReads_holds : Rows.ImageReadsSaid := imageReads.over
end Go.Proofs.Ytmbjojnldbeicaa
