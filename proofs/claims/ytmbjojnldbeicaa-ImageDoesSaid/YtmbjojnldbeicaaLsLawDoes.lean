import Derived.Test.YtmbjojnldbeicaaRows
import Derived.Test.YtmbjojnldbeicaaLsRunDoes
import Derived.JoinedOf
set_option linter.unusedVariables false
namespace Go.Proofs.Ytmbjojnldbeicaa
open Go.LS
namespace imageDoes
theorem own : ownKnob Try.prog.godebug = none := by kernel_rfl
theorem laidOut : laidOutB Try.prog = true := by kernel_rfl
theorem cuts : ∀ e ∈ ([36] : List TypeId), ∀ Q, ∃ ts, tyT Try.prog [36] Q 12 e = some ts ∧ ts.length = Try.prog.cellsOf e ∧ 0 < ts.length := by
 intro e he Q
 simp only [List.mem_cons, List.not_mem_nil, or_false] at he
 rcases he with rfl
 ·exact ⟨(tyT Try.prog [36] Q 12 36).getD [], by kernel_rfl, by kernel_rfl, Nat.lt_of_lt_of_eq (show 0 < 5 by decide) (by kernel_rfl)⟩
theorem tys : ∀ k, Kl Try.prog [36] (RecOk Try.prog [36] 12 k) 12 Try.f3.params.toList = some [(false, [.int .i64]), (false, [.int .i64]), (false, [.sl [.int .i64, .int .i64, .int .i64, .str, .pr (RecOk Try.prog [36] 12 k 36) 80, .sl [.str] 16, .bool] 96]), (false, [.int .i64])] := fun k => by kernel_rfl
set_option maxRecDepth 100000 in
theorem lifted (os : Os) (started : os.Started) (H : Type) (enc : TypeId × Value → H) :
  ReturnsInHanded {} Try.checked os 3 .any (Rows.imageDoesSpec.pre6 enc Try.prog Try.f3 Rows.imageDoesRow.domain false) (Rows.imageDoesSpec.post enc Try.prog Try.f3 false true false false) := by
 refine returnsInHanded_of_change_sized (C := Try.checked) own started (by kernel_rfl) Try.func3
  (ChangeSpec.witness6 (enc := enc) (C := Try.checked) false ⟨#[], #[.int .i64 0, .int .i64 0, .slice none 0 0, .int .i64 0], []⟩ 8 (by kernel_rfl) (by kernel_rfl) (by kernel_rfl) (by kernel_rfl)) ?_
 intro W base args ds gs before hval hW _ hw _
 exact Qg (P := Try.prog) (cut := [36]) (N := 12) pr laidOut cuts (by kernel_rfl) (tb := 4) (by kernel_rfl) (by kernel_rfl) tys rfl (fun k vs h => h.length) (fun ds h => by
  match ds, h with
  | [_, _, _, _], _ => rfl) W base args ds gs before run3 hval hW hw
theorem over : Rows.imageDoesRow.holds Try.pinned (OpenSpec.ofChange Rows.imageDoesSpec) :=
 OpenClaim.holds_of_wide 3 Try.f3 rfl rfl rfl rfl rfl rfl rfl ⟨rfl, rfl, rfl, rfl, rfl⟩ rfl rfl rfl rfl rfl (by kernel_rfl) Try.func3 (by kernel_rfl)
  (of_decide_eq_true (by kernel_rfl)) (by unfold Func.isWrapper; first | (rw [if_pos (by decide +kernel)]; kernel_rfl) | (rw [if_neg (by decide +kernel)]; exact ⟨rfl, rfl⟩))
  (fun os started H enc _ => lifted os started H enc)
end imageDoes
theorem imageDoes_holds : Rows.ImageDoesSaid := imageDoes.over
end Go.Proofs.Ytmbjojnldbeicaa
