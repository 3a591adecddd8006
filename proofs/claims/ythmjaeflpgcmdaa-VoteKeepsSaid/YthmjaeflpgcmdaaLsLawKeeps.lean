import Derived.Test.YthmjaeflpgcmdaaRows
import Derived.Test.YthmjaeflpgcmdaaLsRunKeeps
import Derived.JoinedOf
set_option linter.unusedVariables false
namespace Go.Proofs.Ythmjaeflpgcmdaa
open Go.LS
namespace voteKeeps
theorem own : ownKnob Try.prog.godebug = none := by kernel_rfl
theorem laidOut : laidOutB Try.prog = true := by kernel_rfl
theorem cuts : ∀ e ∈ ([] : List TypeId), ∀ Q, ∃ ts, tyT Try.prog [] Q 12 e = some ts ∧ ts.length = Try.prog.cellsOf e ∧ 0 < ts.length := by
 intro e he Q
 cases he
theorem tys : ∀ k, Jr Try.prog [] (RecOk Try.prog [] 12 k) 12 Try.f4.params.toList = some [(false, [.sl [.int .i64, .int .i64, .int .i64, .int .i64, .int .i64, .sl [.int .u8] 1, .sl [.str, .int .i64] 24] 88]), (false, [.int .i64]), (false, [.int .i64]), (false, [.sl [.str, .int .i64] 24])] := fun k => by kernel_rfl
set_option maxRecDepth 100000 in
theorem lifted (os : Os) (started : os.Started) (H : Type) (enc : TypeId × Value → H) :
  ReturnsInHanded {} Try.checked os 4 .any (Rows.voteKeepsSpec.pre6 enc Try.prog Try.f4 Rows.voteKeepsRow.domain false) (Rows.voteKeepsSpec.post enc Try.prog Try.f4 false true false false) := by
 refine returnsInHanded_of_change_sized (C := Try.checked) own started (by kernel_rfl) Try.func4
  (ChangeSpec.witness6 (enc := enc) (C := Try.checked) false ⟨#[], #[.slice none 0 0, .int .i64 0, .int .i64 0, .slice none 0 0], []⟩ 8 (by kernel_rfl) (by kernel_rfl) (by kernel_rfl) (by kernel_rfl)) ?_
 intro W base args ds gs before hval hW _ hw _
 exact Qc (P := Try.prog) (cut := []) (N := 12) prq laidOut cuts (by kernel_rfl) (tb := 4) (by kernel_rfl) (by kernel_rfl) tys rfl (fun k vs h => h.length) (fun ds h => by
  match ds, h with
  | [_, _, _, _], _ => rfl) W base args ds gs before (fun _ => run4) hval hW hw
theorem over : Rows.voteKeepsRow.holds Try.pinned (OpenSpec.ofChange Rows.voteKeepsSpec) :=
 OpenClaim.holds_of_wide 4 Try.f4 rfl rfl rfl rfl rfl rfl rfl ⟨rfl, rfl, rfl, rfl, rfl⟩ rfl rfl rfl rfl rfl (by kernel_rfl) Try.func4 (by kernel_rfl)
  (of_decide_eq_true (by kernel_rfl)) (by unfold Func.isWrapper; first | (rw [if_pos (by decide +kernel)]; kernel_rfl) | (rw [if_neg (by decide +kernel)]; exact ⟨rfl, rfl⟩))
  (fun os started H enc _ => lifted os started H enc)
end voteKeeps
theorem voteKeeps_holds : Rows.VoteKeepsSaid := voteKeeps.over
end Go.Proofs.Ythmjaeflpgcmdaa
