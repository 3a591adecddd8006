/- The law RaftNobody is true of whatever it may be given, and leaves its arguments as they were: no condition. -/
import Derived.Test.YtkhkacbejilafaaGreatRows
import Derived.Test.YtkhkacbejilafaaGreatLsNobody
import Derived.JoinedOf
set_option linter.unusedVariables false
namespace Go.Proofs.YtkhkacbejilafaaGreat
open Go.LS
namespace raftNobody
theorem own : ownKnob Tryz.prog.godebug = none := by kernel_rfl
theorem laidOut : laidOutB Tryz.prog = true := by kernel_rfl
theorem cuts : ∀ e ∈ ([56] : List TypeId), ∀ Q, ∃ ts, tyT Tryz.prog [56] Q 12 e = some ts ∧ ts.length = Tryz.prog.cellsOf e ∧ 0 < ts.length := by
  intro e he Q
  simp only [List.mem_cons, List.not_mem_nil, or_false] at he
  rcases he with rfl
  · exact ⟨(tyT Tryz.prog [56] Q 12 56).getD [], by kernel_rfl, by kernel_rfl, Nat.lt_of_lt_of_eq (show 0 < 5 by decide) (by kernel_rfl)⟩
theorem tys : ∀ k, tyPs Tryz.prog [56] (RecOk Tryz.prog [56] 12 k) 12 Tryz.f9.params.toList = some [(true, [.int .i64, .int .i64, .int .i64, .int .i64, .int .i64, .int .i64, .int .i64, .int .i64, .bool, .sl [.int .i64, .int .i64, .str, .str, .int .i64, .int .i64, .str, .pr (RecOk Tryz.prog [56] 12 k 56) 80, .sl [.str] 16, .int .i64, .int .i64, .str, .pr (RecOk Tryz.prog [56] 12 k 56) 80, .sl [.str] 16, .sl [.int .i64, .sl [.str] 16, .int .i64, .int .i64, .str, .pr (RecOk Tryz.prog [56] 12 k 56) 80, .sl [.str] 16, .int .i64] 120, .int .i64, .int .i64] 248, .sl [.int .u8] 1]), (true, [.int .i64, .int .i64, .str, .str, .int .i64, .int .i64, .str, .pr (RecOk Tryz.prog [56] 12 k 56) 80, .sl [.str] 16, .int .i64, .int .i64, .str, .pr (RecOk Tryz.prog [56] 12 k 56) 80, .sl [.str] 16, .sl [.int .i64, .sl [.str] 16, .int .i64, .int .i64, .str, .pr (RecOk Tryz.prog [56] 12 k 56) 80, .sl [.str] 16, .int .i64] 120, .int .i64, .int .i64]), (false, [.int .i64])] := fun k => by kernel_rfl
set_option maxRecDepth 100000 in
theorem lifted (os : Os) (started : os.Started) (H : Type) (enc : TypeId × Value → H) :
    ReturnsInHanded {} Tryz.checked os 9 .any (Rows.raftNobodySpec.pre6 enc Tryz.prog Tryz.f9 Rows.raftNobodyRow.domain false) (Rows.raftNobodySpec.post enc Tryz.prog Tryz.f9 false true false false) := by
  refine returnsInHanded_of_change_sized (C := Tryz.checked) own started (by kernel_rfl) Tryz.func9
    (ChangeSpec.witness6 (enc := enc) (C := Tryz.checked) false ⟨#[], #[.agg #[.int .i64 0, .int .i64 0, .int .i64 0, .int .i64 0, .int .i64 0, .int .i64 0, .int .i64 0, .int .i64 0, .bool false, .slice none 0 0, .slice none 0 0], .agg #[.int .i64 0, .int .i64 0, .string ByteArray.empty, .string ByteArray.empty, .int .i64 0, .int .i64 0, .string ByteArray.empty, .slice none 0 0, .slice none 0 0, .int .i64 0, .int .i64 0, .string ByteArray.empty, .slice none 0 0, .slice none 0 0, .slice none 0 0, .int .i64 0, .int .i64 0], .int .i64 0], []⟩ 8 (by kernel_rfl) (by kernel_rfl) (by kernel_rfl) (by kernel_rfl)) ?_
  intro W base args ds gs before hval hW _ hw _
  exact law_contract (P := Tryz.prog) (cut := [56]) (N := 12) pr laidOut cuts (by kernel_rfl) (tb := 4) (by kernel_rfl) (by kernel_rfl) tys rfl (fun k vs h => h.length) (fun ds h => by
    match ds, h with
    | [_, _, _], _ => rfl) W base args ds gs before run9 hval hW hw
theorem over : Rows.raftNobodyRow.holds Tryz.pinned (OpenSpec.ofChange Rows.raftNobodySpec) :=
  OpenClaim.holds_of_wide 9 Tryz.f9 rfl rfl rfl rfl rfl rfl rfl ⟨rfl, rfl, rfl, rfl, rfl⟩ rfl rfl rfl rfl rfl (by kernel_rfl) Tryz.func9 (by kernel_rfl)
    (of_decide_eq_true (by kernel_rfl)) (by unfold Func.isWrapper; first | (rw [if_pos (by decide +kernel)]; kernel_rfl) | (rw [if_neg (by decide +kernel)]; exact ⟨rfl, rfl⟩))
    (fun os started H enc _ => lifted os started H enc)
end raftNobody
theorem raftNobody_holds : Rows.RaftNobodySaid := raftNobody.over
end Go.Proofs.YtkhkacbejilafaaGreat
