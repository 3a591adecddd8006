import Derived.Test.YtlkhoaoodgebjaaGreatDoorRows
import Derived.Test.YtlkhoaoodgebjaaGreatDoorLsRunNobody
import Derived.JoinedOf
import Derived.SevenTiedAt
import Derived.Test.YtlkhoaoodgebjaaGreatDoorCards
import Derived.Test.YtlkhoaoodgebjaaGreatDoorTie
import Derived.Lay
import Derived.LaidLaws
import Derived.MakeChecks
set_option linter.unusedVariables false
namespace Go.Proofs.YtlkhoaoodgebjaaGreatDoor
open Go.LS
namespace walNobody
theorem own : ownKnob Tryz.prog.godebug = none := by kernel_rfl
theorem laidOut : laidOutB Tryz.prog = true := by kernel_rfl
theorem cuts : ∀ e ∈ ([] : List TypeId), ∀ Q, ∃ ts, tyT Tryz.prog [] Q 12 e = some ts ∧ ts.length = Tryz.prog.cellsOf e ∧ 0 < ts.length := by
  intro e he Q
  cases he
theorem tys : ∀ k, tyPs Tryz.prog [] (RecOk Tryz.prog [] 12 k) 12 Tryz.f3.params.toList = some [(true, [.int .i64, .int .i64, .int .i64, .sl [.int .u8] 1, .sl [.str, .int .i64] 24])] := fun k => by kernel_rfl
def listed : List (String × DataW Unit) := [("math/bits.deBruijn32tab", Rows.laid_math_bits_deBruijn32tab), ("math/bits.deBruijn64tab", Rows.laid_math_bits_deBruijn64tab), ("internal/strconv.uint64pow10", Rows.laid_internal_strconv_uint64pow10)]
set_option maxRecDepth 100000 in
theorem lifted (os : Os) (started : os.Started) (H : Type) (enc : TypeId × Value → H) :
    ReturnsInHanded {} Tryz.checked os 3 .any (fun w args => (Rows.walNobodySpec.pre enc Tryz.prog Tryz.f3 Rows.walNobodyRow.domain false w args ∧ laidMetH Tryz.prog listed w) ∧ sizedMet enc Tryz.prog Tryz.f3 (OpenSpec.ofChange Rows.walNobodySpec) false w args) (Rows.walNobodySpec.post enc Tryz.prog Tryz.f3 false true false false) := by
  refine returnsInHanded_of_change_and (C := Tryz.checked) (X := fun w _ => laidMetH Tryz.prog listed w) (fun _ _ _ hh h => h.of_heap hh) own started (by kernel_rfl) Tryz.func3
    (ChangeSpec.witness_shaped (enc := enc) (C := Tryz.checked) (os := os) (X := fun w _ => laidMetH Tryz.prog listed w) false (World.laidAll Tryz.prog os listed) #[.agg #[.int .i64 0, .int .i64 0, .int .i64 0, .slice none 0 0, .slice none 0 0]] 8 (World.laidAll_os _ _ _)
      (World.shaped_of_ZipB (by kernel_rfl) (by kernel_rfl)) (by kernel_rfl) (by kernel_rfl) (by kernel_rfl)
      (by rw [MakeChecks.laidMetH_plain _ _ _ (by kernel_rfl)]; exact laidMet_laidAll _ (by kernel_rfl) (by kernel_rfl))) ?_
  intro W base args ds gs before hval hW _ hw _ _
  exact law_contract (P := Tryz.prog) (cut := []) (N := 12) pr laidOut cuts (by kernel_rfl) (tb := 4) (by kernel_rfl) (by kernel_rfl) tys rfl (fun k vs h => h.length) (fun ds h => by
    match ds, h with
    | [_], _ => rfl) W base args ds gs before (fun _ => run3) hval hW hw
theorem over : Rows.walNobodyRow.holds Tryz.pinned (OpenSpec.ofChange Rows.walNobodySpec) :=
  OpenClaim.holds_of_wide 3 Tryz.f3 rfl rfl rfl rfl rfl rfl rfl ⟨rfl, rfl, rfl, rfl, rfl⟩ rfl rfl rfl rfl rfl (by kernel_rfl) Tryz.func3 (by kernel_rfl)
    (of_decide_eq_true (by kernel_rfl)) (by unfold Func.isWrapper; first | (rw [if_pos (by decide +kernel)]; kernel_rfl) | (rw [if_neg (by decide +kernel)]; exact ⟨rfl, rfl⟩))
    (fun os started H enc _ => lifted os started H enc)
end walNobody
set_option maxRecDepth 100000 in
theorem walNobodyCard_holds : Rows.WalNobodyCardSaid :=
  Claim7.holds_tied_plain_at .later [] [.data, .data, .data] true (true, "458ff3d30d47d2b78f8c0f2ecacdb46b05012a8244ced9bf59a96beec2b71fc1") false walNobody.over (fun _ h => by cases h) (by kernel_rfl) (fun _ h => by cases h) walNobody_row_tie rfl ⟨rfl, rfl⟩ (by kernel_rfl) rfl
    (fun f fn hf hfn => by
      obtain rfl : f = 3 := Option.some.inj ((show Tryz.prog.funcNamed "tributary/tributarylaw11.WalNobody" = some 3 by kernel_rfl).symm.trans hf) |>.symm
      obtain rfl : fn = Tryz.f3 := (Option.some.inj (Tryz.func3.symm.trans hfn)).symm
      exact ⟨by kernel_rfl, fun j t ht => by
        have hm : t ∈ Tryz.f3.params.toList := by simpa using Array.mem_of_getElem? ht
        have hall : (Tryz.f3.params.toList.all fun u => !Tryz.prog.wantsStandIn u) = true := by kernel_rfl
        exact (show Tryz.prog.wantsStandIn t = false by simpa using List.all_eq_true.1 hall t hm)⟩)
    (by kernel_rfl)
end Go.Proofs.YtlkhoaoodgebjaaGreatDoor
