import Derived.Test.YtopbbbhhbnghpaaGreatDoorRows
import Derived.Test.YtopbbbhhbnghpaaGreatDoorLsRunNames
import Derived.JoinedOf
import Derived.SevenTiedAt
import Derived.Test.YtopbbbhhbnghpaaGreatDoorCards
import Derived.Test.YtopbbbhhbnghpaaGreatDoorLsTie
import Derived.Test.YtopbbbhhbnghpaaGreatDoorLsJf
import Derived.Test.YtopbbbhhbnghpaaGreatDoorLsJh
import Derived.Lay
import Derived.LaidLaws
import Derived.MakeChecks
set_option linter.unusedVariables false
namespace Go.Proofs.YtopbbbhhbnghpaaGreatDoor
open Go.LS
namespace topNames
theorem own : ownKnob Tryz.prog.godebug = none := by kernel_rfl
theorem laidOut : laidOutB Tryz.prog = true := jfT2
theorem cuts : ∀ e ∈ ([] : List TypeId), ∀ Q, ∃ ts, tyT Tryz.prog [] Q 12 e = some ts ∧ ts.length = Tryz.prog.cellsOf e ∧ 0 < ts.length := by
  intro e he Q
  cases he
theorem tys : ∀ k, tyPs Tryz.prog [] (RecOk Tryz.prog [] 12 k) 12 Tryz.f4.params.toList = some [] := fun k => by kernel_rfl
def listed : List (String × DataW Unit) := [("math/bits.deBruijn32tab", Rows.laid_math_bits_deBruijn32tab), ("math/bits.deBruijn64tab", Rows.laid_math_bits_deBruijn64tab), ("internal/strconv.uint64pow10", Rows.laid_internal_strconv_uint64pow10)]
set_option maxRecDepth 100000 in
theorem lifted (os : Os) (started : os.Started) (H : Type) (enc : TypeId × Value → H) :
    ReturnsInHanded {} Tryz.checked os 4 .any (fun w args => (Rows.topNamesSpec.pre enc Tryz.prog Tryz.f4 Rows.topNamesRow.domain false w args ∧ laidMetH Tryz.prog listed w) ∧ sizedMet enc Tryz.prog Tryz.f4 (OpenSpec.ofChange Rows.topNamesSpec) false w args) (Rows.topNamesSpec.post enc Tryz.prog Tryz.f4 false true false false) := by
  refine returnsInHanded_of_change_and (C := Tryz.checked) (X := fun w _ => laidMetH Tryz.prog listed w) (fun _ _ _ hh h => h.of_heap hh) own started (by kernel_rfl) Tryz.func4
    (ChangeSpec.witness_shaped (enc := enc) (C := Tryz.checked) (os := os) (X := fun w _ => laidMetH Tryz.prog listed w) false (World.laidAll Tryz.prog os listed) #[] 8 (World.laidAll_os _ _ _)
      (World.shaped_of_ZipB (by kernel_rfl) (by kernel_rfl)) (by kernel_rfl) (by kernel_rfl) (by kernel_rfl)
      (by rw [MakeChecks.laidMetH_plain _ _ _ (by kernel_rfl)]; exact laidMet_laidAll _ (by kernel_rfl) (by kernel_rfl))) ?_
  intro W base args ds gs before hval hW _ hw _ _
  exact law_contract (P := Tryz.prog) (cut := []) (N := 12) pr laidOut cuts (by kernel_rfl) (tb := 4) (by kernel_rfl) (by kernel_rfl) tys rfl (fun k vs h => h.length) (fun ds h => by
    match ds, h with
    | [], _ => rfl) W base args ds gs before (fun _ => run4) hval hW hw
theorem over : Rows.topNamesRow.holds Tryz.pinned (OpenSpec.ofChange Rows.topNamesSpec) :=
  OpenClaim.holds_of_wide 4 Tryz.f4 rfl rfl rfl rfl rfl rfl rfl ⟨rfl, rfl, rfl, rfl, rfl⟩ rfl rfl rfl rfl rfl fnT Tryz.func4 jfT
    (of_decide_eq_true (by kernel_rfl)) (by unfold Func.isWrapper; first | (rw [if_pos (by decide +kernel)]; kernel_rfl) | (rw [if_neg (by decide +kernel)]; exact ⟨rfl, rfl⟩))
    (fun os started H enc _ => lifted os started H enc)
end topNames
set_option maxRecDepth 100000 in
theorem topNamesCard_holds : Rows.TopNamesCardSaid :=
  Claim7.holds_tied_plain_at .later [] [.data, .data, .data] true (true, "e2a72654857b5edb207625d3693e7457b6d90eefae19e0f586fe52a69e7fedc8") true topNames.over (fun _ h => by cases h) (by kernel_rfl) (fun _ h => by cases h) topNames_row_tieT rfl ⟨rfl, rfl⟩ (by kernel_rfl) rfl
    (fun f fn hf hfn => by
      obtain rfl : f = 4 := Option.some.inj ((show Tryz.prog.funcNamed "tributary/tributarytop.TopNames" = some 4 from fnT).symm.trans hf) |>.symm
      obtain rfl : fn = Tryz.f4 := (Option.some.inj (Tryz.func4.symm.trans hfn)).symm
      exact ⟨by kernel_rfl, fun j t ht => by
        have hm : t ∈ Tryz.f4.params.toList := by simpa using Array.mem_of_getElem? ht
        have hall : (Tryz.f4.params.toList.all fun u => !Tryz.prog.wantsStandIn u) = true := by kernel_rfl
        exact (show Tryz.prog.wantsStandIn t = false by simpa using List.all_eq_true.1 hall t hm)⟩)
    goesT
end Go.Proofs.YtopbbbhhbnghpaaGreatDoor
