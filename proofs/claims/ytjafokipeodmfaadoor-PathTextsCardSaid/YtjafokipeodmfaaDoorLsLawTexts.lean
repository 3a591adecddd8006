import Derived.Test.YtjafokipeodmfaaDoorRows
import Derived.Test.YtjafokipeodmfaaDoorLsRunTexts
import Derived.JoinedOf
import Derived.SevenTiedAt
import Derived.Test.YtjafokipeodmfaaDoorCards
import Derived.Test.YtjafokipeodmfaaDoorTie
import Derived.Lay
import Derived.LaidLaws
import Derived.MakeChecks
set_option linter.unusedVariables false
namespace Go.Proofs.YtjafokipeodmfaaDoor
open Go.LS
namespace pathTexts
theorem own : ownKnob Tryd.prog.godebug = none := by kernel_rfl
theorem laidOut : laidOutB Tryd.prog = true := by kernel_rfl
theorem cuts : ∀ e ∈ ([] : List TypeId), ∀ Q, ∃ ts, tyT Tryd.prog [] Q 12 e = some ts ∧ ts.length = Tryd.prog.cellsOf e ∧ 0 < ts.length := by
  intro e he Q
  cases he
theorem tys : ∀ k, tyPs Tryd.prog [] (RecOk Tryd.prog [] 12 k) 12 Tryd.f4.params.toList = some [(false, [.sl [.str] 16])] := fun k => by kernel_rfl
def listed : List (String × DataW Unit) := [("unicode/utf8.acceptRanges", Rows.laid_unicode_utf8_acceptRanges), ("unicode/utf8.first", Rows.laid_unicode_utf8_first)]
set_option maxRecDepth 100000 in
theorem lifted (os : Os) (started : os.Started) (H : Type) (enc : TypeId × Value → H) :
    ReturnsInHanded {} Tryd.checked os 4 .any (fun w args => (Rows.pathTextsSpec.pre enc Tryd.prog Tryd.f4 Rows.pathTextsRow.domain false w args ∧ laidMetH Tryd.prog listed w) ∧ sizedMet enc Tryd.prog Tryd.f4 (OpenSpec.ofChange Rows.pathTextsSpec) false w args) (Rows.pathTextsSpec.post enc Tryd.prog Tryd.f4 false true false false) := by
  refine returnsInHanded_of_change_and (C := Tryd.checked) (X := fun w _ => laidMetH Tryd.prog listed w) (fun _ _ _ hh h => h.of_heap hh) own started (by kernel_rfl) Tryd.func4
    (ChangeSpec.witness_shaped (enc := enc) (C := Tryd.checked) (os := os) (X := fun w _ => laidMetH Tryd.prog listed w) false (World.laidAll Tryd.prog os listed) #[.slice none 0 0] 8 (World.laidAll_os _ _ _)
      (World.shaped_of_ZipB (by kernel_rfl) (by kernel_rfl)) (by kernel_rfl) (by kernel_rfl) (by kernel_rfl)
      (by rw [MakeChecks.laidMetH_plain _ _ _ (by kernel_rfl)]; exact laidMet_laidAll _ (by kernel_rfl) (by kernel_rfl))) ?_
  intro W base args ds gs before hval hW _ hw _ _
  exact law_contract (P := Tryd.prog) (cut := []) (N := 12) pr laidOut cuts (by kernel_rfl) (tb := 4) (by kernel_rfl) (by kernel_rfl) tys rfl (fun k vs h => h.length) (fun ds h => by
    match ds, h with
    | [_], _ => rfl) W base args ds gs before (fun _ => run4) hval hW hw
theorem over : Rows.pathTextsRow.holds Tryd.pinned (OpenSpec.ofChange Rows.pathTextsSpec) :=
  OpenClaim.holds_of_wide 4 Tryd.f4 rfl rfl rfl rfl rfl rfl rfl ⟨rfl, rfl, rfl, rfl, rfl⟩ rfl rfl rfl rfl rfl (by kernel_rfl) Tryd.func4 (by kernel_rfl)
    (of_decide_eq_true (by kernel_rfl)) (by unfold Func.isWrapper; first | (rw [if_pos (by decide +kernel)]; kernel_rfl) | (rw [if_neg (by decide +kernel)]; exact ⟨rfl, rfl⟩))
    (fun os started H enc _ => lifted os started H enc)
end pathTexts
set_option maxRecDepth 100000 in
theorem pathTextsCard_holds : Rows.PathTextsCardSaid :=
  Claim7.holds_tied_plain_at .later [] [.data, .pinned] true (true, "868894b061a0f78f3c1bf1af653824afbd2a563566eb969e1c3c37359d6ba4fb") false pathTexts.over (fun _ h => by cases h) (by kernel_rfl) (fun _ h => by cases h) pathTexts_row_tie rfl ⟨rfl, rfl⟩ (by kernel_rfl) rfl
    (fun f fn hf hfn => by
      obtain rfl : f = 4 := Option.some.inj ((show Tryd.prog.funcNamed "tributary/tributarylaw04.PathTexts" = some 4 by kernel_rfl).symm.trans hf) |>.symm
      obtain rfl : fn = Tryd.f4 := (Option.some.inj (Tryd.func4.symm.trans hfn)).symm
      exact ⟨by kernel_rfl, fun j t ht => by
        have hm : t ∈ Tryd.f4.params.toList := by simpa using Array.mem_of_getElem? ht
        have hall : (Tryd.f4.params.toList.all fun u => !Tryd.prog.wantsStandIn u) = true := by kernel_rfl
        exact (show Tryd.prog.wantsStandIn t = false by simpa using List.all_eq_true.1 hall t hm)⟩)
    (by kernel_rfl)
end Go.Proofs.YtjafokipeodmfaaDoor
