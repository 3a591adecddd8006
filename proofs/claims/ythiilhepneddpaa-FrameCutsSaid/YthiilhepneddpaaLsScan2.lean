/- The frame that comes next, the program's and the document's. -/
import Derived.Test.YthiilhepneddpaaLsScan
set_option linter.unusedVariables false
set_option linter.unusedSimpArgs false
namespace Go.Proofs.Ythiilhepneddpaa
open Go Go.LS

def nend (b : List UInt8) : Nat := glen b + gnum b
def nbody (b : List UInt8) : List UInt8 := (b.take (nend b)).drop (glen b)
/-- Does a frame come next? -/
def nok (b : List UInt8) : Bool := !(sCount (b, false) 65536).2.2 && decide (nend b + 4 ≤ b.length) && decide (four (crcS (b.take (nend b))) = (b.take (nend b + 4)).drop (nend b))

theorem nx_of {b : List UInt8} (h : (sCount (b, false) 65536).2.2 = false) : sCount (b, false) 65536 = ((gnum b : Int), b.drop (glen b), false) ∧ gnum b ≤ 65536 := by
  unfold sCount at h ⊢
  split at h
  · cases h
  · rename_i hc
    rw [if_neg hc]
    refine ⟨rfl, ?_⟩
    simp only [not_or] at hc
    have := hc.2.2.2
    omega

section
variable {b : List UInt8}

theorem vNext_no (hl : b.length ≤ 1000000) (h : nok b = false) : Runs lp 22 [.p (.sl (bs b))] [] (.tup [.tight [], .p (.int .i64 0)], []) := by
  by_cases hbad : (sCount (b, false) 65536).2.2 = true
  · exact vnext_y hbad
  · replace hbad : (sCount (b, false) 65536).2.2 = false := by simpa using hbad
    obtain ⟨hx, hg⟩ := nx_of hbad
    have hgl := glen_le b
    have e0 : IntKind.wrap .i64 (((List.length (bs b) : Nat) : Int) - sLeft (sCount (b, false) 65536).2) = ((glen b : Nat) : Int) := by
      rw [hx]; simp only [sLeft, bs_len, List.length_drop, Bool.false_eq_true, if_false]; rw [wrap_i64 (by omega) (by omega)]; omega
    have e1 : IntKind.wrap .i64 (((glen b : Nat) : Int) + (sCount (b, false) 65536).1) = ((nend b : Nat) : Int) := by
      rw [hx]; simp only [nend]; rw [wrap_i64 (by omega) (by omega)]; omega
    have e2 : IntKind.wrap .i64 (((nend b : Nat) : Int) + 4) = ((nend b + 4 : Nat) : Int) := by
      rw [wrap_i64 (by simp only [nend]; omega) (by simp only [nend]; omega)]; rfl
    have e3 : IntKind.wrap .i64 (sLeft (sCount (b, false) 65536).2 - 4) = (b.length : Int) - glen b - 4 := by
      rw [hx]; simp only [sLeft, bs_len, List.length_drop, Bool.false_eq_true, if_false]; rw [wrap_i64 (by omega) (by omega)]; omega
    by_cases hfit : nend b + 4 ≤ b.length
    · have hne : ¬ (four (crcS (b.take (nend b))) = (b.take (nend b + 4)).drop (nend b)) := by
        intro he
        simp [nok, hbad, hfit, he] at h
      have := @vnext_nny b
      rw [e0, e1, e2, e3] at this
      simp only [Int.toNat_natCast] at this
      exact this hbad (by rw [hx]; simp only [nend] at hfit; simp; omega) (by omega) (by omega) (by omega) (by omega) (by rw [List.length_take]; omega) (by rw [four_len]; omega) (by simpa using hne)
    · have := @vnext_ny b
      rw [e3] at this
      exact this hbad (by rw [hx]; simp only [nend] at hfit; simp; omega)
theorem vNext_e (hl : b.length ≤ 1000000) (h : nok b = true) (hb : nbody b = []) : Runs lp 22 [.p (.sl (bs b))] [] (.tup [.tight [], .p (.int .i64 ((nend b + 4 : Nat) : Int))], []) := by
  simp only [nok, Bool.and_eq_true, Bool.not_eq_true', decide_eq_true_eq] at h
  obtain ⟨⟨hbad, hfit⟩, heq⟩ := h
  · 
    obtain ⟨hx, hg⟩ := nx_of hbad
    have hgl := glen_le b
    have e0 : IntKind.wrap .i64 (((List.length (bs b) : Nat) : Int) - sLeft (sCount (b, false) 65536).2) = ((glen b : Nat) : Int) := by
      rw [hx]; simp only [sLeft, bs_len, List.length_drop, Bool.false_eq_true, if_false]; rw [wrap_i64 (by omega) (by omega)]; omega
    have e1 : IntKind.wrap .i64 (((glen b : Nat) : Int) + (sCount (b, false) 65536).1) = ((nend b : Nat) : Int) := by
      rw [hx]; simp only [nend]; rw [wrap_i64 (by omega) (by omega)]; omega
    have e2 : IntKind.wrap .i64 (((nend b : Nat) : Int) + 4) = ((nend b + 4 : Nat) : Int) := by
      rw [wrap_i64 (by simp only [nend]; omega) (by simp only [nend]; omega)]; rfl
    have e3 : IntKind.wrap .i64 (sLeft (sCount (b, false) 65536).2 - 4) = (b.length : Int) - glen b - 4 := by
      rw [hx]; simp only [sLeft, bs_len, List.length_drop, Bool.false_eq_true, if_false]; rw [wrap_i64 (by omega) (by omega)]; omega
    have := @vnext_nnny b
    rw [e0, e1, e2, e3] at this
    simp only [Int.toNat_natCast] at this
    exact this hbad (by rw [hx]; simp only [nend] at hfit; simp; omega) (by omega) (by omega) (by omega) (by omega) (by rw [List.length_take]; omega) (by rw [four_len]; omega) (by simp [heq]) (by omega) (by simp only [nend]; omega) (by simpa [nbody] using hb)
theorem vNext_y (hl : b.length ≤ 1000000) (h : nok b = true) (hb : nbody b ≠ []) : Runs lp 22 [.p (.sl (bs b))] [] (.tup [.sl (bs (nbody b)) 0 (nbody b).length, .p (.int .i64 ((nend b + 4 : Nat) : Int))], [.spare 1 (nbody b).length]) := by
  simp only [nok, Bool.and_eq_true, Bool.not_eq_true', decide_eq_true_eq] at h
  obtain ⟨⟨hbad, hfit⟩, heq⟩ := h
  · 
    obtain ⟨hx, hg⟩ := nx_of hbad
    have hgl := glen_le b
    have e0 : IntKind.wrap .i64 (((List.length (bs b) : Nat) : Int) - sLeft (sCount (b, false) 65536).2) = ((glen b : Nat) : Int) := by
      rw [hx]; simp only [sLeft, bs_len, List.length_drop, Bool.false_eq_true, if_false]; rw [wrap_i64 (by omega) (by omega)]; omega
    have e1 : IntKind.wrap .i64 (((glen b : Nat) : Int) + (sCount (b, false) 65536).1) = ((nend b : Nat) : Int) := by
      rw [hx]; simp only [nend]; rw [wrap_i64 (by omega) (by omega)]; omega
    have e2 : IntKind.wrap .i64 (((nend b : Nat) : Int) + 4) = ((nend b + 4 : Nat) : Int) := by
      rw [wrap_i64 (by simp only [nend]; omega) (by simp only [nend]; omega)]; rfl
    have e3 : IntKind.wrap .i64 (sLeft (sCount (b, false) 65536).2 - 4) = (b.length : Int) - glen b - 4 := by
      rw [hx]; simp only [sLeft, bs_len, List.length_drop, Bool.false_eq_true, if_false]; rw [wrap_i64 (by omega) (by omega)]; omega
    have := @vnext_nnnn b
    rw [e0, e1, e2, e3] at this
    simp only [Int.toNat_natCast] at this
    exact this hbad (by rw [hx]; simp only [nend] at hfit; simp; omega) (by omega) (by omega) (by omega) (by omega) (by rw [List.length_take]; omega) (by rw [four_len]; omega) (by simp [heq]) (by omega) (by simp only [nend]; omega) (by simpa [nbody] using hb) (by simp only [List.length_drop, List.length_take]; omega)

end
end Go.Proofs.Ythiilhepneddpaa
