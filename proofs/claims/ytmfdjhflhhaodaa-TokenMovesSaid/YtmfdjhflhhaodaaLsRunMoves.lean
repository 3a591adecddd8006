/- TokenMoves' run in LS tells true. -/
import Derived.Test.YtmfdjhflhhaodaaLsMoves
import Derived.Test.YtmfdjhflhhaodaaLsG5
set_option linter.unusedVariables false
set_option linter.unusedSimpArgs false
namespace Go.Proofs.Ytmfdjhflhhaodaa
open Go Go.LS

theorem okE_of {k : Nat} {E : List (List PV)} (h : ∀ e ∈ E, okPVs [.int .i64, .int .i64, .str, .str, .int .i64, .int .i64, .str, .pr (RecOk Try.prog [41] 12 k 41) 80, .sl [.str] 16, .int .i64, .int .i64, .str, .pr (RecOk Try.prog [41] 12 k 41) 80, .sl [.str] 16, .sl [.int .i64, .sl [.str] 16, .int .i64, .int .i64, .str, .pr (RecOk Try.prog [41] 12 k 41) 80, .sl [.str] 16, .int .i64] 120, .int .i64, .int .i64] e) : okE E := by
  intro e he
  obtain ⟨_, _, rfl, ⟨tv, rfl, _, _⟩, ⟨x1, _, rfl, _, ⟨x2, _, rfl, _, ⟨x3, _, rfl, _, ⟨x4, _, rfl, _, ⟨x5, _, rfl, _, ⟨x6, _, rfl, _, ⟨x7, _, rfl, _, ⟨x8, _, rfl, _, ⟨x9, _, rfl, _, ⟨x10, _, rfl, _, ⟨x11, _, rfl, _, ⟨x12, _, rfl, _, ⟨x13, _, rfl, _, ⟨x14, _, rfl, _, ⟨x15, _, rfl, _, ⟨x16, _, rfl, _, rfl⟩⟩⟩⟩⟩⟩⟩⟩⟩⟩⟩⟩⟩⟩⟩⟩⟩ := h e he
  exact ⟨tv, x1, x2, x3, x4, x5, x6, x7, x8, x9, x10, x11, x12, x13, x14, x15, x16, rfl⟩

/-- A token that is at home stays so, when more is behind; dropped, it is gone. -/
theorem thome_more {kd ix tm base : Int} {l more : List (List PV)} (h : thome kd ix tm 1 base l = 0) : thome kd ix tm 1 base (l ++ more) = 0 ∧ tmay kd ix tm = true ∧ 0 ≤ ix ∧ ix ≤ 1099511627776 := by
  unfold thome at h ⊢
  split at h
  · cases h
  · rename_i hm
    have hm' : tmay kd ix tm = true := by simpa using hm
    have hb := tmay_bounds hm'
    have hx : 0 ≤ ix ∧ ix ≤ 1099511627776 := by simp [tmay] at hm'; omega
    split at h
    · cases h
    · rename_i h1
      split at h
      · rename_i h2
        split at h
        · rename_i h3
          rw [if_neg hm, if_neg h1, if_pos h2, if_pos h3]
          exact ⟨rfl, hm', hx⟩
        · cases h
      · rename_i h2
        split at h
        · cases h
        · rename_i h3
          split at h
          · rename_i h4
            have hl : (ix - 1).toNat < l.length := by omega
            have e : trm (l ++ more) (ix - 1).toNat = trm l (ix - 1).toNat := by
              simp only [trm, List.getElem?_append_left hl]
            rw [if_neg hm, if_neg h1, if_neg h2, if_neg (by simp; omega), e, if_pos h4]
            exact ⟨rfl, hm', hx⟩
          · cases h
theorem thome_gone {kd ix tm base : Int} {E : List (List PV)} (hm : tmay kd ix tm = true) : thome kd ix tm (ix + 1 + 1) base E = 181 := by
  unfold thome
  rw [if_neg (by simp [hm]), if_pos (by omega)]

theorem small_mem {a b : Nat} (ha : a ≤ 200) (hb : b ≤ 200) : (a + b) * 248 ≤ 140737488355328 ∧ a + b ≤ 9223372036854775807 := by omega

theorem run5 : ∀ k vs, OkArgs [(true, [.int .i64, .int .i64, .int .i64]), (false, [.int .i64]), (false, [.sl [.int .i64, .int .i64, .str, .str, .int .i64, .int .i64, .str, .pr (RecOk Try.prog [41] 12 k 41) 80, .sl [.str] 16, .int .i64, .int .i64, .str, .pr (RecOk Try.prog [41] 12 k 41) 80, .sl [.str] 16, .sl [.int .i64, .sl [.str] 16, .int .i64, .int .i64, .str, .pr (RecOk Try.prog [41] 12 k 41) 80, .sl [.str] 16, .int .i64] 120, .int .i64, .int .i64] 248]), (false, [.sl [.int .i64, .int .i64, .str, .str, .int .i64, .int .i64, .str, .pr (RecOk Try.prog [41] 12 k 41) 80, .sl [.str] 16, .int .i64, .int .i64, .str, .pr (RecOk Try.prog [41] 12 k 41) 80, .sl [.str] 16, .sl [.int .i64, .sl [.str] 16, .int .i64, .int .i64, .str, .pr (RecOk Try.prog [41] 12 k 41) 80, .sl [.str] 16, .int .i64] 120, .int .i64, .int .i64] 248])] vs → ∃ k st', runF lp k 5 vs [] = some (.p (.bool true), st') := by
  rintro k vs ⟨ps, m, rfl, ⟨_, _, rfl, ⟨kd, rfl, -, -⟩, ⟨_, _, rfl, ⟨ix, rfl, -, -⟩, ⟨_, _, rfl, ⟨tm, rfl, -, -⟩, rfl⟩⟩⟩, ⟨_, _, rfl, ⟨_, _, rfl, ⟨base, rfl, -, -⟩, rfl⟩, ⟨_, _, rfl, ⟨_, _, rfl, ⟨l, rfl, -, -, hl⟩, rfl⟩, ⟨_, _, rfl, ⟨_, _, rfl, ⟨more, rfl, -, -, hmo⟩, rfl⟩, rfl⟩⟩⟩⟩
  replace hl := okE_of hl
  replace hmo := okE_of hmo
  have he0 : okE [] := fun e he => by cases he
  have key : Runs lp 5 [tok kd ix tm, .p (.int .i64 base), .p (.sl l), .p (.sl more)] [] (.p (.bool true), []) := by
    have b1 : (1 : Int) ≤ (1 : Int) ∧ (1 : Int) ≤ 9223372036854775807 := by decide
    by_cases hbig : l.length > 200 ∨ more.length > 200
    · by_cases hb1 : l.length > 200
      · exact mv_y (by simp; omega)
      · exact mv_ny (by simp; omega) (by simp; omega)
    · have k1 : (decide (((List.length l : Nat) : Int) > 200)) = false := by simp; omega
      have k2 : (decide (((List.length more : Nat) : Int) > 200)) = false := by simp; omega
      by_cases hh : thome kd ix tm 1 base l = 0
      · obtain ⟨h1, h2, h3, h4⟩ := thome_more (more := more) hh
        have hw : IntKind.wrap .i64 (ix + 1) = ix + 1 := wrap_i64 (by omega) (by omega)
        have hw2 : IntKind.wrap .i64 (ix + 1 + 1) = ix + 1 + 1 := wrap_i64 (by omega) (by omega)
        have hn : thome kd ix tm 1 base l ≠ 0 ↔ False := by simp [hh]
        have cell : ∀ (A : List (List PV)), okE A → ix + 1 < (A.length : Int) → ∃ (tv : Int) (x1 x2 x3 x4 x5 x6 x7 x8 x9 x10 x11 x12 x13 x14 x15 x16 : PV), A[Int.toNat (IntKind.wrap .i64 (IntKind.wrap .i64 (ix + 1) - 1))]? = some [.int .i64 tv, x1, x2, x3, x4, x5, x6, x7, x8, x9, x10, x11, x12, x13, x14, x15, x16] := by
          intro A hA hlt
          rw [hw, wrap_i64 (by omega) (by omega)]
          have hlt' : (ix + 1 - 1).toNat < A.length := by omega
          obtain ⟨tv, x1, x2, x3, x4, x5, x6, x7, x8, x9, x10, x11, x12, x13, x14, x15, x16, he⟩ := hA _ (List.getElem_mem hlt')
          exact ⟨tv, x1, x2, x3, x4, x5, x6, x7, x8, x9, x10, x11, x12, x13, x14, x15, x16, by rw [← he]; simp [hlt']⟩
        have ll : l.length ≤ 200 := Nat.le_of_not_lt fun h => hbig (.inl h)
        have lmore : more.length ≤ 200 := Nat.le_of_not_lt fun h => hbig (.inr h)
        have hh0 : ((thome kd ix tm 1 base l) != 0) = false := by rw [hh]; rfl
        by_cases hl0 : l = []
        · subst hl0
          by_cases hm0 : more = []
          · subst hm0
            exact mvE_ny b1 he0 hh0 (by rw [hw]; simp; omega)
          ·
            have hA : okE (([] : List (List PV)) ++ more) := he0.append hmo
            have hh2 : ((thome kd ix tm 1 base (([] : List (List PV)) ++ more)) != 0) = false := by
              have := h1
              simp only [List.nil_append] at this ⊢; simp [this]
            by_cases hge : ix + 1 ≥ (List.length (([] : List (List PV)) ++ more) : Int)
            · exact mvL_nnny k2 b1 he0 hh0 hmo.sized hm0 (small_mem (a := 0) (by decide) lmore).1 (small_mem (a := 0) (by decide) lmore).2 hA hh2 (by rw [hw]; simpa using hge)
            · obtain ⟨tv, x1, x2, x3, x4, x5, x6, x7, x8, x9, x10, x11, x12, x13, x14, x15, x16, hc⟩ := cell (([] : List (List PV)) ++ more) hA (by omega)
              have := @mvL_nnnn kd ix tm base more tv x1 x2 x3 x4 x5 x6 x7 x8 x9 x10 x11 x12 x13 x14 x15 x16 k2 b1 he0 hh0 hmo.sized hm0 (small_mem (a := 0) (by decide) lmore).1 (small_mem (a := 0) (by decide) lmore).2 hA hh2 (by rw [hw]; simp at hge ⊢; omega) (by rw [hw, wrap_i64 (by omega) (by omega)]; omega) hc hA.sized (by rw [hw]; omega) (by rw [hw]; omega) (by rw [hw, hw2]; omega) (hA.drop _)
              rw [show (thome kd ix tm (IntKind.wrap .i64 ((IntKind.wrap .i64 (ix + 1)) + 1)) tv (List.drop (Int.toNat (IntKind.wrap .i64 (ix + 1))) (([] : List (List PV)) ++ more)) == 181) = true by rw [hw, hw2, thome_gone h2]; rfl] at this
              exact this
        · by_cases hm0 : more = []
          · subst hm0
            have hA : okE (([] : List (List PV)) ++ l) := he0.append hl
            have hh2 : ((thome kd ix tm 1 base (([] : List (List PV)) ++ l)) != 0) = false := by
              have := hh
              simp only [List.nil_append] at this ⊢; simp [this]
            by_cases hge : ix + 1 ≥ (List.length (([] : List (List PV)) ++ l) : Int)
            · exact mvR_nnny k1 b1 hl hh0 hl.sized hl0 (small_mem (a := 0) (by decide) ll).1 (small_mem (a := 0) (by decide) ll).2 hA hh2 (by rw [hw]; simpa using hge)
            · obtain ⟨tv, x1, x2, x3, x4, x5, x6, x7, x8, x9, x10, x11, x12, x13, x14, x15, x16, hc⟩ := cell (([] : List (List PV)) ++ l) hA (by omega)
              have := @mvR_nnnn kd ix tm base l tv x1 x2 x3 x4 x5 x6 x7 x8 x9 x10 x11 x12 x13 x14 x15 x16 k1 b1 hl hh0 hl.sized hl0 (small_mem (a := 0) (by decide) ll).1 (small_mem (a := 0) (by decide) ll).2 hA hh2 (by rw [hw]; simp at hge ⊢; omega) (by rw [hw, wrap_i64 (by omega) (by omega)]; omega) hc hA.sized (by rw [hw]; omega) (by rw [hw]; omega) (by rw [hw, hw2]; omega) (hA.drop _)
              rw [show (thome kd ix tm (IntKind.wrap .i64 ((IntKind.wrap .i64 (ix + 1)) + 1)) tv (List.drop (Int.toNat (IntKind.wrap .i64 (ix + 1))) (([] : List (List PV)) ++ l)) == 181) = true by rw [hw, hw2, thome_gone h2]; rfl] at this
              exact this
          ·
            have hA : okE ((([] : List (List PV)) ++ l) ++ more) := (he0.append hl).append hmo
            have hh2 : ((thome kd ix tm 1 base ((([] : List (List PV)) ++ l) ++ more)) != 0) = false := by
              have := h1
              simp only [List.nil_append] at this ⊢; simp [this]
            by_cases hge : ix + 1 ≥ (List.length ((([] : List (List PV)) ++ l) ++ more) : Int)
            · exact mv_nnnny k1 k2 b1 hl hh0 hl.sized hl0 (small_mem (a := 0) (by decide) ll).1 (small_mem (a := 0) (by decide) ll).2 hmo.sized (small_mem ll lmore).1 (small_mem ll lmore).2 hA hh2 (by rw [hw]; simpa using hge)
            · obtain ⟨tv, x1, x2, x3, x4, x5, x6, x7, x8, x9, x10, x11, x12, x13, x14, x15, x16, hc⟩ := cell ((([] : List (List PV)) ++ l) ++ more) hA (by omega)
              have := @mv_nnnnn kd ix tm base l more tv x1 x2 x3 x4 x5 x6 x7 x8 x9 x10 x11 x12 x13 x14 x15 x16 k1 k2 b1 hl hh0 hl.sized hl0 (small_mem (a := 0) (by decide) ll).1 (small_mem (a := 0) (by decide) ll).2 hmo.sized (small_mem ll lmore).1 (small_mem ll lmore).2 hA hh2 (by rw [hw]; simp at hge ⊢; omega) (by rw [hw, wrap_i64 (by omega) (by omega)]; omega) hc hA.sized (by rw [hw]; omega) (by rw [hw]; omega) (by rw [hw, hw2]; omega) (hA.drop _)
              rw [show (thome kd ix tm (IntKind.wrap .i64 ((IntKind.wrap .i64 (ix + 1)) + 1)) tv (List.drop (Int.toNat (IntKind.wrap .i64 (ix + 1))) ((([] : List (List PV)) ++ l) ++ more)) == 181) = true by rw [hw, hw2, thome_gone h2]; rfl] at this
              exact this
      · have hh' : ((thome kd ix tm 1 base l) != 0) = true := by simpa using hh
        exact mv_nny k1 k2 b1 hl hh'
  obtain ⟨k, hk⟩ := key
  exact ⟨k, _, hk⟩
end Go.Proofs.Ytmfdjhflhhaodaa
