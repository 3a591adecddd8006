/- FrameCuts' run in LS tells true. -/
import Derived.Test.YthiilhepneddpaaLsCut3
import Derived.Test.YthiilhepneddpaaLsG5
set_option linter.unusedVariables false
set_option linter.unusedSimpArgs false
set_option maxRecDepth 100000
namespace Go.Proofs.Ythiilhepneddpaa
open Go Go.LS
theorem okBodies : ∀ {es : List (List PV)}, (∀ e ∈ es, okPVs [.sl [.int .u8] 1] e) → ∃ L : List (List UInt8), es = ef L
  | [], _ => ⟨[], rfl⟩
  | e :: r, h => by
    obtain ⟨L, rfl⟩ := okBodies (es := r) (fun x hx => h x (List.mem_cons_of_mem _ hx))
    obtain ⟨_, _, rfl, ⟨A, rfl, -, -, h3⟩, rfl⟩ := h e (List.mem_cons_self ..)
    obtain ⟨b, rfl⟩ := okBytes h3
    exact ⟨b :: L, rfl⟩
theorem cut_nil (n : Int) : Runs lp 6 [.p (.sl (ef [])), .p (.int .i64 n)] [] (.p (.bool true), []) := by
  by_cases h1 : n < 0
  · exact cutE_y (by simpa using h1)
  · by_cases h2 : 0 < n
    · exact cutE_ny (by simp; omega) (by simpa using h2)
    · have : n = 0 := by omega
      subst this
      exact ⟨300, by kernel_rfl⟩
theorem cut_true {L : List (List UInt8)} {n : Int} (hl : L.length ≤ 140737488355328) : Runs lp 6 [.p (.sl (ef L)), .p (.int .i64 n)] [] (.p (.bool true), []) := by
  by_cases hL : L = []
  · subst hL; exact cut_nil n
  · cases hf : fewL L with
    | false =>
      by_cases h500 : 500 < (L.getD 0 []).length
      · exact fcut_nn (gb := false) hf rfl (cut_many0 hL h500)
      · obtain ⟨M, h⟩ := cut_many (n := n) hl hf h500
        exact fcut_ny (gb := true) hf rfl h
    | true =>
      by_cases h1 : n < 0
      · exact fcut_yy hf hL (decide_eq_true h1)
      · by_cases h2 : (joined L).length < n
        · exact fcut_yny hf hL (decide_eq_false h1) (by rw [bs_len]; exact decide_eq_true (by omega))
        · obtain ⟨k, rfl⟩ := Int.eq_ofNat_of_zero_le (Int.not_lt.1 h1)
          have hf2 := hf
          simp only [fewL, Bool.and_eq_true, decide_eq_true_eq, List.all_eq_true] at hf2
          have hj := joined_le L hf2.2
          have hs := scan_cut L k (fun x hx => by have := hf2.2 x hx; omega)
          have hw := wn_le L k
          have hw0 := whole_loop hf (n := k) (B := joined L) (by omega) L.length 0 0 (by omega) (by omega)
          simp only [List.drop_zero, Nat.zero_add, Nat.sub_zero] at hw0
          have c3 : (decide ((k : Int) < 0)) = false := decide_eq_false h1
          have c4 : (decide ((k : Int) > ((List.length (bs (joined L)) : Nat) : Int))) = false := by rw [bs_len]; exact decide_eq_false (by omega)
          have hle : (k : Int) ≤ (List.length (α := UInt8) (joined L) : Int) := by omega
          have hpos : 0 < (joined L).length := by
            have := joined_len L
            have := List.length_pos_iff.2 hL
            omega
          have hLlen : (L.take (wn L k).1).length ≤ 1000000 := by rw [List.length_take]; omega
          rcases hw0 with hw0 | ⟨M, hw0⟩
          · by_cases hk : (k : Int) = ((joined L).length : Int)
            · have hk2 : k = (joined L).length := by omega
              have hs2 : scan (joined L) = (L.take (wn L k).1, (wn L k).2) := by rw [← hs, hk2, List.take_length]
              cases hn : nok (joined L) with
              | true =>
                have := @fcut_ynnnyny L k false
                simp only [Int.toNat_natCast, beq_self_eq_true] at this
                apply this <;> first | assumption | trivial | rfl | omega | (exact decide_eq_true hk) | (exact decide_eq_false (fun h => by rw [h] at hpos; simp at hpos)) | (simp only [List.length_nil]; omega)
              | false =>
                rw [scan_no hn] at hs2
                have e1 := (congrArg Prod.fst hs2).symm
                have e2 := (congrArg Prod.snd hs2).symm
                simp only at e1 e2
                have := @fcut_ynnnynn L k false
                simp only [Int.toNat_natCast, beq_self_eq_true] at this
                rw [e2] at this
                apply this <;> first | assumption | trivial | rfl | omega | (exact decide_eq_true hk) | (exact decide_eq_false (fun h => by rw [h] at hpos; simp at hpos)) | (simp only [List.length_nil]; omega) | (rw [e2] at hw0; exact hw0)
            · cases ht : decide ((joined L).take k = []) with
              | true =>
                have ht2 := of_decide_eq_true ht
                rw [ht2, show scan [] = ([], 0) from scan_no (by kernel_rfl)] at hs
                have e1 := (congrArg Prod.fst hs).symm
                have e2 := (congrArg Prod.snd hs).symm
                simp only at e1 e2
                have := @fcut_ynnnny L k false
                simp only [Int.toNat_natCast] at this
                rw [e2] at this
                apply this <;> first | assumption | trivial | rfl | omega | (exact decide_eq_false hk) | (simp only [List.length_nil, List.length_take]; omega) | (rw [e2] at hw0; exact hw0)
              | false =>
                cases hn : nok ((joined L).take k) with
                | true =>
                  have := @fcut_ynnnnny L k false
                  simp only [Int.toNat_natCast, beq_self_eq_true] at this
                  apply this <;> first | assumption | trivial | rfl | omega | (exact decide_eq_false hk) | (simp only [List.length_nil, List.length_take]; omega) | (rw [List.length_take]; omega)
                | false =>
                  rw [scan_no hn] at hs
                  have e1 := (congrArg Prod.fst hs).symm
                  have e2 := (congrArg Prod.snd hs).symm
                  simp only at e1 e2
                  have := @fcut_ynnnnnn L k false
                  simp only [Int.toNat_natCast, beq_self_eq_true] at this
                  rw [e2] at this
                  apply this <;> first | assumption | trivial | rfl | omega | (exact decide_eq_false hk) | (simp only [List.length_nil, List.length_take]; omega) | (rw [List.length_take]; omega) | (rw [e2] at hw0; exact hw0)
          · by_cases hk : (k : Int) = ((joined L).length : Int)
            · have hk2 : k = (joined L).length := by omega
              have hs2 : scan (joined L) = (L.take (wn L k).1, (wn L k).2) := by rw [← hs, hk2, List.take_length]
              cases hn : nok (joined L) with
              | true =>
                have := @fcut_ynnyyny L k M true
                simp only [Int.toNat_natCast, beq_self_eq_true] at this
                apply this <;> first | assumption | trivial | rfl | omega | (exact decide_eq_true hk) | (exact decide_eq_false (fun h => by rw [h] at hpos; simp at hpos)) | (simp only [List.length_nil]; omega)
              | false =>
                rw [scan_no hn] at hs2
                have e1 := (congrArg Prod.fst hs2).symm
                have e2 := (congrArg Prod.snd hs2).symm
                simp only at e1 e2
                have := @fcut_ynnyynn L k M true
                simp only [Int.toNat_natCast, beq_self_eq_true] at this
                rw [e2] at this
                apply this <;> first | assumption | trivial | rfl | omega | (exact decide_eq_true hk) | (exact decide_eq_false (fun h => by rw [h] at hpos; simp at hpos)) | (simp only [List.length_nil]; omega) | (rw [e2] at hw0; exact hw0)
            · cases ht : decide ((joined L).take k = []) with
              | true =>
                have ht2 := of_decide_eq_true ht
                rw [ht2, show scan [] = ([], 0) from scan_no (by kernel_rfl)] at hs
                have e1 := (congrArg Prod.fst hs).symm
                have e2 := (congrArg Prod.snd hs).symm
                simp only at e1 e2
                have := @fcut_ynnyny L k M true
                simp only [Int.toNat_natCast] at this
                rw [e2] at this
                apply this <;> first | assumption | trivial | rfl | omega | (exact decide_eq_false hk) | (simp only [List.length_nil, List.length_take]; omega) | (rw [e2] at hw0; exact hw0)
              | false =>
                cases hn : nok ((joined L).take k) with
                | true =>
                  have := @fcut_ynnynny L k M true
                  simp only [Int.toNat_natCast, beq_self_eq_true] at this
                  apply this <;> first | assumption | trivial | rfl | omega | (exact decide_eq_false hk) | (simp only [List.length_nil, List.length_take]; omega) | (rw [List.length_take]; omega)
                | false =>
                  rw [scan_no hn] at hs
                  have e1 := (congrArg Prod.fst hs).symm
                  have e2 := (congrArg Prod.snd hs).symm
                  simp only at e1 e2
                  have := @fcut_ynnynnn L k M true
                  simp only [Int.toNat_natCast, beq_self_eq_true] at this
                  rw [e2] at this
                  apply this <;> first | assumption | trivial | rfl | omega | (exact decide_eq_false hk) | (simp only [List.length_nil, List.length_take]; omega) | (rw [List.length_take]; omega) | (rw [e2] at hw0; exact hw0)

theorem run6 : ∀ vs, OkArgs [(false, [.sl [.sl [.int .u8] 1] 24]), (false, [.int .i64])] vs → ∃ k st', runF lp k 6 vs [] = some (.p (.bool true), st') := by
  rintro vs ⟨_, _, rfl, ⟨_, _, rfl, ⟨A, rfl, hA1, hA2, hA3⟩, rfl⟩, ⟨_, _, rfl, ⟨_, _, rfl, ⟨n, rfl, hn0, hn1⟩, rfl⟩, rfl⟩⟩
  obtain ⟨L, rfl⟩ := okBodies hA3
  rw [ef_len] at hA1
  replace hA1 : L.length ≤ 140737488355328 := by simp [reachBytes] at hA1; omega
  obtain ⟨k, hk⟩ := cut_true (n := n) hA1
  exact ⟨k, _, hk⟩
end Go.Proofs.Ythiilhepneddpaa
