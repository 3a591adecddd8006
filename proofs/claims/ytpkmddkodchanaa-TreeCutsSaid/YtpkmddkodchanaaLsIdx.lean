import Derived.Test.YtpkmddkodchanaaLsIdxW
set_option linter.unusedVariables false
set_option linter.unusedSimpArgs false
set_option maxRecDepth 100000
namespace Go.Proofs.Ytpkmddkodchanaa
open Go Go.LS
theorem pIxL {s : List UInt8} (hl : s.length ≤ 3) : ∀ (j i : Nat) (n : Int), i + j = s.length → 0 ≤ n → (i = 0 → n ≤ 0) → (i = 1 → n ≤ 9) → (i = 2 → n ≤ 99) →
    (∀ r, digsB (s.drop i) n = some r → LoopN lp 0 (loopNo lf45 0) (tl 0 43 [(4, .p (.int .i64 n)), (26, .it 0)]) [.siter s i] (.exit 0, tl 0 43 [(4, .p (.int .i64 r))], [.siter s s.length])) ∧
    (digsB (s.drop i) n = none → ∃ m, LoopN lp 0 (loopNo lf45 0) (tl 0 43 [(4, .p (.int .i64 n)), (26, .it 0)]) [.siter s i] (.ret, tl 0 43 [(2, .p (.int .i64 0)), (3, .p (.bool false))], [.siter s m])) := by
  intro j
  induction j with
  | zero =>
    intro i n h _ _ _ _
    obtain rfl : i = s.length := by omega
    rw [List.drop_length]
    refine ⟨fun r hr => ?_, fun hr => by simp [digsB] at hr⟩
    simp only [digsB, Option.some.injEq] at hr
    subst hr
    exact pIxR_n (decide_eq_false (by omega))
  | succ j ih =>
    intro i n h h0 b0 b1 b2
    have hi : i < s.length := by omega
    have hx : s[i]? = some s[i] := List.getElem?_eq_getElem hi
    have e : s.getD i 0 = s[i] := by rw [List.getD, hx]; rfl
    have hi' := decide_eq_true hi
    rw [drop_get hx]
    simp only [digsB]
    by_cases c0 : s[i].toNat < 48
    · rw [if_pos (by simp [c0])]
      refine ⟨fun r hr => by simp at hr, fun _ => ⟨i + 1, pIxR_yyy hi' (by rw [e]; exact decide_eq_true (by omega)) (by rw [e]; exact decide_eq_true (by omega))⟩⟩
    · by_cases c1 : 57 < s[i].toNat
      · rw [if_pos (by simp [c1])]
        refine ⟨fun r hr => by simp at hr, fun _ => ?_⟩
        by_cases ca : s[i].toNat < 128
        · exact ⟨i + 1, pIxR_yyny hi' (by rw [e]; exact decide_eq_true ca) (by rw [e]; exact decide_eq_false (by omega)) (by rw [e]; exact decide_eq_true (by omega))⟩
        · have hd := decode_high4 (s := s) (i := i) (by rw [e]; exact ca)
          exact ⟨_, pIxR_ynny hi' (by rw [e]; exact decide_eq_false ca) (decide_eq_false (by omega)) (decide_eq_true (by omega))⟩
      · rw [if_neg (by simp [c0, c1])]
        have hb : n ≤ 99 := by omega
        obtain ⟨i1, i2⟩ := ih (i + 1) (10 * n + ((s[i].toNat : Int) - 48)) (by omega) (by omega) (by omega) (by omega) (by omega)
        refine ⟨fun r hr => ?_, fun hr => ?_⟩
        · exact pIxR_yynn hi' (by rw [e]; exact decide_eq_true (by omega)) (by rw [e]; exact decide_eq_false (by omega)) (by rw [e]; exact decide_eq_false (by omega)) (by rw [e, ixW32 h0 hb c0 c1]; exact i1 r hr)
        · obtain ⟨m, hm⟩ := i2 hr
          exact ⟨m, pIxR_yynn hi' (by rw [e]; exact decide_eq_true (by omega)) (by rw [e]; exact decide_eq_false (by omega)) (by rw [e]; exact decide_eq_false (by omega)) (by rw [e, ixW32 h0 hb c0 c1]; exact hm)⟩
theorem rIxL {s : List UInt8} (hl : s.length ≤ 3) : ∀ (j i : Nat) (n : Int), i + j = s.length → 0 ≤ n → (i = 0 → n ≤ 0) → (i = 1 → n ≤ 9) → (i = 2 → n ≤ 99) →
    (∀ r, digsB (s.drop i) n = some r → LoopN lp 0 (loopNo lf38 0) (tl 0 48 [(0, .p (.str s)), (3, .p (.int .i64 n)), (4, .p (.int .i64 (i : Int)))]) [] (.exit 0, tl 0 48 [(3, .p (.int .i64 r))], [])) ∧
    (digsB (s.drop i) n = none → LoopN lp 0 (loopNo lf38 0) (tl 0 48 [(0, .p (.str s)), (3, .p (.int .i64 n)), (4, .p (.int .i64 (i : Int)))]) [] (.ret, tl 0 48 [(2, .p (.int .i64 (-1)))], [])) := by
  intro j
  induction j with
  | zero =>
    intro i n h _ _ _ _
    obtain rfl : i = s.length := by omega
    rw [List.drop_length]
    refine ⟨fun r hr => ?_, fun hr => by simp [digsB] at hr⟩
    simp only [digsB, Option.some.injEq] at hr
    subst hr
    exact rIxR_n dlt_n
  | succ j ih =>
    intro i n h h0 b0 b1 b2
    have hi : i < s.length := by omega
    have hx : s[i]? = some s[i] := List.getElem?_eq_getElem hi
    have e : s.getD i 0 = s[i] := by rw [List.getD, hx]; rfl
    rw [drop_get hx]
    simp only [digsB]
    by_cases c0 : s[i].toNat < 48
    · rw [if_pos (by simp [c0])]
      exact ⟨fun r hr => by simp at hr, fun _ => rIxR_yy (dlt hi) hi (by rw [e]; exact decide_eq_true (by omega))⟩
    · by_cases c1 : 57 < s[i].toNat
      · rw [if_pos (by simp [c1])]
        exact ⟨fun r hr => by simp at hr, fun _ => rIxR_yny (dlt hi) hi (by rw [e]; exact decide_eq_false (by omega)) (by rw [e]; exact decide_eq_true (by omega))⟩
      · rw [if_neg (by simp [c0, c1])]
        have hb : n ≤ 99 := by omega
        obtain ⟨i1, i2⟩ := ih (i + 1) (10 * n + ((s[i].toNat : Int) - 48)) (by omega) (by omega) (by omega) (by omega) (by omega)
        have on : ∀ {r}, LoopN lp 0 (loopNo lf38 0) (tl 0 48 [(0, .p (.str s)), (3, .p (.int .i64 (10 * n + ((s[i].toNat : Int) - 48)))), (4, .p (.int .i64 ((i + 1 : Nat) : Int)))]) [] r → LoopN lp 0 (loopNo lf38 0) (tl 0 48 [(0, .p (.str s)), (3, .p (.int .i64 n)), (4, .p (.int .i64 (i : Int)))]) [] r := fun {r} hr => @rIxR_ynn s i n (dlt hi) hi (by rw [e]; exact decide_eq_false (by omega)) (by rw [e]; exact decide_eq_false (by omega)) r (by rw [e, ixW8 h0 hb c0 c1, nx (by omega)]; exact hr)
        exact ⟨fun r hr => on (i1 r hr), fun hr => on (i2 hr)⟩
theorem pIx (s : List UInt8) : Runs lp 45 [.p (.str s)] [] (.tup [.p (.int .i64 (Option.getD (idxB s) 0)), .p (.bool (Option.isSome (idxB s)))], []) := by
  have key : s.length ≤ 3 → ∃ (bb : Bool) (i : Nat) (n : Int), (bb = true → digsB s 0 = some n) ∧ (bb = false → digsB s 0 = none) ∧
      (bb = true → LoopN lp 0 (loopNo lf45 0) (tl 0 43 [(4, .p (.int .i64 0)), (26, .it 0)]) [.siter s 0] (.exit 0, tl 0 43 [(4, .p (.int .i64 n))], [.siter s i])) ∧
      (bb = false → LoopN lp 0 (loopNo lf45 0) (tl 0 43 [(4, .p (.int .i64 0)), (26, .it 0)]) [.siter s 0] (.ret, tl 0 43 [(2, .p (.int .i64 0)), (3, .p (.bool false))], [.siter s i])) := by
    intro hl
    have l := pIxL hl s.length 0 0 (by omega) (by omega) (by omega) (by omega) (by omega)
    rw [List.drop_zero] at l
    cases hd : digsB s 0 with
    | some r => exact ⟨true, _, r, fun _ => rfl, fun h => by simp at h, fun _ => l.1 r hd, fun h => by simp at h⟩
    | none => obtain ⟨m, hm⟩ := l.2 hd; exact ⟨false, m, 0, fun h => by simp at h, fun _ => rfl, fun h => by simp at h, fun _ => hm⟩
  by_cases hl : s.length ≤ 3
  · obtain ⟨bb, i, n, d1, d2, l1, l2⟩ := key hl
    refine ifE (pIx0 (i := i) (n := n) (bb := bb) (fun _ _ h => by have := of_decide_eq_true h; omega) (fun _ _ _ _ => l1) (fun _ _ _ _ => l2) (fun _ _ _ => l1) (fun _ _ _ => l2)) ?_
    have g3 : decide (((s.length : Nat) : Int) > 3) = false := decide_eq_false (by omega)
    rw [g3]
    unfold idxB
    by_cases h1 : s.length < 1
    · rw [decide_eq_true (show ((s.length : Nat) : Int) < 1 by omega)]; simp [h1]
    · rw [decide_eq_false (show ¬ ((s.length : Nat) : Int) < 1 by omega)]
      by_cases h2 : 1 < s.length
      · rw [decide_eq_true (show ((s.length : Nat) : Int) > 1 by omega)]
        by_cases h3 : (s.getD 0 0).toNat = 48
        · have e3 : (((s.getD 0 0).toNat : Int) == 48) = true := by rw [h3]; rfl
          rw [e3]
          simp only [h3, h2]
          simp
        · have e3 : (((s.getD 0 0).toNat : Int) == 48) = false := beq_eq_false_iff_ne.2 (by omega)
          have e4 : ((s.getD 0 0).toNat == 48) = false := by simpa using h3
          have e5 : (decide (s.length < 1) || decide (3 < s.length) || decide (1 < s.length) && (s.getD 0 0).toNat == 48) = false := by
            rw [e4, Bool.and_false, Bool.or_false, Bool.or_eq_false_iff]; exact ⟨decide_eq_false h1, decide_eq_false (by omega)⟩
          rw [e3, e5]
          cases bb with
          | true => rw [d1 rfl]; rfl
          | false => rw [d2 rfl]; rfl
      · rw [decide_eq_false (show ¬ ((s.length : Nat) : Int) > 1 by omega)]
        have e5 : (decide (s.length < 1) || decide (3 < s.length) || decide (1 < s.length) && (s.getD 0 0).toNat == 48) = false := by
          rw [decide_eq_false h2, Bool.false_and, Bool.or_false, Bool.or_eq_false_iff]; exact ⟨decide_eq_false h1, decide_eq_false (by omega)⟩
        rw [e5]
        cases bb with
        | true => rw [d1 rfl]; rfl
        | false => rw [d2 rfl]; rfl
  · have g3 : decide (((s.length : Nat) : Int) > 3) = true := decide_eq_true (by omega)
    have g1 : decide (((s.length : Nat) : Int) < 1) = false := decide_eq_false (by omega)
    have no : ∀ {x : Prop}, decide (((s.length : Nat) : Int) > 3) = false → x := fun h => by rw [g3] at h; simp at h
    refine ifE (pIx0 (i := 0) (n := 0) (bb := true) (fun _ h => no h) (fun _ h => no h) (fun _ h => no h) (fun _ h => no h) (fun _ h => no h)) ?_
    rw [g1, g3]
    unfold idxB
    have e5 : (decide (s.length < 1) || decide (3 < s.length) || decide (1 < s.length) && (s.getD 0 0).toNat == 48) = true := by
      rw [decide_eq_true (show 3 < s.length by omega)]; simp
    rw [e5]
    rfl
theorem rIx (s : List UInt8) : Runs lp 38 [.p (.str s)] [] (.p (.int .i64 (Option.getD (idxB s) (-1))), []) := by
  by_cases hl : s.length ≤ 3
  · have l := rIxL hl s.length 0 0 (by omega) (by omega) (by omega) (by omega) (by omega)
    rw [List.drop_zero] at l
    obtain ⟨bb, n, d1, d2, l1, l2⟩ : ∃ (bb : Bool) (n : Int), (bb = true → digsB s 0 = some n) ∧ (bb = false → digsB s 0 = none) ∧
        (bb = true → LoopN lp 0 (loopNo lf38 0) (tl 0 48 [(0, .p (.str s)), (3, .p (.int .i64 0)), (4, .p (.int .i64 0))]) [] (.exit 0, tl 0 48 [(3, .p (.int .i64 n))], [])) ∧
        (bb = false → LoopN lp 0 (loopNo lf38 0) (tl 0 48 [(0, .p (.str s)), (3, .p (.int .i64 0)), (4, .p (.int .i64 0))]) [] (.ret, tl 0 48 [(2, .p (.int .i64 (-1)))], [])) := by
      cases hd : digsB s 0 with
      | some r => exact ⟨true, r, fun _ => rfl, fun h => by simp at h, fun _ => l.1 r hd, fun h => by simp at h⟩
      | none => exact ⟨false, 0, fun h => by simp at h, fun _ => rfl, fun h => by simp at h, fun _ => l.2 hd⟩
    refine ifE (rIx0 (n := n) (bb := bb) (fun h _ => by have := of_decide_eq_false h; omega) (fun _ _ _ _ => l1) (fun _ _ _ _ => l2) (fun _ _ _ => l1) (fun _ _ _ => l2)) ?_
    have g3 : decide (((s.length : Nat) : Int) > 3) = false := decide_eq_false (by omega)
    rw [g3]
    unfold idxB
    by_cases h1 : s.length < 1
    · rw [decide_eq_true (show ((s.length : Nat) : Int) < 1 by omega)]; simp [h1]
    · rw [decide_eq_false (show ¬ ((s.length : Nat) : Int) < 1 by omega)]
      by_cases h3 : (s.getD 0 0).toNat = 48
      · have e3 : (((s.getD 0 0).toNat : Int) == 48) = true := by rw [h3]; rfl
        rw [e3]
        by_cases h2 : 1 < s.length
        · rw [decide_eq_true (show ((s.length : Nat) : Int) > 1 by omega)]
          simp only [h3, h2]
          simp
        · rw [decide_eq_false (show ¬ ((s.length : Nat) : Int) > 1 by omega)]
          have e5 : (decide (s.length < 1) || decide (3 < s.length) || decide (1 < s.length) && (s.getD 0 0).toNat == 48) = false := by
            rw [decide_eq_false h2, Bool.false_and, Bool.or_false, Bool.or_eq_false_iff]; exact ⟨decide_eq_false h1, decide_eq_false (by omega)⟩
          rw [e5]
          cases bb with
          | true => rw [d1 rfl]; rfl
          | false => rw [d2 rfl]; rfl
      · have e3 : (((s.getD 0 0).toNat : Int) == 48) = false := beq_eq_false_iff_ne.2 (by omega)
        have e4 : ((s.getD 0 0).toNat == 48) = false := by simpa using h3
        have e5 : (decide (s.length < 1) || decide (3 < s.length) || decide (1 < s.length) && (s.getD 0 0).toNat == 48) = false := by
          rw [e4, Bool.and_false, Bool.or_false, Bool.or_eq_false_iff]; exact ⟨decide_eq_false h1, decide_eq_false (by omega)⟩
        rw [e3, e5]
        cases bb with
        | true => rw [d1 rfl]; rfl
        | false => rw [d2 rfl]; rfl
  · have g3 : decide (((s.length : Nat) : Int) > 3) = true := decide_eq_true (by omega)
    have g1 : decide (((s.length : Nat) : Int) < 1) = false := decide_eq_false (by omega)
    have no : ∀ {x : Prop}, decide (((s.length : Nat) : Int) > 3) = false → x := fun h => by rw [g3] at h; simp at h
    refine ifE (rIx0 (n := 0) (bb := true) (fun _ h => no h) (fun _ h => no h) (fun _ h => no h) (fun _ h => no h) (fun _ h => no h)) ?_
    rw [g1, g3]
    unfold idxB
    have e5 : (decide (s.length < 1) || decide (3 < s.length) || decide (1 < s.length) && (s.getD 0 0).toNat == 48) = true := by
      rw [decide_eq_true (show 3 < s.length by omega)]; simp
    rw [e5]
    rfl
end Go.Proofs.Ytpkmddkodchanaa
