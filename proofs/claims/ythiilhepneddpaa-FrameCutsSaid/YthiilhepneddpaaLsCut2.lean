/- FrameCuts' loops. -/
import Derived.Test.YthiilhepneddpaaLsCut1
set_option linter.unusedVariables false
set_option linter.unusedSimpArgs false
set_option maxRecDepth 100000
namespace Go.Proofs.Ythiilhepneddpaa
open Go Go.LS

def fewL (L : List (List UInt8)) : Bool := decide (L.length ≤ 50) && L.all fun x => decide (x.length ≤ 500)
theorem getD_mem (L : List (List UInt8)) {i : Nat} (h : i < L.length) : L.getD i [] ∈ L := by
  rw [List.getD, List.getElem?_eq_getElem h]; exact List.getElem_mem h
theorem frame_le {x : List UInt8} (h : x.length ≤ 500) : (frame x).length ≤ 514 := by
  have := vcode_len x.length (by omega)
  rw [frame_len]; omega
theorem joined_le : ∀ (L : List (List UInt8)), (∀ x ∈ L, x.length ≤ 500) → (joined L).length ≤ 514 * L.length
  | [], _ => by simp [joined]
  | x :: r, h => by
    have h1 := joined_le r (fun y hy => h y (List.mem_cons_of_mem _ hy))
    have h2 := frame_le (h x (List.mem_cons_self ..))
    simp only [joined, List.map_cons, List.flatten_cons, List.length_append, List.length_cons] at *
    omega
theorem joined_snoc (L : List (List UInt8)) {i : Nat} (h : i < L.length) : joined (L.take (i + 1)) = joined (L.take i) ++ frame (L.getD i []) := by
  rw [List.take_add_one, List.getD, List.getElem?_eq_getElem h]
  simp only [joined, List.map_append, List.flatten_append, Option.toList_some, List.map_cons, List.map_nil, List.flatten_cons, List.flatten_nil, List.append_nil, Option.getD_some]

abbrev tB (L : List (List UInt8)) (n : Int) (i : Nat) (B : List UInt8) : List LV := tl 0 92 [(0, .p (.sl (ef L))), (1, .p (.int .i64 n)), (5, .p (.int .i64 0)), (6, .sl (bs B) 0 B.length), (7, .p (.int .i64 (i : Int)))]
abbrev tE (L : List (List UInt8)) (n : Int) (B : List UInt8) : List LV := tl 0 92 [(0, .p (.sl (ef L))), (1, .p (.int .i64 n)), (5, .p (.int .i64 0)), (6, .sl (bs B) 0 B.length)]

theorem all_few {L : List (List UInt8)} (hl : L.length ≤ 1000000) {n : Int} (hf : fewL L = true) : ∀ (k i : Nat), k + i = L.length → 
    LoopAt lp 0 (loopNo lf6 0).1 (loopNo lf6 0).2 (tB L n i (joined (L.take i))) [.spare 1 (joined (L.take i)).length] (.exit 0, tE L n (joined L), [.spare 1 (joined L).length]) := by
  simp only [fewL, Bool.and_eq_true, decide_eq_true_eq, List.all_eq_true] at hf
  intro k
  induction k with
  | zero =>
    intro i h
    have e : L.take i = L := List.take_of_length_le (by omega)
    rw [e]
    exact cutB_n (by rw [ef_len]; exact decide_eq_false (by omega))
  | succ k ih =>
    intro i h
    have hi : i < L.length := by omega
    have hx := hf.2 _ (getD_mem L hi)
    have hj := joined_le (L.take i) (fun x hx => hf.2 x (List.mem_of_mem_take hx))
    have hfl := frame_le hx
    rw [List.length_take] at hj
    refine cutB_ynn (by rw [ef_len]; exact decide_eq_true (by omega)) (decide_eq_false (by omega)) hi (by rw [bs_len]; exact decide_eq_false (by omega)) (by omega) (by omega) ?_
    have := ih (i + 1) (by omega)
    rw [joined_snoc L hi] at this
    rw [wrap_i64 (by omega) (by omega)]
    exact this
theorem all_many {L : List (List UInt8)} (hl : L.length ≤ 140737488355328) {n : Int} (hf : fewL L = false) : ∀ (k i : Nat), k + i = L.length → i ≤ 50 → (∀ x ∈ L.take i, x.length ≤ 500) →
    ∃ M, LoopAt lp 0 (loopNo lf6 0).1 (loopNo lf6 0).2 (tB L n i (joined (L.take i))) [.spare 1 (joined (L.take i)).length] (.ret, tl 0 92 [(4, .p (.bool true))], [.spare 1 M]) := by
  intro k
  induction k with
  | zero =>
    intro i h hi ha
    have e : L.take i = L := List.take_of_length_le (by omega)
    rw [e] at ha
    have : fewL L = true := by
      simp only [fewL, Bool.and_eq_true, decide_eq_true_eq, List.all_eq_true]
      exact ⟨by omega, ha⟩
    rw [this] at hf
    cases hf
  | succ k ih =>
    intro i h hi2 ha
    have hi : i < L.length := by omega
    by_cases h50 : 50 ≤ i
    · exact ⟨_, cutB_yy (by rw [ef_len]; exact decide_eq_true (by omega)) (decide_eq_true (by omega))⟩
    · by_cases h500 : 500 < (L.getD i []).length
      · exact ⟨_, cutB_yny (by rw [ef_len]; exact decide_eq_true (by omega)) (decide_eq_false (by omega)) hi (by rw [bs_len]; exact decide_eq_true (by omega))⟩
      · have hj := joined_le (L.take i) ha
        have hfl := frame_le (x := L.getD i []) (by omega)
        rw [List.length_take] at hj
        have := ih (i + 1) (by omega) (by omega) (by
          intro x hx
          rw [List.take_add_one, List.mem_append] at hx
          rcases hx with hx | hx
          · exact ha x hx
          · rw [List.getElem?_eq_getElem hi] at hx
            simp at hx
            subst hx
            rw [List.getD, List.getElem?_eq_getElem hi] at h500
            simp at h500; omega)
        obtain ⟨M, this⟩ := this
        refine ⟨M, ?_⟩
        refine cutB_ynn (by rw [ef_len]; exact decide_eq_true (by omega)) (decide_eq_false (by omega)) hi (by rw [bs_len]; exact decide_eq_false (by omega)) (by omega) (by omega) ?_
        rw [joined_snoc L hi] at this
        rw [wrap_i64 (by omega) (by omega)]
        exact this
theorem cut_few {L : List (List UInt8)} (hl : L ≠ []) {n : Int} (hf : fewL L = true) :
    LoopAt lp 0 (loopNo lf6 0).1 (loopNo lf6 0).2 (tl 0 92 [(0, .p (.sl (ef L))), (1, .p (.int .i64 n)), (5, .p (.int .i64 0)), (6, .tight []), (7, .p (.int .i64 0))]) [] (.exit 0, tE L n (joined L), [.spare 1 (joined L).length]) := by
  have hp : 0 < L.length := List.length_pos_iff.2 hl
  have hf0 := hf
  simp only [fewL, Bool.and_eq_true, decide_eq_true_eq, List.all_eq_true] at hf
  have hx := hf.2 _ (getD_mem L hp)
  have hfl := frame_le hx
  have hpos := frame_pos (L.getD 0 [])
  refine cutB0_yn (by rw [ef_len]; exact decide_eq_true (by omega)) hp (by rw [bs_len]; exact decide_eq_false (by omega)) (by omega) (by simp only [List.length_nil]; omega) (by intro h; rw [h] at hpos; simp at hpos) ?_
  have := all_few (n := n) (by omega) hf0 (L.length - 1) 1 (by omega)
  rw [joined_snoc L hp] at this
  exact this
theorem cut_many0 {L : List (List UInt8)} {n : Int} (h0 : L ≠ []) (h500 : 500 < (L.getD 0 []).length) :
    LoopAt lp 0 (loopNo lf6 0).1 (loopNo lf6 0).2 (tl 0 92 [(0, .p (.sl (ef L))), (1, .p (.int .i64 n)), (5, .p (.int .i64 0)), (6, .tight []), (7, .p (.int .i64 0))]) [] (.ret, tl 0 92 [(4, .p (.bool true))], []) := by
  have hp : 0 < L.length := List.length_pos_iff.2 h0
  exact cutB0_yy (by rw [ef_len]; exact decide_eq_true (by omega)) hp (by rw [bs_len]; exact decide_eq_true (by omega))
theorem cut_many {L : List (List UInt8)} (hl : L.length ≤ 140737488355328) {n : Int} (hf : fewL L = false) (h500 : ¬ 500 < (L.getD 0 []).length) :
    ∃ M, LoopAt lp 0 (loopNo lf6 0).1 (loopNo lf6 0).2 (tl 0 92 [(0, .p (.sl (ef L))), (1, .p (.int .i64 n)), (5, .p (.int .i64 0)), (6, .tight []), (7, .p (.int .i64 0))]) [] (.ret, tl 0 92 [(4, .p (.bool true))], [.spare 1 M]) := by
  have hp : 0 < L.length := by
    cases L with
    | nil => cases hf
    | cons => simp
  have hfl := frame_le (x := L.getD 0 []) (by omega)
  have hpos := frame_pos (L.getD 0 [])
  have := all_many (n := n) hl hf (L.length - 1) 1 (by omega) (by omega) (by
      intro x hx
      rw [List.take_add_one, List.mem_append] at hx
      rcases hx with hx | hx
      · simp at hx
      · rw [List.getElem?_eq_getElem hp] at hx
        simp at hx
        subst hx
        rw [List.getD, List.getElem?_eq_getElem hp] at h500
        simp at h500; omega)
  obtain ⟨M, this⟩ := this
  refine ⟨M, ?_⟩
  rw [joined_snoc L hp] at this
  exact cutB0_yn (by rw [ef_len]; exact decide_eq_true (by omega)) hp (by rw [bs_len]; exact decide_eq_false (by omega)) (by omega) (by simp only [List.length_nil]; omega) (by intro h; rw [h] at hpos; simp at hpos) this

abbrev tW (L : List (List UInt8)) (n : Int) (B : List UInt8) (s w : Nat) : List LV := tl 0 92 [(0, .p (.sl (ef L))), (1, .p (.int .i64 n)), (5, .p (.int .i64 (s : Int))), (6, .sl (bs B) 0 B.length), (8, .p (.int .i64 (w : Int)))]
theorem whole_loop {L : List (List UInt8)} (hf : fewL L = true) {n : Nat} {B : List UInt8} (hn : n ≤ 1000000) : ∀ (k w s : Nat), k + w = L.length → s ≤ n →
    LoopAt lp 0 (loopNo lf6 1).1 (loopNo lf6 1).2 (tW L n B s w) [.spare 1 B.length] (.exit 2, tW L n B (s + (wn (L.drop w) (n - s)).2) (w + (wn (L.drop w) (n - s)).1), [.spare 1 B.length]) ∨
    ∃ M, LoopAt lp 0 (loopNo lf6 1).1 (loopNo lf6 1).2 (tW L n B s w) [.spare 1 B.length] (.exit 2, tW L n B (s + (wn (L.drop w) (n - s)).2) (w + (wn (L.drop w) (n - s)).1), [.spare 1 B.length, .spare 1 M]) := by
  simp only [fewL, Bool.and_eq_true, decide_eq_true_eq, List.all_eq_true] at hf
  intro k
  induction k with
  | zero =>
    intro w s h hs
    rw [List.drop_eq_nil_of_le (by omega)]
    exact .inl (cutW_n (by rw [ef_len]; exact decide_eq_false (by omega)))
  | succ k ih =>
    intro w s h hs
    have hw : w < L.length := by omega
    have hx := hf.2 _ (getD_mem L hw)
    have hfl := frame_le hx
    have e : L.drop w = L.getD w [] :: L.drop (w + 1) := by
      rw [List.drop_eq_getElem_cons hw, List.getD, List.getElem?_eq_getElem hw]; rfl
    have e2 : IntKind.wrap .i64 ((s : Int) + ((List.length (bs (frame (L.getD w []))) : Nat) : Int)) = ((s + (frame (L.getD w [])).length : Nat) : Int) := by
      rw [bs_len, wrap_i64 (by omega) (by omega)]; omega
    by_cases hle : (frame (L.getD w [])).length ≤ n - s
    · have ihh := ih (w + 1) (s + (frame (L.getD w [])).length) (by omega) (by omega)
      rw [e, wn, if_pos hle]
      have q1 : s + (frame (L.getD w [])).length + (wn (L.drop (w + 1)) (n - (s + (frame (L.getD w [])).length))).2 = s + ((frame (L.getD w [])).length + (wn (L.drop (w + 1)) (n - s - (frame (L.getD w [])).length)).2) := by rw [Nat.sub_add_eq]; omega
      have q2 : w + 1 + (wn (L.drop (w + 1)) (n - (s + (frame (L.getD w [])).length))).1 = w + ((wn (L.drop (w + 1)) (n - s - (frame (L.getD w [])).length)).1 + 1) := by rw [Nat.sub_add_eq]; omega
      rw [q1, q2] at ihh
      have go : ∀ r, LoopAt lp 0 (loopNo lf6 1).1 (loopNo lf6 1).2 (tW L n B (s + (frame (L.getD w [])).length) (w + 1)) [.spare 1 B.length] r → LoopAt lp 0 (loopNo lf6 1).1 (loopNo lf6 1).2 (tW L n B s w) [.spare 1 B.length] r := by
        intro r hr
        refine cutW_yy (by rw [ef_len]; exact decide_eq_true (by omega)) hw (by omega) (by rw [e2]; exact decide_eq_true (by omega)) ?_
        rw [e2, wrap_i64 (by omega) (by omega)]
        exact hr
      rcases ihh with ihh | ⟨M, ihh⟩
      · exact .inl (go _ ihh)
      · exact .inr ⟨M, go _ ihh⟩
    · rw [e, wn, if_neg hle]
      exact .inr ⟨_, cutW_yn (n := (n : Int)) (s := s) (by rw [ef_len]; exact decide_eq_true (by omega)) hw (by omega) (by rw [e2]; exact decide_eq_false (by omega))⟩
end Go.Proofs.Ythiilhepneddpaa
