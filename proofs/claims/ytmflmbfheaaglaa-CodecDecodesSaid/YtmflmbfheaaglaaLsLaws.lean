import Derived.Test.YtmflmbfheaaglaaLsLawsW
import Derived.Test.YtmflmbfheaaglaaLsCod6
set_option linter.unusedVariables false
set_option maxRecDepth 100000
set_option linter.unusedSimpArgs false
namespace Go.Proofs.Ytmflmbfheaaglaa
open Go Go.LS
theorem okZ : okV (.mk 0 0 [] [] []) := okV_mk (by decide) (by decide) (by simp) (by simp) (by simp) (by simp) (by simp)
theorem encC_ne (v : Val) : encC v ≠ [] := by
  obtain ⟨k, n, s, is, ns⟩ := v
  have := (@encC_parts k n s is ns).1
  intro h; rw [h] at this; simp at this
theorem vEncY {v : Val} (hok : okV v) (hd : depthV v ≤ 1000000) (hs : checkV v = 0 → sizeW v = sizeV v) (h : ((checkV v) == 0) = true) : Runs lp 9 [encV v] [] (.tup [.sl (bs (encC v)) 0 (encC v).length, .p (.int .i64 0)], [.spare 1 (encC v).length]) := by
  have := vEnc hok hd hs
  rw [if_pos h] at this; exact this
theorem vEncN {v : Val} (hok : okV v) (hd : depthV v ≤ 1000000) (hs : checkV v = 0 → sizeW v = sizeV v) (h : ((checkV v) == 0) = false) : Runs lp 9 [encV v] [] (.tup [.tight [], .p (.int .i64 (checkV v))], []) := by
  have := vEnc hok hd hs
  rw [if_neg (by rw [h]; decide)] at this; exact this
theorem vDecY {L : List UInt8} {v : Val} (hL : L.length ≤ 140737488355328) (h : dec L = some v) : Runs lp 12 [.p (.sl (bs L))] [] (.tup [encV v, .p (.int .i64 0)], []) := by
  have := vDec hL; rw [h] at this; exact this
theorem vDecN {L : List UInt8} (hL : L.length ≤ 140737488355328) (h : dec L = none) : Runs lp 12 [.p (.sl (bs L))] [] (.tup [.agg [.p (.int .i64 0), .p (.int .i64 0), .p (.str []), .tight [], .tight []], .p (.int .i64 10)], []) := by
  have := vDec hL; rw [h] at this; exact this
theorem rDecY {L : List UInt8} {v : Val} (hL : L.length ≤ 140737488355328) (h : dec L = some v) : Runs lp 16 [.p (.sl (bs L))] [] (.tup [encV v, .p (.int .i64 0)], []) := by
  have := rDec hL; rw [h] at this; exact this
theorem rDecN {L : List UInt8} (hL : L.length ≤ 140737488355328) (h : dec L = none) : Runs lp 16 [.p (.sl (bs L))] [] (.tup [.agg [.p (.int .i64 0), .p (.int .i64 0), .p (.str []), .tight [], .tight []], .p (.int .i64 10)], []) := by
  have := rDec hL; rw [h] at this; exact this
theorem decodes (L : List UInt8) (hL : L.length ≤ 140737488355328) : Runs lp 4 [.p (.sl (bs L))] [] (.p (.bool true), []) := by
  cases hd : dec L with
  | some v =>
    obtain ⟨e1, e2, e3, e4⟩ := dec_some hd
    obtain ⟨k, n, s, is, ns⟩ := v
    have hm := (check_ok e2).1
    have hs : checkV (.mk k n s is ns) = 0 → sizeW (.mk k n s is ns) = sizeV (.mk k n s is ns) := fun _ => sizeW_small hm (by rw [e1]; omega)
    have hne : L ≠ [] := by rw [← e1]; exact encC_ne _
    refine ifE (lawD (okD := true) (fun _ => by simp only [List.length_nil]; omega) (fun _ => hne) (fun _ _ => vDecY hL hd) (fun _ _ => rDecY hL hd) (fun _ _ => rSame _ e3 _ e3) (fun _ _ _ h => vEncY e3 (by omega) hs h) (fun _ _ _ h => vEncN e3 (by omega) hs h)
      (fun _ h => by cases h) (fun _ h => by cases h) (fun _ h => by cases h)) ?_
    rw [sameV_refl, e1, e2]
    simp
  | none =>
    cases L with
    | nil =>
      refine ifE (lawDn (k := 0) (n := 0) (s := []) (is := []) (ns := []) (okD := false) (fun h => by cases h) (fun h => by cases h) (fun h => by cases h) (fun h => by cases h) (fun h => by cases h) (fun _ => vDecN hL hd) (fun _ => rDecN hL hd) (fun _ => rSame _ okZ _ okZ)) ?_
      rw [sameV_refl]; simp
    | cons c r =>
      refine ifE (lawD (k := 0) (n := 0) (s := []) (is := []) (ns := []) (L := c :: r) (okD := false) (fun _ => by simp only [List.length_nil]; omega) (fun _ => by simp) (fun _ h => by cases h) (fun _ h => by cases h) (fun _ h => by cases h) (fun _ h => by cases h) (fun _ h => by cases h)
        (fun _ _ => vDecN hL hd) (fun _ _ => rDecN hL hd) (fun _ _ => rSame _ okZ _ okZ)) ?_
      rw [sameV_refl]; simp
theorem cuts (v : Val) (hok : okV v) (z : Int) : Runs lp 6 [encV v, .p (.int .i64 z)] [] (.p (.bool true), []) := by
  obtain ⟨k, n, s, is, ns⟩ := v
  have hdp : largeV (.mk k n s is ns) = false → depthV (.mk k n s is ns) ≤ 1000000 := fun h => by have := small_depth hok h; omega
  have hs : largeV (.mk k n s is ns) = false → sizeW (.mk k n s is ns) = sizeV (.mk k n s is ns) := fun h => sizeW_eq hok h
  have hl : largeV (.mk k n s is ns) = false → ((checkV (.mk k n s is ns)) == 0) = true → (encC (.mk k n s is ns)).length ≤ 4096 := fun h h2 => code_small (eq_of_beq h2) (hs h)
  refine ifE (lawC (rLarge _ hok) (fun h => rCheck _ hok (hdp h)) (fun h h2 => rEnc _ hok (check_ok (eq_of_beq h2)).1 (by have := hl h h2; omega)) (fun _ _ h _ => by have := of_decide_eq_false h; omega)
    (fun _ _ _ h => by have := of_decide_eq_false h; rw [bs_len] at this; omega)
    (fun h h2 h3 h4 => vDecN (by have := hl h h2; rw [List.length_take]; omega) (dec_less hok (eq_of_beq h2) (hs h) (by have := of_decide_eq_false h4; rw [bs_len] at this; have := of_decide_eq_false h3; omega)))
    (fun h h2 _ _ => by have := hl h h2; simp only [List.length_nil]; omega) (fun _ _ _ _ => encC_ne _) (fun h h2 _ _ => by have := hl h h2; simp only [List.length_append, List.length_nil, List.length_singleton]; omega)
    (fun h h2 _ _ => vDecN (L := encC (.mk k n s is ns) ++ [UInt8.ofNat (Int.toNat (IntKind.wrap .u8 z))]) (by have := hl h h2; simp only [List.length_append, List.length_singleton]; omega) (dec_more hok (eq_of_beq h2) (hs h) (by simp)))) ?_
  simp
theorem readsNil : Runs lp 18 [.p .nilp] [] (.agg [.p (.int .i64 0), .p (.int .i64 0), .p (.str []), .p (.sl []), .p (.sl [])], []) := ⟨400, by kernel_rfl⟩
theorem reads_loop (z : Int) : ∀ (j i : Nat) (x : Src), i + j = 20 → x.1.length ≤ 20000 → ∃ y : Src, LoopN lp 0 (loopNo lf5 0) (tl 0 63 [(1, .p (.int .i64 z)), (5, .ptr 0 0 0), (6, .ptr 1 0 0), (7, .p (.int .i64 (i : Int)))])
    [.row [[.p (.sl (bs x.1)), .p (.bool x.2)]], .row [[.p (.sl (bs x.1)), .p (.bool x.2)]]] (.exit 0, tl 0 63 [], [.row [[.p (.sl (bs y.1)), .p (.bool y.2)]], .row [[.p (.sl (bs y.1)), .p (.bool y.2)]]]) := by
  intro j
  induction j with
  | zero =>
    intro i x hi hx
    cases hz : decide ((i : Int) < z) with
    | false => exact ⟨x, rdsR_n hz⟩
    | true => exact ⟨x, rdsR_yn hz (decide_eq_false (by omega))⟩
  | succ j ih =>
    intro i x hi hx
    cases hz : decide ((i : Int) < z) with
    | false => exact ⟨x, rdsR_n hz⟩
    | true =>
      have h1 := vRd8 x (by omega)
      have h2 := rRd8 x (by omega)
      have ho := sRead_ok x
      have hl := sRead_le x (by omega)
      generalize sRead x = q at *
      obtain ⟨⟨k, n, s, is, ns⟩, x2⟩ := q
      simp only at hl ho
      obtain ⟨y, hy⟩ := ih (i + 1) x2 (by omega) (by omega)
      exact ⟨y, rdsR_yyy hz (decide_eq_true (by omega)) h1 h2 (rSame _ ho.1 _ ho.1) (sameV_refl _) (vLeft x2) (rLeft x2) (by rw [nx (by omega)]; exact hy)⟩
theorem reads (L : List UInt8) (z : Int) : Runs lp 5 [.p (.sl (bs L)), .p (.int .i64 z)] [] (.p (.bool true), []) := by
  by_cases hl : L.length ≤ 20000
  · obtain ⟨y, hy⟩ := reads_loop z 20 0 (L, false) rfl hl
    by_cases hne : L = []
    · subst hne
      exact lawRn (x2 := y) (vfrom_p (L := [])) hy readsNil
    · refine ifE (lawR (x2 := y) (fun _ => by simp only [List.length_nil]; omega) (fun _ => hne) (fun _ => vfrom_p) (fun _ => hy) (fun _ => readsNil)) ?_
      simp
  · have hb : decide (((List.length (bs L) : Nat) : Int) > 20000) = true := decide_eq_true (by rw [bs_len]; omega)
    refine ifE (lawR (x2 := (L, false)) (fun h => by rw [hb] at h; cases h) (fun h => by rw [hb] at h; cases h) (fun h => by rw [hb] at h; cases h) (fun h => by rw [hb] at h; cases h) (fun h => by rw [hb] at h; cases h)) ?_
    simp
end Go.Proofs.Ytmflmbfheaaglaa
