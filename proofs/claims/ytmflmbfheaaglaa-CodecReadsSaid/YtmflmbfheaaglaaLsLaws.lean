import Derived.Test.YtmflmbfheaaglaaLsLawsW
import Derived.Test.YtmflmbfheaaglaaLsCod6
set_option linter.unusedVariables false
set_option maxRecDepth 100000
set_option linter.unusedSimpArgs false
namespace Go.Proofs.Ytmflmbfheaaglaa
open Go Go.LS
theorem readsNil : Runs lp 18 [.p .nilp] [] (.agg [.p (.int .i64 0), .p (.int .i64 0), .p (.str []), .p (.sl []), .p (.sl [])], []) := ⟨400, by kernel_rfl⟩
theorem reads_loop (z : Int) : ∀ (j i : Nat) (x : Src), i + j = 20 → x.1.length ≤ 20000 → ∃ y : Src, LoopN lp 0 (loopNo lf5 0) (tl 0 63 [(1, .p (.int .i64 z)), (5, .ptr 0 0 0), (6, .ptr 1 0 0), (7, .p (.int .i64 (i : Int)))])
    [.row [[.p (.sl (bs x.1)), .p (.bool x.2)]], .row [[.p (.sl (bs x.1)), .p (.bool x.2)]]] (.exit 0, tl 0 63 [], [.row [[.p (.sl (bs y.1)), .p (.bool y.2)]], .row [[.p (.sl (bs y.1)), .p (.bool y.2)]]]) := by
  intro j
  induction j with
  | zero =>
    intro i x hi hx
    cases hz : decide ((i : Int) < z) with
    | false => exact ⟨x, rdsR_n hz⟩
    | true => exact ⟨x, rdsR_yn hz (decide_eq_false (by omega))⟩
  | succ j ih =>
    intro i x hi hx
    cases hz : decide ((i : Int) < z) with
    | false => exact ⟨x, rdsR_n hz⟩
    | true =>
      have h1 := vRd8 x (by omega)
      have h2 := rRd8 x (by omega)
      have ho := sRead_ok x
      have hl := sRead_le x (by omega)
      generalize sRead x = q at *
      obtain ⟨⟨k, n, s, is, ns⟩, x2⟩ := q
      simp only at hl ho
      obtain ⟨y, hy⟩ := ih (i + 1) x2 (by omega) (by omega)
      exact ⟨y, rdsR_yyy hz (decide_eq_true (by omega)) h1 h2 (rSame _ ho.1 _ ho.1) (sameV_refl _) (vLeft x2) (rLeft x2) (by rw [nx (by omega)]; exact hy)⟩
theorem codecR (L : List UInt8) (z : Int) : Runs lp 5 [.p (.sl (bs L)), .p (.int .i64 z)] [] (.p (.bool true), []) := by
  by_cases hl : L.length ≤ 20000
  · obtain ⟨y, hy⟩ := reads_loop z 20 0 (L, false) rfl hl
    by_cases hne : L = []
    · subst hne
      exact lawRn (x2 := y) (vfrom_p (L := [])) hy readsNil
    · refine ifE (lawR (x2 := y) (fun _ => by simp only [List.length_nil]; omega) (fun _ => hne) (fun _ => vfrom_p) (fun _ => hy) (fun _ => readsNil)) ?_
      simp
  · have hb : decide (((List.length (bs L) : Nat) : Int) > 20000) = true := decide_eq_true (by rw [bs_len]; omega)
    refine ifE (lawR (x2 := (L, false)) (fun h => by rw [hb] at h; cases h) (fun h => by rw [hb] at h; cases h) (fun h => by rw [hb] at h; cases h) (fun h => by rw [hb] at h; cases h) (fun h => by rw [hb] at h; cases h)) ?_
    simp
end Go.Proofs.Ytmflmbfheaaglaa
