/- VarintBack's run in LS tells true. -/
import Derived.Test.YtmbogbcgnplkcaaLsLaws2
import Derived.Test.YtmbogbcgnplkcaaLsBack
import Derived.Test.YtmbogbcgnplkcaaLsArg
set_option linter.unusedVariables false
namespace Go.Proofs.Ytmbogbcgnplkcaa
open Go Go.LS

theorem run6 : ∀ vs, OkArgs [(false, [.int .i64]), (false, [.str]), (false, [.int .i64])] vs → ∃ k st', runF lp k 6 vs [] = some (.p (.bool true), st') := by
  rintro vs ⟨_, _, rfl, ⟨_, _, rfl, ⟨x, rfl, h0, h1⟩, rfl⟩, ⟨_, _, rfl, ⟨_, _, rfl, ⟨s, rfl, hs⟩, rfl⟩, ⟨_, _, rfl, ⟨_, _, rfl, ⟨n, rfl, g0, g1⟩, rfl⟩, rfl⟩⟩⟩
  replace h0 : -9223372036854775808 ≤ x := h0
  replace h1 : x ≤ 9223372036854775807 := h1
  replace g0 : -9223372036854775808 ≤ n := g0
  replace g1 : n ≤ 9223372036854775807 := g1
  have hx := int_runs h0 h1
  have ht := text_runs hs
  have key : Runs lp 6 [.p (.int .i64 x), .p (.str s), .p (.int .i64 n)] [] (.p (.bool true), []) := by
    by_cases hn : 0 ≤ n ∧ n ≤ 4611686018427387904
    · have hc := count_runs (n := n.toNat) (by omega)
      rw [Int.toNat_of_nonneg hn.1] at hc
      by_cases hl : s.length > 65536
      · exact back_yy (by simpa using hn) hc (by simp; omega)
      · have e : ((([] : List UInt8) ++ (vcode (zz x))) ++ (vcode s.length ++ s)) ++ (vcode (Int.toNat n)) = vcode (zz x) ++ (vcode s.length ++ s ++ (vcode n.toNat ++ [])) := by simp
        have e1 := sInt_back h0 h1 (vcode s.length ++ s ++ (vcode n.toNat ++ []))
        have e2 := sText_back (s := s) (most := 65536) (by omega) (by omega) (vcode n.toNat ++ [])
        have e3 := sCount_back (n := n.toNat) (most := n) (by omega) (by omega) []
        have v1 := vcode_len (zz x) (zz_lt h0 h1)
        have v2 := vcode_len s.length (by omega)
        have v3 := vcode_len n.toNat (by omega)
        have := back_ynnny (x := x) (n := n) (s := s)
        rw [e] at this
        simp only [e1, e2, e3, sDone] at this
        have hne : vcode (zz x) ≠ [] := by intro h; have := vcode_pos (zz x); rw [h] at this; simp at this
        simp [Int.toNat_of_nonneg hn.1] at this
        have ht' : Runs lp 12 [LV.p (PV.str s)] [] (LV.sl (bs (vcode s.length ++ s)) 0 ((vcode s.length).length + s.length), [LObj.spare 1 ((vcode s.length).length + s.length)]) := by simpa using ht
        exact @this hn.1 hn.2 hc (by omega) hx (by omega) hne ht' (by omega) (by omega) (by omega)
    · have hc := count_bad (x := n) (by omega)
      by_cases hl : s.length > 65536
      · exact back_ny (by simpa using hn) hc (by simp; omega)
      · have e : ((([] : List UInt8) ++ (vcode (zz x))) ++ (vcode s.length ++ s)) ++ [] = vcode (zz x) ++ (vcode s.length ++ s ++ []) := by simp
        have e1 := sInt_back h0 h1 (vcode s.length ++ s ++ [])
        have e2 := sText_back (s := s) (most := 65536) (by omega) (by omega) []
        have v1 := vcode_len (zz x) (zz_lt h0 h1)
        have v2 := vcode_len s.length (by omega)
        have := back_nnnn (x := x) (n := n) (s := s)
        rw [e] at this
        simp only [e1, e2, sLeft] at this
        have hne : vcode (zz x) ≠ [] := by intro h; have := vcode_pos (zz x); rw [h] at this; simp at this
        have ht' : Runs lp 12 [LV.p (PV.str s)] [] (LV.sl (bs (vcode s.length ++ s)) 0 ((vcode s.length).length + s.length), [LObj.spare 1 ((vcode s.length).length + s.length)]) := by simpa using ht
        simp at this
        exact @this (by omega) hc (by omega) hx (by omega) hne ht' (by omega) (by omega)
  obtain ⟨k, hk⟩ := key
  exact ⟨k, _, hk⟩
end Go.Proofs.Ytmbogbcgnplkcaa
