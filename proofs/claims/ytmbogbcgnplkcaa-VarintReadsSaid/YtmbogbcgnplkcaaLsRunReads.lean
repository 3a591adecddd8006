/- VarintReads' run in LS tells true. -/
import Derived.Test.YtmbogbcgnplkcaaLsLaws2
import Derived.Test.YtmbogbcgnplkcaaLsArg
set_option linter.unusedVariables false
namespace Go.Proofs.Ytmbogbcgnplkcaa
open Go Go.LS

theorem sByte_len (s : Src) : (sByte s).2.1.length ≤ s.1.length := by unfold sByte; split <;> simp
theorem sInt_len (s : Src) : (sInt s).2.1.length ≤ s.1.length := by unfold sInt; split <;> simp
theorem sCount_len (s : Src) (m : Int) : (sCount s m).2.1.length ≤ s.1.length := by unfold sCount; split <;> simp
theorem sText_len (s : Src) (m : Int) : (sText s m).2.1.length ≤ s.1.length := by unfold sText; split <;> simp

abbrev rdT (E : List (List PV)) (i : Nat) : List LV := tl 0 117 [(1, .p (.sl E)), (5, .ptr 0 0 0), (6, .ptr 1 0 0), (7, .p (.int .i64 (i : Int)))]
abbrev st2 (s : Src) : List LObj := [.row [[.p (.sl (bs s.1)), .p (.bool s.2)]], .row [[.p (.sl (bs s.1)), .p (.bool s.2)]]]

theorem reads_loop (E : List (List PV)) (hE : ∀ e ∈ E, ∃ a b : Int, e = [.int .i64 a, .int .i64 b]) : ∀ (k i : Nat), k + i = 60 → ∀ s : Src, s.1.length ≤ 140737488355328 →
    ∃ s' : Src, LoopAt lp 0 (loopNo lf5 0).1 (loopNo lf5 0).2 (rdT E i) (st2 s) (.exit 0, tl 0 117 [], st2 s') := by
  intro k
  induction k with
  | zero =>
    intro i hk s hs
    refine ⟨s, ?_⟩
    by_cases h : i < E.length
    · exact readsR_yn (by simp; omega) (by simp; omega)
    · exact readsR_n (by simp; omega)
  | succ k ih =>
    intro i hk s hs
    by_cases h : i < E.length
    · have c1 : (decide ((i : Int) < ((List.length E : Nat) : Int))) = true := by simp; omega
      have c2 : (decide ((i : Int) < 60)) = true := by simp; omega
      have hm := List.getElem_mem h
      obtain ⟨kd, nn, he⟩ := hE _ hm
      have hi : E[i]? = some [.int .i64 kd, .int .i64 nn] := by rw [← he]; simp [h]
      have hw : IntKind.wrap .i64 ((i : Int) + 1) = ((i + 1 : Nat) : Int) := by rw [wrap_i64 (by omega) (by omega)]; rfl
      by_cases k1 : kd = 1
      · have hs' := sByte_len s
        obtain ⟨s', h'⟩ := ih (i + 1) (by omega) (sByte s).2 (by omega)
        refine ⟨s', readsR_yyy c1 c2 hi (by simp [k1]) ?_⟩
        rw [hw]; exact h'
      by_cases k2 : kd = 2
      · have hs' := sInt_len s
        obtain ⟨s', h'⟩ := ih (i + 1) (by omega) (sInt s).2 (by omega)
        refine ⟨s', readsR_yyny c1 c2 hi (by simp [k1]) (by simp [k2]) ?_⟩
        rw [hw]; exact h'
      by_cases k3 : kd = 3
      · have hs' := sCount_len s nn
        obtain ⟨s', h'⟩ := ih (i + 1) (by omega) (sCount s nn).2 (by omega)
        refine ⟨s', readsR_yynny c1 c2 hi (by simp [k1]) (by simp [k2]) (by simp [k3]) ?_⟩
        rw [hw]; exact h'
      by_cases k4 : kd = 4
      · have hs' := sText_len s nn
        obtain ⟨s', h'⟩ := ih (i + 1) (by omega) (sText s nn).2 (by omega)
        refine ⟨s', readsR_yynnny c1 c2 hi (by simp [k1]) (by simp [k2]) (by simp [k3]) (by simp [k4]) hs ?_⟩
        rw [hw]; exact h'
      by_cases k5 : kd = 5
      · obtain ⟨s', h'⟩ := ih (i + 1) (by omega) (s.1, true) hs
        refine ⟨s', readsR_yynnnny c1 c2 hi (by simp [k1]) (by simp [k2]) (by simp [k3]) (by simp [k4]) (by simp [k5]) ?_⟩
        rw [hw]; exact h'
      · obtain ⟨s', h'⟩ := ih (i + 1) (by omega) s hs
        refine ⟨s', readsR_yynnnnn c1 c2 hi (by simp [k1]) (by simp [k2]) (by simp [k3]) (by simp [k4]) (by simp [k5]) ?_⟩
        rw [hw]; exact h'
    · exact ⟨s, readsR_n (by simp; omega)⟩

theorem run5 : ∀ vs, OkArgs [(false, [.sl [.int .u8] 1]), (false, [.sl [.int .i64, .int .i64] 16])] vs → ∃ k st', runF lp k 5 vs [] = some (.p (.bool true), st') := by
  rintro vs ⟨_, _, rfl, ⟨_, _, rfl, ⟨B, rfl, hB1, hB2, hB3⟩, rfl⟩, ⟨_, _, rfl, ⟨_, _, rfl, ⟨E, rfl, hE1, hE2, hE3⟩, rfl⟩, rfl⟩⟩
  obtain ⟨b, rfl⟩ := okBytes hB3
  rw [bs_len] at hB1 hB2
  replace hB1 : b.length ≤ 140737488355328 := by simp [reachBytes] at hB1; omega
  have hE : ∀ e ∈ E, ∃ a b : Int, e = [.int .i64 a, .int .i64 b] := by
    intro e he
    obtain ⟨_, _, rfl, ⟨x, rfl, _, _⟩, ⟨_, _, rfl, ⟨y, rfl, _, _⟩, rfl⟩⟩ := hE3 e he
    exact ⟨x, y, rfl⟩
  obtain ⟨s', h⟩ := reads_loop E hE 60 0 rfl (b, false) hB1
  have key : Runs lp 5 [.p (.sl (bs b)), .p (.sl E)] [] (.p (.bool true), []) := by
    by_cases hb : b = []
    · subst hb
      exact reads_e (M := s'.1) (bad := s'.2) h
    · exact reads_n (M := s'.1) (bad := s'.2) (by simpa using hB1) hb h
  obtain ⟨k, hk⟩ := key
  exact ⟨k, _, hk⟩
end Go.Proofs.Ytmbogbcgnplkcaa
