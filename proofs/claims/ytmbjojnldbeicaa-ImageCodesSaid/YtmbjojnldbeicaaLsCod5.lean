import Derived.Test.YtmbjojnldbeicaaLsCod4
set_option linter.unusedVariables false
set_option linter.unusedSimpArgs false
set_option maxRecDepth 100000
set_option linter.unusedSimpArgs false
namespace Go.Proofs.Ytmbjojnldbeicaa
open Go Go.LS
theorem sizeV_pos : ∀ v, 1 ≤ sizeV v := by
  refine Val.ind fun k n s is ns ih => ?_
  have h0 : ∀ l, (∀ v ∈ l, v ∈ is) → 0 ≤ sizeL l := by
    intro l
    induction l with
    | nil => intro _; simp [sizeL]
    | cons v r ihr => intro h; have := ih v (h v (by simp)); have := ihr (fun w hw => h w (by simp [hw])); simp only [sizeL]; omega
  have h1 := h0 is (fun _ h => h)
  have h2 : ∀ l : List (List UInt8), 0 ≤ (l.map tlenN).sum := by
    intro l
    induction l with
    | nil => simp
    | cons x r ihr => simp only [List.map_cons, List.sum_cons, tlenN]; omega
  have := h2 ns
  rw [sizeV]
  simp only [tlenN, clenN]
  repeat' split
  all_goals omega
theorem shape_parts {k n : Int} {s : List UInt8} {l : Nat} {ns : List (List UInt8)} (h : shapeB k n s l ns = true) :
    (k = 1 ∧ n = 0 ∧ s = [] ∧ l = 0 ∧ ns = []) ∨ (k = 2 ∧ (0 ≤ n ∧ n ≤ 1) ∧ s = [] ∧ l = 0 ∧ ns = []) ∨ (k = 3 ∧ s = [] ∧ l = 0 ∧ ns = []) ∨ ((k = 4 ∨ k = 5) ∧ n = 0 ∧ l = 0 ∧ ns = []) ∨ (k = 6 ∧ n = 0 ∧ s = [] ∧ ns = []) ∨ (k = 7 ∧ n = 0 ∧ s = [] ∧ ns.length = l) := by
  unfold shapeB at h
  by_cases h1 : k = 1
  · subst h1; simp at h; simp [h]
  · by_cases h2 : k = 2
    · subst h2; simp at h; simp [h]
    · by_cases h3 : k = 3
      · subst h3; simp at h; simp [h]
      · by_cases h4 : k = 4 ∨ k = 5
        · have h4' : (k == 4 || k == 5) = true := by simpa using h4
          rw [if_neg (by simpa using h1), if_neg (by simpa using h2), if_neg (by simpa using h3), if_pos h4'] at h
          simp at h
          exact .inr (.inr (.inr (.inl ⟨h4, by simp [h]⟩)))
        · have h4' : ¬ (k == 4 || k == 5) = true := by simpa using h4
          rw [if_neg (by simpa using h1), if_neg (by simpa using h2), if_neg (by simpa using h3), if_neg h4'] at h
          by_cases h6 : k = 6
          · subst h6; simp at h; simp [h]
          · by_cases h7 : k = 7
            · subst h7; simp at h; simp [h]
            · rw [if_neg (by simpa using h6), if_neg (by simpa using h7)] at h; cases h
end Go.Proofs.Ytmbjojnldbeicaa
